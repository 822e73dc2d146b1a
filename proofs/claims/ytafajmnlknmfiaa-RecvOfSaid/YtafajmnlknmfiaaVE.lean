/- Plain laws of ipv4: what is written is read; what is read is written; another time to live. -/
import Derived.Test.YtafajmnlknmfiaaVC
namespace Go.Proofs.Ytafajmnlknmfiaa
set_option linter.unusedSimpArgs false
set_option linter.unusedVariables false
open Go.RowKit

def headH (p : PktN) : List UInt8 := [u8 (64 + (5 + p.opts.length / 4 : Nat)), u8 p.tos] ++ (put16 [(20 + p.opts.length + p.data.length : Nat), p.id, wordP p] ++ [u8 p.ttl, u8 p.proto])
theorem headH_len (p : PktN) : (headH p).length = 10 := by simp [headH, length_put16]
theorem ipHeadB_mid (p : PktN) (x : Int) : ipHeadB p x = headH p ++ (put16 [x] ++ (put32 [p.src, p.dst] ++ p.opts)) := by simp [ipHeadB, headH]
theorem head_ones (p : PktN) : onesF (topB p) = 65535 := by
  have := fills_law (headH p) (put32 [p.src, p.dst] ++ p.opts) (by rw [headH_len])
  rw [← put16_0, ← ipHeadB_mid, ← ipHeadB_mid] at this
  exact this
theorem ipP_B (p : PktN) (l : List UInt8) (hp : p.ok) (hm : pktMay p = true) : ipP (ipB p ++ l) = (p, 0) := by
  obtain ⟨k1, k2, k3, k4, k5, k6, k7⟩ := hp
  simp only [pktMay, Bool.and_eq_true, decide_eq_true_eq] at hm
  obtain ⟨m1, m2, m3, m4⟩ := hm
  have hw : 0 ≤ wordP p ∧ wordP p < 32768 := by unfold wordP; split <;> split <;> omega
  have hon := head_ones p
  have htl : (topB p).length = 20 + p.opts.length := ipHeadB_len _ _
  obtain ⟨b, hb⟩ : ∃ b, b = ipB p ++ l := ⟨_, rfl⟩
  rw [← hb]
  have hbt : b = topB p ++ (p.data ++ l) := by rw [hb, ipB, List.append_assoc]
  have hlen : b.length = 20 + p.opts.length + (p.data.length + l.length) := by rw [hbt]; simp [htl]
  obtain ⟨z, hz⟩ : ∃ z, z = p.opts ++ (p.data ++ l) := ⟨_, rfl⟩
  have hbz : b = [u8 (64 + (5 + p.opts.length / 4 : Nat)), u8 p.tos] ++ (put16 [(20 + p.opts.length + p.data.length : Nat)] ++ (put16 [p.id] ++ (put16 [wordP p] ++ ([u8 p.ttl, u8 p.proto] ++ (put16 [ipX p] ++ (put32 [p.src] ++ (put32 [p.dst] ++ z))))))) := by
    rw [hbt, topB, hz]
    simp [ipHeadB, put16, put32]
  have f0 : byteN b 0 = 64 + (5 + p.opts.length / 4 : Nat) := by
    have := byteN_at [] (u8 p.tos :: (put16 [(20 + p.opts.length + p.data.length : Nat)] ++ (put16 [p.id] ++ (put16 [wordP p] ++ ([u8 p.ttl, u8 p.proto] ++ (put16 [ipX p] ++ (put32 [p.src] ++ (put32 [p.dst] ++ z)))))))) 0 (u8 (64 + (5 + p.opts.length / 4 : Nat))) rfl
    rw [hbz]
    refine this.trans ?_
    rw [u8_toNat]; omega
  have f1 : byteN b 1 = p.tos := by
    have := byteN_at [u8 (64 + (5 + p.opts.length / 4 : Nat))] (put16 [(20 + p.opts.length + p.data.length : Nat)] ++ (put16 [p.id] ++ (put16 [wordP p] ++ ([u8 p.ttl, u8 p.proto] ++ (put16 [ipX p] ++ (put32 [p.src] ++ (put32 [p.dst] ++ z))))))) 1 (u8 p.tos) rfl
    rw [hbz]
    refine this.trans ?_
    rw [u8_toNat]; omega
  have f2 : get16 b 2 = (20 + p.opts.length + p.data.length : Nat) := by
    rw [hbz]
    exact get16_at [u8 (64 + (5 + p.opts.length / 4 : Nat)), u8 p.tos] _ 2 _ rfl (by omega)
  have f4 : get16 b 4 = p.id := by
    have := get16_at ([u8 (64 + (5 + p.opts.length / 4 : Nat)), u8 p.tos] ++ put16 [(20 + p.opts.length + p.data.length : Nat)]) (put16 [wordP p] ++ ([u8 p.ttl, u8 p.proto] ++ (put16 [ipX p] ++ (put32 [p.src] ++ (put32 [p.dst] ++ z))))) 4 p.id (by simp [length_put16]) k2
    rw [List.append_assoc] at this
    rw [hbz]; exact this
  have f6 : get16 b 6 = wordP p := by
    have := get16_at ([u8 (64 + (5 + p.opts.length / 4 : Nat)), u8 p.tos] ++ (put16 [(20 + p.opts.length + p.data.length : Nat)] ++ put16 [p.id])) ([u8 p.ttl, u8 p.proto] ++ (put16 [ipX p] ++ (put32 [p.src] ++ (put32 [p.dst] ++ z)))) 6 (wordP p) (by simp [length_put16]) (by omega)
    rw [List.append_assoc, List.append_assoc] at this
    rw [hbz]; exact this
  have f8 : byteN b 8 = p.ttl := by
    have := byteN_at ([u8 (64 + (5 + p.opts.length / 4 : Nat)), u8 p.tos] ++ (put16 [(20 + p.opts.length + p.data.length : Nat)] ++ (put16 [p.id] ++ put16 [wordP p]))) (u8 p.proto :: (put16 [ipX p] ++ (put32 [p.src] ++ (put32 [p.dst] ++ z)))) 8 (u8 p.ttl) (by simp [length_put16])
    rw [List.append_assoc, List.append_assoc, List.append_assoc] at this
    rw [hbz]
    refine this.trans ?_
    rw [u8_toNat]; omega
  have f9 : byteN b 9 = p.proto := by
    have := byteN_at ([u8 (64 + (5 + p.opts.length / 4 : Nat)), u8 p.tos] ++ (put16 [(20 + p.opts.length + p.data.length : Nat)] ++ (put16 [p.id] ++ (put16 [wordP p] ++ [u8 p.ttl])))) (put16 [ipX p] ++ (put32 [p.src] ++ (put32 [p.dst] ++ z))) 9 (u8 p.proto) (by simp [length_put16])
    rw [List.append_assoc, List.append_assoc, List.append_assoc, List.append_assoc] at this
    rw [hbz]
    refine this.trans ?_
    rw [u8_toNat]; omega
  have f12 : get32 b 12 = p.src := by
    have := get32_at ([u8 (64 + (5 + p.opts.length / 4 : Nat)), u8 p.tos] ++ (put16 [(20 + p.opts.length + p.data.length : Nat)] ++ (put16 [p.id] ++ (put16 [wordP p] ++ ([u8 p.ttl, u8 p.proto] ++ put16 [ipX p]))))) (put32 [p.dst] ++ z) 12 p.src (by simp [length_put16]) k6
    rw [List.append_assoc, List.append_assoc, List.append_assoc, List.append_assoc, List.append_assoc] at this
    rw [hbz]; exact this
  have f16 : get32 b 16 = p.dst := by
    have := get32_at ([u8 (64 + (5 + p.opts.length / 4 : Nat)), u8 p.tos] ++ (put16 [(20 + p.opts.length + p.data.length : Nat)] ++ (put16 [p.id] ++ (put16 [wordP p] ++ ([u8 p.ttl, u8 p.proto] ++ (put16 [ipX p] ++ put32 [p.src])))))) z 16 p.dst (by simp [length_put16, length_put32]) k7
    rw [List.append_assoc, List.append_assoc, List.append_assoc, List.append_assoc, List.append_assoc, List.append_assoc] at this
    rw [hbz]; exact this
  have hsz : 4 * (byteN b 0 - 64) = (20 + p.opts.length : Nat) := by rw [f0]; omega
  have htk : b.take ((20 + p.opts.length : Nat) : Int).toNat = topB p := by
    rw [hbt, Int.toNat_natCast, List.take_left' htl]
  have f20 : cutB b 20 ((20 + p.opts.length : Nat) - 20) = p.opts := by
    have ht : thereB b.length 20 (((20 + p.opts.length : Nat) : Int) - 20) = true := thereB_iff.2 (by rw [hlen]; omega)
    have e : b = (headH p ++ (put16 [ipX p] ++ put32 [p.src, p.dst])) ++ (p.opts ++ (p.data ++ l)) := by rw [hbt, topB, ipHeadB_mid]; simp
    have l20 : (headH p ++ (put16 [ipX p] ++ put32 [p.src, p.dst])).length = 20 := by simp [headH_len, length_put16, length_put32]
    rw [cutB, if_pos ht, e, show (20 : Int).toNat = (headH p ++ (put16 [ipX p] ++ put32 [p.src, p.dst])).length by rw [l20]; rfl, List.drop_left, List.take_left' (by omega)]
  have fdt : cutB b (20 + p.opts.length : Nat) ((20 + p.opts.length + p.data.length : Nat) - (20 + p.opts.length : Nat)) = p.data := by
    have ht : thereB b.length (20 + p.opts.length : Nat) (((20 + p.opts.length + p.data.length : Nat) : Int) - (20 + p.opts.length : Nat)) = true := thereB_iff.2 (by rw [hlen]; omega)
    rw [cutB, if_pos ht, hbt, Int.toNat_natCast, ← htl, List.drop_left, List.take_left' (by omega)]
  have hH : ipHd b = (((20 + p.opts.length : Nat) : Int), ((20 + p.opts.length + p.data.length : Nat) : Int), (0 : Int)) := by
    rw [ipHd, if_neg (by omega), if_neg (by omega), hsz, if_neg (by omega), htk, if_neg (by simpa using hon), f2, f6, if_neg (by omega), if_neg (by omega)]
  have hdf : decide (wordP p / 16384 % 2 = 1) = p.df := by
    rw [Bool.eq_iff_iff, decide_eq_true_eq]
    unfold wordP
    cases p.df <;> cases p.mf <;> simp <;> omega
  have hmf : decide (wordP p / 8192 % 2 = 1) = p.mf := by
    rw [Bool.eq_iff_iff, decide_eq_true_eq]
    unfold wordP
    cases p.df <;> cases p.mf <;> simp <;> omega
  have hof : wordP p % 8192 = p.off := by
    unfold wordP
    split <;> split <;> omega
  rw [ipP, hH, if_pos rfl]
  simp only
  rw [f1, f4, f6, f8, f9, f12, f16, f20, fdt, hdf, hmf, hof]
/-- What is read may be, and its bytes but the sum are those that were read. -/
theorem u8_byteN (b : List UInt8) (k : Nat) : u8 (byteN b k) = b.getD k 0 := by
  apply UInt8.toNat_inj.1
  have := u8_toNat (byteN b k)
  have h := byteN_bd b k
  unfold byteN at *
  omega
theorem put16_at2 (b : List UInt8) (k : Nat) (h : k + 2 ≤ b.length) : put16 [get16 b k] = [b.getD k 0, b.getD (k + 1) 0] := by
  rw [get16_bytes b k h]
  have h1 := byteN_bd b k
  have h2 := byteN_bd b (k + 1)
  have e1 : (byteN b k * 256 + byteN b (k + 1)) / 256 = byteN b k := by omega
  have e2 : u8 (byteN b k * 256 + byteN b (k + 1)) = u8 (byteN b (k + 1)) := by
    unfold u8; congr 2; omega
  simp only [put16]
  rw [e1, e2, u8_byteN, u8_byteN]
theorem get32_bytes (b : List UInt8) (k : Nat) (h : k + 4 ≤ b.length) : get32 b k = byteN b k * 16777216 + byteN b (k + 1) * 65536 + byteN b (k + 2) * 256 + byteN b (k + 3) := by
  have hb : thereB b.length k 4 = true := thereB_iff.2 (by omega)
  rw [get32, if_pos hb, Int.toNat_natCast]
  have e : (b.drop k).take 4 = [b.getD k 0, b.getD (k + 1) 0, b.getD (k + 2) 0, b.getD (k + 3) 0] := by
    apply List.ext_getElem
    · simp; omega
    · intro i h1 h2
      simp at h2
      have : i = 0 ∨ i = 1 ∨ i = 2 ∨ i = 3 := by omega
      rcases this with rfl | rfl | rfl | rfl
      · simp [List.getD, show k < b.length by omega]
      · simp [List.getD, show k + 1 < b.length by omega]
      · simp [List.getD, show k + 2 < b.length by omega]
      · simp [List.getD, show k + 3 < b.length by omega]
  rw [e]
  have h1 := (b.getD k 0).toNat_lt
  have h2 := (b.getD (k + 1) 0).toNat_lt
  have h3 := (b.getD (k + 2) 0).toNat_lt
  have h4 := (b.getD (k + 3) 0).toNat_lt
  simp only [num, List.foldl_cons, List.foldl_nil, byteN]
  omega
theorem put32_at4 (b : List UInt8) (k : Nat) (h : k + 4 ≤ b.length) : put32 [get32 b k] = [b.getD k 0, b.getD (k + 1) 0, b.getD (k + 2) 0, b.getD (k + 3) 0] := by
  rw [get32_bytes b k h]
  have h1 := byteN_bd b k
  have h2 := byteN_bd b (k + 1)
  have h3 := byteN_bd b (k + 2)
  have h4 := byteN_bd b (k + 3)
  generalize hN : byteN b k * 16777216 + byteN b (k + 1) * 65536 + byteN b (k + 2) * 256 + byteN b (k + 3) = N
  have e0 : u8 (N / 16777216) = u8 (byteN b k) := by unfold u8; congr 2; omega
  have e1 : u8 (N / 65536) = u8 (byteN b (k + 1)) := by unfold u8; congr 2; omega
  have e2 : u8 (N / 256) = u8 (byteN b (k + 2)) := by unfold u8; congr 2; omega
  have e3 : u8 N = u8 (byteN b (k + 3)) := by unfold u8; congr 2; omega
  simp only [put32]
  rw [e0, e1, e2, e3, u8_byteN, u8_byteN, u8_byteN, u8_byteN]

theorem fill_back (a b : List UInt8) (s : Int) (ha : a.length % 2 = 0) (h0 : 0 ≤ s) (h1 : s < 65535) (h : onesF (a ++ (put16 [s] ++ b)) = 65535) : 65535 - onesF (a ++ ([0, 0] ++ b)) = s := by
  have e1 := raw_mid a b s ha h0 (by omega)
  have e2 := raw_mid a b 0 ha (by omega) (by omega)
  rw [put16_0] at e2
  unfold onesF at *
  rw [e1] at h
  rw [e2]
  have m1 := foldF_mod (raw a + s + raw b)
  have m2 := foldF_mod (raw a + 0 + raw b)
  have p2 := foldF_pos (n := (raw a : Int) + 0 + raw b)
  have b2 := foldF_bd (raw a + 0 + raw b)
  have z1 := foldF_eq_zero (n := (raw a : Int) + s + raw b) (by omega)
  by_cases hz : (raw a : Int) + 0 + raw b = 0
  · have : ¬ ((raw a : Int) + s + raw b = 0) := fun e => by have := z1.2 e; omega
    omega
  · have := p2 (by omega)
    omega
theorem take_range (b : List UInt8) (n : Nat) (h : n ≤ b.length) : b.take n = (List.range n).map fun i => b.getD i 0 := by
  apply List.ext_getElem
  · simp; omega
  · intro i h1 h2
    simp at h1 h2
    simp [List.getD, show i < b.length by omega]
theorem take_20 (b : List UInt8) (h : 20 ≤ b.length) : b.take 20 = [b.getD 0 0, b.getD 1 0, b.getD 2 0, b.getD 3 0, b.getD 4 0, b.getD 5 0, b.getD 6 0, b.getD 7 0, b.getD 8 0, b.getD 9 0, b.getD 10 0, b.getD 11 0, b.getD 12 0, b.getD 13 0, b.getD 14 0, b.getD 15 0, b.getD 16 0, b.getD 17 0, b.getD 18 0, b.getD 19 0] := take_range b 20 h
theorem cutB_nat (b : List UInt8) (k n : Nat) (h : k + n ≤ b.length) : cutB b k n = (b.drop k).take n := by
  rw [cutB, if_pos (thereB_iff.2 (by omega))]
  simp
/-- What is read may be written: its bytes, if the sum is none of 65535. -/
theorem get32_bd6 (l : List UInt8) (k : Int) : 0 ≤ get32 l k ∧ get32 l k ≤ 4294967295 := by
  unfold get32
  split
  · have := num_lt ((l.drop k.toNat).take 4)
    omega
  · omega
theorem ipP_ok (b : List UInt8) (he : (ipP b).2 = 0) : (ipP b).1.ok ∧ pktMay (ipP b).1 = true ∧ 20 ≤ get16 b 2 ∧ get16 b 2 ≤ b.length ∧ (ipHeadB (ipP b).1 (get16 b 10)) ++ (ipP b).1.data = b.take (get16 b 2).toNat ∧ onesF (ipHeadB (ipP b).1 (get16 b 10)) = 65535 := by
  rcases ipHd_cases b with hc | ⟨h0, h1, h2, h3, h4, h5, h6, h7, h8, h9, h10⟩
  · rw [ipP, if_neg (by omega)] at he
    simp only at he
    omega
  obtain ⟨sz, hsz⟩ : ∃ sz : Nat, (ipHd b).1 = (sz : Int) := ⟨(ipHd b).1.toNat, by omega⟩
  have n2 := get16_bd b 2
  have n4 := get16_bd b 4
  have n6 := get16_bd b 6
  have n10 := get16_bd b 10
  obtain ⟨al, hal⟩ := Int.eq_ofNat_of_zero_le n2.1
  have b1 := byteN_bd b 1
  have b8 := byteN_bd b 8
  have b9 := byteN_bd b 9
  have c1 : cutB b 20 ((sz : Int) - 20) = (b.drop 20).take (sz - 20) := by
    have := cutB_nat b 20 (sz - 20) (by omega)
    rw [← this]
    congr 1
    omega
  have c2 : cutB b sz (get16 b 2 - (sz : Int)) = (b.drop sz).take (al - sz) := by
    have := cutB_nat b sz (al - sz) (by omega)
    rw [← this]
    congr 1
    omega
  have hP : ipP b = (⟨byteN b 1, get16 b 4, decide (get16 b 6 / 16384 % 2 = 1), decide (get16 b 6 / 8192 % 2 = 1), get16 b 6 % 8192, byteN b 8, byteN b 9, get32 b 12, get32 b 16, (b.drop 20).take (sz - 20), (b.drop sz).take (al - sz)⟩, 0) := by
    rw [ipP, if_pos h0, h5, hsz, c1, c2]
  have lo : ((b.drop 20).take (sz - 20)).length = sz - 20 := by simp; omega
  have ld : ((b.drop sz).take (al - sz)).length = al - sz := by simp; omega
  have ht20 := take_20 b (by omega)
  have hts : b.take sz = b.take 20 ++ (b.drop 20).take (sz - 20) := by
    have := List.take_add (l := b) (i := 20) (j := sz - 20)
    rw [← this]; congr 1; omega
  have hword : wordP (ipP b).1 = get16 b 6 := by
    rw [hP]
    simp only [wordP, decide_eq_true_eq]
    split <;> split <;> omega
  have hB : ipHeadB (ipP b).1 (get16 b 10) = b.take sz := by
    rw [hts, ht20, ipHeadB, hword]
    rw [hP]
    simp only [lo, ld]
    rw [show (64 : Int) + ((5 + (sz - 20) / 4 : Nat) : Int) = byteN b 0 by omega, show ((20 + (sz - 20) + (al - sz) : Nat) : Int) = get16 b 2 by omega]
    rw [show put16 [get16 b 2, get16 b 4, get16 b 6] = put16 [get16 b 2] ++ (put16 [get16 b 4] ++ put16 [get16 b 6]) by simp [put16], show put32 [get32 b 12, get32 b 16] = put32 [get32 b 12] ++ put32 [get32 b 16] by simp [put32]]
    have p2 := put16_at2 b 2 (by omega)
    have p4 := put16_at2 b 4 (by omega)
    have p6 := put16_at2 b 6 (by omega)
    have p10 := put16_at2 b 10 (by omega)
    have p12 := put32_at4 b 12 (by omega)
    have p16 := put32_at4 b 16 (by omega)
    have q2 : put16 [get16 b 2] = _ := p2
    have q4 : put16 [get16 b 4] = _ := p4
    have q6 : put16 [get16 b 6] = _ := p6
    have q10 : put16 [get16 b 10] = _ := p10
    have q12 : put32 [get32 b 12] = _ := p12
    have q16 : put32 [get32 b 16] = _ := p16
    rw [q2, q4, q6, q10, q12, q16, u8_byteN, u8_byteN, u8_byteN, u8_byteN]
    simp
  refine ⟨?_, ?_, by omega, by omega, ?_, ?_⟩
  · rw [hP]
    exact ⟨b1, n4, by simp only; omega, b8, b9, get32_bd6 _ _, get32_bd6 _ _⟩
  · rw [hP]
    simp only [pktMay, lo, ld, Bool.and_eq_true, decide_eq_true_eq]
    omega
  · rw [hB, hP]
    simp only
    have := List.take_add (l := b) (i := sz) (j := al - sz)
    rw [← this]
    congr 1
    omega
  · rw [hB]
    have : (ipHd b).1.toNat = sz := by omega
    rw [this] at h7
    exact h7
theorem ipBack_law (b : List UInt8) (he : (ipP b).2 = 0) (hs : ¬ get16 b 10 = 65535) : ipB (ipP b).1 = b.take (get16 b 2).toNat := by
  obtain ⟨h1, h2, h3, h4, h5, h6⟩ := ipP_ok b he
  have n10 := get16_bd b 10
  rw [ipHeadB_mid] at h6
  have hf := fill_back _ _ _ (by rw [headH_len]) n10.1 (by omega) h6
  rw [← put16_0, ← ipHeadB_mid] at hf
  have hx : ipX (ipP b).1 = get16 b 10 := by
    unfold ipX
    exact hf
  rw [← h5, ipB, topB, hx]

/-! ### another time to live -/
theorem byteN_set (l : List UInt8) (k : Nat) (x : Int) (h : k + 2 ≤ l.length) (hx : 0 ≤ x ∧ x ≤ 65535) (i : Nat) : byteN (set16 l k x) i = if i = k then x / 256 else if i = k + 1 then x % 256 else byteN l i := by
  rw [set16, if_pos (thereB_iff.2 (by omega)), Int.toNat_natCast]
  have u1 := u8_toNat (x / 256)
  have u2 := u8_toNat x
  unfold byteN
  simp only [List.getD, List.getElem?_set, List.length_set]
  by_cases h1 : i = k
  · subst h1
    rw [if_neg (show ¬ i + 1 = i by omega), if_pos rfl, if_pos rfl, if_pos (by omega)]
    simp only [Option.getD_some]
    omega
  · by_cases h2 : i = k + 1
    · subst h2
      rw [if_pos rfl, if_pos (by omega), if_neg (by omega), if_pos rfl]
      simp only [Option.getD_some]
      omega
    · rw [if_neg (show ¬ k + 1 = i by omega), if_neg (show ¬ k = i by omega), if_neg h1, if_neg h2]
theorem drop_set16 (l : List UInt8) (k : Nat) (x : Int) (n : Nat) (h : k + 2 ≤ n) : (set16 l k x).drop n = if thereB l.length k 2 then l.drop n else [] := by
  unfold set16
  split
  · rw [Int.toNat_natCast, List.drop_set_of_lt (by omega), List.drop_set_of_lt (by omega)]
  · simp
theorem byteN_take (b : List UInt8) (n i : Nat) (h : i < n) : byteN (b.take n) i = byteN b i := by
  unfold byteN
  simp [List.getD, List.getElem?_take, h]
theorem turn_ones (h t : List UInt8) (old was next : Int) (hh : h.length % 2 = 0) (ho : 0 ≤ old ∧ old ≤ 65535) (hw : 0 ≤ was ∧ was ≤ 65535) (hn : 0 ≤ next ∧ next ≤ 65535) (hp : 0 < raw h)
    (hs : onesF (h ++ (put16 [old] ++ (put16 [was] ++ t))) = 65535) : onesF (h ++ (put16 [next] ++ (put16 [turnF was old next] ++ t))) = 65535 := by
  have l16 : ∀ z : Int, (h ++ put16 [z]).length % 2 = 0 := fun z => by simp [length_put16]; omega
  have tb := turnF_bd was old next
  have e1 := raw_mid (h ++ put16 [old]) t was (l16 _) hw.1 hw.2
  have e2 := raw_mid (h ++ put16 [next]) t (turnF was old next) (l16 _) tb.1 tb.2
  have e3 := raw_mid h [] old hh ho.1 ho.2
  have e4 := raw_mid h [] next hh hn.1 hn.2
  simp only [List.append_nil, List.append_assoc] at e1 e2 e3 e4
  have z : raw [] = 0 := rfl
  rw [z] at e3 e4
  unfold onesF at *
  rw [e1, e3] at hs
  rw [e2, e4]
  unfold turnF at *
  have m1 := foldF_mod ((raw h : Int) + old + ((0 : Nat) : Int) + was + raw t)
  have m2 := foldF_mod (65535 - was + (65535 - old) + next)
  have m3 := foldF_mod ((raw h : Int) + next + ((0 : Nat) : Int) + (65535 - foldF (65535 - was + (65535 - old) + next)) + raw t)
  have p3 := foldF_pos (n := (raw h : Int) + next + ((0 : Nat) : Int) + (65535 - foldF (65535 - was + (65535 - old) + next)) + raw t)
  have b3 := foldF_bd ((raw h : Int) + next + ((0 : Nat) : Int) + (65535 - foldF (65535 - was + (65535 - old) + next)) + raw t)
  have := p3 (by omega)
  omega
theorem list_ext_byteN {l m : List UInt8} (hl : l.length = m.length) (h : ∀ i, i < l.length → byteN l i = byteN m i) : l = m := by
  apply List.ext_getElem hl
  intro i h1 h2
  have := h i h1
  unfold byteN at this
  simp only [List.getD, List.getElem?_eq_getElem h1, List.getElem?_eq_getElem h2, Option.getD_some] at this
  exact UInt8.toNat_inj.1 (by omega)
theorem byteN_app (a b : List UInt8) (i : Nat) : byteN (a ++ b) i = if i < a.length then byteN a i else byteN b (i - a.length) := by
  unfold byteN
  split
  · rename_i h; simp [List.getD, List.getElem?_append_left h]
  · rename_i h; simp [List.getD, List.getElem?_append_right (by omega : a.length ≤ i)]
theorem get16_congr {b c : List UInt8} {k : Nat} (h1 : k + 2 ≤ b.length) (h2 : k + 2 ≤ c.length) (e0 : byteN b k = byteN c k) (e1 : byteN b (k + 1) = byteN c (k + 1)) : get16 b k = get16 c k := by
  rw [get16_bytes b k h1, get16_bytes c k h2, e0, e1]
theorem get32_congr {b c : List UInt8} {k : Nat} (h1 : k + 4 ≤ b.length) (h2 : k + 4 ≤ c.length) (e : ∀ i, k ≤ i → i < k + 4 → byteN b i = byteN c i) : get32 b k = get32 c k := by
  rw [get32_bytes b k h1, get32_bytes c k h2, e k (by omega) (by omega), e (k + 1) (by omega) (by omega), e (k + 2) (by omega) (by omega), e (k + 3) (by omega) (by omega)]
theorem ipTurn_law (b : List UInt8) (ttl : Int) (ht : 0 ≤ ttl ∧ ttl ≤ 255) (he : (ipP b).2 = 0) : ipP (ipT (b.take (get16 b 2).toNat) ttl) = ({ (ipP b).1 with ttl := ttl }, 0) := by
  have h20 : (ipHd b).2.2 = 0 := by
    rw [ipP] at he
    split at he
    · assumption
    · exact he
  rcases ipHd_cases b with hc | ⟨h0, h1, h2, h3, h4, h5, h6, h7, h8, h9, h10⟩
  · omega
  obtain ⟨sz, hsz⟩ : ∃ sz : Nat, (ipHd b).1 = (sz : Int) := ⟨(ipHd b).1.toNat, by omega⟩
  have n2 := get16_bd b 2
  obtain ⟨al, hal⟩ := Int.eq_ofNat_of_zero_le n2.1
  obtain ⟨c, hc⟩ : ∃ c, c = b.take (get16 b 2).toNat := ⟨_, rfl⟩
  have hcl : c.length = al := by rw [hc, hal]; simp; omega
  have hcb : ∀ i, i < al → byteN c i = byteN b i := fun i hi => by rw [hc]; exact byteN_take b _ i (by omega)
  have m8 := get16_bd c 8
  have m10 := get16_bd c 10
  have hnx : 0 ≤ nextT c ttl ∧ nextT c ttl ≤ 65535 := by unfold nextT; omega
  have htf := turnF_bd (get16 c 10) (get16 c 8) (nextT c ttl)
  obtain ⟨d, hd⟩ : ∃ d, d = ipT c ttl := ⟨_, rfl⟩
  have t8 : thereB c.length 8 2 = true := thereB_iff.2 (by omega)
  have hl1 : (set16 c 8 (nextT c ttl)).length = al := by rw [length_set16 _ _ _ t8, hcl]
  have t10 : thereB (set16 c 8 (nextT c ttl)).length 10 2 = true := thereB_iff.2 (by omega)
  have hdl : d.length = al := by rw [hd, ipT, length_set16 _ _ _ t10, hl1]
  have hdb : ∀ i, byteN d i = if i = 10 then turnF (get16 c 10) (get16 c 8) (nextT c ttl) / 256 else if i = 11 then turnF (get16 c 10) (get16 c 8) (nextT c ttl) % 256 else if i = 8 then nextT c ttl / 256 else if i = 9 then nextT c ttl % 256 else byteN c i := by
    intro i
    have e1 := byteN_set (set16 c 8 (nextT c ttl)) 10 (turnF (get16 c 10) (get16 c 8) (nextT c ttl)) (by omega) htf i
    have e2 := byteN_set c 8 (nextT c ttl) (by omega) hnx i
    rw [hd, ipT]
    refine e1.trans ?_
    rw [show (10 + 1 : Nat) = 11 from rfl]
    congr 2
  have g8 : get16 c 8 = byteN c 8 * 256 + byteN c 9 := get16_bytes c 8 (by omega)
  have c9 := byteN_bd c 9
  have c8 := byteN_bd c 8
  have d8 : byteN d 8 = ttl := by rw [hdb]; simp [nextT]; omega
  have d9 : byteN d 9 = byteN b 9 := by rw [hdb, ← hcb 9 (by omega)]; simp [nextT]; omega
  have dk : ∀ i, i < al → i ≠ 8 → i ≠ 9 → i ≠ 10 → i ≠ 11 → byteN d i = byteN b i := fun i hi a1 a2 a3 a4 => by rw [hdb, if_neg a3, if_neg a4, if_neg a1, if_neg a2, hcb i hi]
  have q0 : byteN d 0 = byteN b 0 := dk 0 (by omega) (by omega) (by omega) (by omega) (by omega)
  have q1 : byteN d 1 = byteN b 1 := dk 1 (by omega) (by omega) (by omega) (by omega) (by omega)
  have q2 : get16 d 2 = get16 b 2 := get16_congr (k := 2) (by omega) (by omega) (dk 2 (by omega) (by omega) (by omega) (by omega) (by omega)) (dk 3 (by omega) (by omega) (by omega) (by omega) (by omega))
  have q4 : get16 d 4 = get16 b 4 := get16_congr (k := 4) (by omega) (by omega) (dk 4 (by omega) (by omega) (by omega) (by omega) (by omega)) (dk 5 (by omega) (by omega) (by omega) (by omega) (by omega))
  have q6 : get16 d 6 = get16 b 6 := get16_congr (k := 6) (by omega) (by omega) (dk 6 (by omega) (by omega) (by omega) (by omega) (by omega)) (dk 7 (by omega) (by omega) (by omega) (by omega) (by omega))
  have q12 : get32 d 12 = get32 b 12 := get32_congr (k := 12) (by omega) (by omega) (fun i _ _ => dk i (by omega) (by omega) (by omega) (by omega) (by omega))
  have q16 : get32 d 16 = get32 b 16 := get32_congr (k := 16) (by omega) (by omega) (fun i _ _ => dk i (by omega) (by omega) (by omega) (by omega) (by omega))
  have hdrop : ∀ n, 12 ≤ n → d.drop n = c.drop n := fun n hn => by
    have e1 := drop_set16 (set16 c 8 (nextT c ttl)) 10 (turnF (get16 c 10) (get16 c 8) (nextT c ttl)) n (by omega)
    have e2 := drop_set16 c 8 (nextT c ttl) n (by omega)
    rw [hd, ipT]
    refine e1.trans ?_
    rw [if_pos (show thereB (set16 c 8 (nextT c ttl)).length ((10 : Nat) : Int) 2 = true from t10)]
    refine e2.trans ?_
    rw [if_pos (show thereB c.length ((8 : Nat) : Int) 2 = true from t8)]
  have hcut : ∀ (k n : Nat), 12 ≤ k → k + n ≤ al → cutB d k n = cutB b k n := fun k n hk hkn => by
    rw [cutB_nat d k n (by omega), cutB_nat b k n (by omega), hdrop k hk, hc, hal, List.drop_take, List.take_take]
    congr 1
    omega
  -- the sum
  have hones : onesF (d.take sz) = 65535 := by
    have h7' : onesF (b.take sz) = 65535 := by
      have : (ipHd b).1.toNat = sz := by omega
      rw [this] at h7
      exact h7
    have hct : b.take sz = c.take sz := by rw [hc, hal, List.take_take]; congr 1; omega
    rw [hct] at h7'
    have lc : (c.take sz).length = sz := by simp; omega
    have ld : (d.take sz).length = sz := by simp; omega
    have eC : c.take sz = c.take 8 ++ (put16 [get16 c 8] ++ (put16 [get16 c 10] ++ (c.take sz).drop 12)) := by
      have p8 : put16 [get16 c 8] = _ := put16_at2 c 8 (by omega)
      have p10 : put16 [get16 c 10] = _ := put16_at2 c 10 (by omega)
      rw [p8, p10]
      have e1 : c.take sz = (c.take sz).take 12 ++ (c.take sz).drop 12 := (List.take_append_drop 12 _).symm
      have e2 : (c.take sz).take 12 = c.take 12 := by rw [List.take_take]; congr 1; omega
      rw [e2, take_range c 12 (by omega)] at e1
      rw [take_range c 8 (by omega)]
      exact e1
    have eD : d.take sz = c.take 8 ++ (put16 [nextT c ttl] ++ (put16 [turnF (get16 c 10) (get16 c 8) (nextT c ttl)] ++ (c.take sz).drop 12)) := by
      have g8' : get16 d 8 = nextT c ttl := by
        have := get16_bytes d 8 (by omega)
        rw [show ((8 : Nat) : Int) = 8 from rfl] at this
        rw [this, hdb, hdb]
        simp
        omega
      have g10' : get16 d 10 = turnF (get16 c 10) (get16 c 8) (nextT c ttl) := by
        have := get16_bytes d 10 (by omega)
        rw [show ((10 : Nat) : Int) = 10 from rfl] at this
        rw [this, hdb, hdb]
        simp
        omega
      have p8 : put16 [get16 d 8] = _ := put16_at2 d 8 (by omega)
      have p10 : put16 [get16 d 10] = _ := put16_at2 d 10 (by omega)
      rw [← g10', ← g8', p8, p10]
      have e1 : d.take sz = (d.take sz).take 12 ++ (d.take sz).drop 12 := (List.take_append_drop 12 _).symm
      have e2 : (d.take sz).take 12 = d.take 12 := by rw [List.take_take]; congr 1; omega
      have e3 : (d.take sz).drop 12 = (c.take sz).drop 12 := by rw [List.drop_take, List.drop_take, hdrop 12 (by omega)]
      have e4 : c.take 8 = d.take 8 := by
        refine list_ext_byteN (by simp; omega) (fun i hi => ?_)
        have hi8 : i < 8 := by simp at hi; omega
        rw [byteN_take _ _ _ hi8, byteN_take _ _ _ hi8, hcb i (by omega), dk i (by omega) (by omega) (by omega) (by omega) (by omega)]
      rw [e2, take_range d 12 (by omega), e3] at e1
      rw [e4, take_range d 8 (by omega)]
      exact e1
    rw [eD]
    rw [eC] at h7'
    refine turn_ones _ _ _ _ _ (by simp; omega) m8 m10 hnx ?_ h7'
    refine raw_pos _ ?_
    rw [take_range c 8 (by omega)]
    have hb0 : byteN c 0 = byteN b 0 := hcb 0 (by omega)
    simp only [List.any_map, List.any_eq_true, Function.comp, List.mem_range]
    refine ⟨0, by omega, ?_⟩
    rw [bne_iff_ne]
    intro hz
    unfold byteN at hb0 h2
    rw [hz] at hb0
    have : ((0 : UInt8).toNat : Int) = 0 := rfl
    omega
  have hH : ipHd d = ((sz : Int), get16 b 2, (0 : Int)) := by
    have hszd : 4 * (byteN d 0 - 64) = (sz : Int) := by rw [q0]; omega
    rw [ipHd, if_neg (by omega), if_neg (by omega), hszd, if_neg (by omega), Int.toNat_natCast, if_neg (by simpa using hones), q6, q2, if_neg (by omega), if_neg (by omega)]
  rw [← hc, ← hd, ipP, hH, if_pos rfl, ipP, if_pos h0]
  simp only
  rw [q1, q4, q6, d8, d9, q12, q16, h5, hsz]
  have cA : cutB d 20 ((sz : Int) - 20) = cutB b 20 ((sz : Int) - 20) := by
    have := hcut 20 (sz - 20) (by omega) (by omega)
    rw [show ((sz - 20 : Nat) : Int) = (sz : Int) - 20 by omega] at this
    exact this
  have cB : cutB d sz (get16 b 2 - (sz : Int)) = cutB b sz (get16 b 2 - (sz : Int)) := by
    have := hcut sz (al - sz) (by omega) (by omega)
    rw [show ((al - sz : Nat) : Int) = get16 b 2 - (sz : Int) by omega] at this
    exact this
  rw [cA, cB]
end Go.Proofs.Ytafajmnlknmfiaa
