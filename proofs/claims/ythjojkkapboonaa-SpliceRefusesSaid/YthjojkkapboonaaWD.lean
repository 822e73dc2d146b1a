/- splice.word, splice.Bytes: the bytes that are turned word by word; the law of their sums. -/
import Derived.Test.YthjojkkapboonaaWB
namespace Go.Proofs.Ythjojkkapboonaa
set_option linter.unusedSimpArgs false
set_option linter.unusedVariables false
open Go.RowKit

def turn32 (s o n : Int) : Int := turnF (turnF s (o / 65536) (n / 65536)) (o % 65536) (n % 65536)
theorem turn32_bd (s o n : Int) : 0 ≤ turn32 s o n ∧ turn32 s o n ≤ 65535 := turnF_bd _ _ _
/-- A word of four bytes, and the sum that turns with it. -/
def wordB (b : List UInt8) (k : Nat) (n : Int) : List UInt8 := set16 (set16 (set16 b k (n / 65536)) (k + 2 : Nat) (n % 65536)) 16 (turn32 (get16 b 16) (get32 b k) n)
theorem put32_halves (n : Int) : put32 [n] = put16 [n / 65536] ++ put16 [n % 65536] := by
  have e1 : u8 (n / 65536 / 256) = u8 (n / 16777216) := by congr 1; omega
  have e2 : u8 (n % 65536 / 256) = u8 (n / 256) := by unfold u8; congr 2; omega
  have e3 : u8 (n % 65536) = u8 n := by unfold u8; congr 2; omega
  simp [put32, put16, e1, e2, e3]
theorem set16_mid (a b : List UInt8) (k : Nat) (x y : Int) (hk : k = a.length) : set16 (a ++ (put16 [x] ++ b)) k y = a ++ (put16 [y] ++ b) := by
  subst hk
  rw [set16, if_pos (thereB_iff.2 (by simp [length_put16]; omega)), Int.toNat_natCast]
  have two : ∀ (A B : List UInt8) (p q u v : UInt8), ((A ++ p :: q :: B).set A.length u).set (A.length + 1) v = A ++ u :: v :: B := by
    intro A B p q u v
    induction A with
    | nil => rfl
    | cons z A ih => simp only [List.cons_append, List.length_cons, List.set_cons_succ, ih]
  exact two a b _ _ _ _
theorem wordB_mid (a m r : List UInt8) (k : Nat) (o c n : Int) (hk : k = a.length) (hm : k + 4 + m.length = 16) (ho : 0 ≤ o ∧ o ≤ 4294967295) (hc : 0 ≤ c ∧ c ≤ 65535) :
    wordB (a ++ (put32 [o] ++ (m ++ (put16 [c] ++ r)))) k n = a ++ (put32 [n] ++ (m ++ (put16 [turn32 c o n] ++ r))) := by
  have g1 : get16 (a ++ (put32 [o] ++ (m ++ (put16 [c] ++ r)))) 16 = c := by
    have := get16_at (a ++ (put32 [o] ++ m)) r 16 c (by simp [length_put32]; omega) hc
    simpa using this
  have g2 : get32 (a ++ (put32 [o] ++ (m ++ (put16 [c] ++ r)))) k = o := get32_at a _ k o hk ho
  rw [wordB, g1, g2, put32_halves o]
  have e1 : set16 (a ++ (put16 [o / 65536] ++ put16 [o % 65536] ++ (m ++ (put16 [c] ++ r)))) k (n / 65536) = (a ++ put16 [n / 65536]) ++ (put16 [o % 65536] ++ (m ++ (put16 [c] ++ r))) := by
    have := set16_mid a (put16 [o % 65536] ++ (m ++ (put16 [c] ++ r))) k (o / 65536) (n / 65536) hk
    simpa using this
  have e2 : set16 ((a ++ put16 [n / 65536]) ++ (put16 [o % 65536] ++ (m ++ (put16 [c] ++ r)))) (k + 2 : Nat) (n % 65536) = (a ++ (put32 [n] ++ m)) ++ (put16 [c] ++ r) := by
    rw [set16_mid (a ++ put16 [n / 65536]) _ (k + 2) (o % 65536) (n % 65536) (by simp [length_put16]; omega), put32_halves n]
    simp
  have e3 : set16 ((a ++ (put32 [n] ++ m)) ++ (put16 [c] ++ r)) (16 : Nat) (turn32 c o n) = (a ++ (put32 [n] ++ m)) ++ (put16 [turn32 c o n] ++ r) :=
    set16_mid (a ++ (put32 [n] ++ m)) r 16 c _ (by simp [length_put32]; omega)
  rw [e1, e2]
  refine e3.trans ?_
  simp
/-- The bytes of a segment that is turned. -/
def spW (b : List UInt8) (x : SegN) : List UInt8 := wordB (wordB (wordB b 0 (x.src * 65536 + x.dst)) 4 x.seq) 8 x.ack
def spB (src dst : Int) (b : List UInt8) (t : TurnN) (x : SegN) : List UInt8 := set16 (spW b x) 16 (turn32 (turn32 (get16 (spW b x) 16) src t.src) dst t.dst)
def spC (src dst : Int) (t : TurnN) (x : SegN) (p q k c : Int) : Int := turn32 (turn32 (turn32 (turn32 (turn32 c p (x.src * 65536 + x.dst)) q x.seq) k x.ack) src t.src) dst t.dst
theorem spW_mid (x : SegN) (hx : x.ok) (p q k c : Int) (m r : List UInt8) (hm : m.length = 4) (hp : 0 ≤ p ∧ p ≤ 4294967295) (hq : 0 ≤ q ∧ q ≤ 4294967295) (hk : 0 ≤ k ∧ k ≤ 4294967295) (hc : 0 ≤ c ∧ c ≤ 65535) :
    spW (put32 [p] ++ (put32 [q] ++ (put32 [k] ++ (m ++ (put16 [c] ++ r))))) x = put32 [x.src * 65536 + x.dst] ++ (put32 [x.seq] ++ (put32 [x.ack] ++ (m ++ (put16 [turn32 (turn32 (turn32 c p (x.src * 65536 + x.dst)) q x.seq) k x.ack] ++ r)))) := by
  rw [spW]
  have e1 := wordB_mid [] (put32 [q] ++ (put32 [k] ++ m)) r 0 p c (x.src * 65536 + x.dst) rfl (by simp [length_put32, hm]) hp hc
  have e2 := wordB_mid (put32 [x.src * 65536 + x.dst]) (put32 [k] ++ m) r 4 q (turn32 c p (x.src * 65536 + x.dst)) x.seq (by simp [length_put32]) (by simp [length_put32, hm]) hq (turn32_bd _ _ _)
  have e3 := wordB_mid (put32 [x.src * 65536 + x.dst] ++ put32 [x.seq]) m r 8 k (turn32 (turn32 c p (x.src * 65536 + x.dst)) q x.seq) x.ack (by simp [length_put32]) (by simp [hm]) hk (turn32_bd _ _ _)
  simp only [List.nil_append, List.append_assoc] at e1 e2 e3
  rw [e1, e2, e3]
theorem spB_mid (src dst : Int) (t : TurnN) (x : SegN) (hx : x.ok) (p q k c : Int) (m r : List UInt8) (hm : m.length = 4) (hp : 0 ≤ p ∧ p ≤ 4294967295) (hq : 0 ≤ q ∧ q ≤ 4294967295) (hk : 0 ≤ k ∧ k ≤ 4294967295) (hc : 0 ≤ c ∧ c ≤ 65535) :
    spB src dst (put32 [p] ++ (put32 [q] ++ (put32 [k] ++ (m ++ (put16 [c] ++ r))))) t x = put32 [x.src * 65536 + x.dst] ++ (put32 [x.seq] ++ (put32 [x.ack] ++ (m ++ (put16 [spC src dst t x p q k c] ++ r)))) := by
  rw [spB, spW_mid x hx p q k c m r hm hp hq hk hc, spC]
  generalize hd : turn32 (turn32 (turn32 c p (x.src * 65536 + x.dst)) q x.seq) k x.ack = d
  have hdb : 0 ≤ d ∧ d ≤ 65535 := hd ▸ turn32_bd _ _ _
  have g1 : get16 (put32 [x.src * 65536 + x.dst] ++ (put32 [x.seq] ++ (put32 [x.ack] ++ (m ++ (put16 [d] ++ r))))) 16 = d := by
    have := get16_at (put32 [x.src * 65536 + x.dst] ++ (put32 [x.seq] ++ (put32 [x.ack] ++ m))) r 16 d (by simp [length_put32, hm]) hdb
    simpa using this
  rw [g1]
  have := set16_mid (put32 [x.src * 65536 + x.dst] ++ (put32 [x.seq] ++ (put32 [x.ack] ++ m))) r 16 d (turn32 (turn32 d src t.src) dst t.dst) (by simp [length_put32, hm])
  simp only [List.append_assoc] at this
  exact this

/-- What a turned sum is the rest of. -/
def Rest (c A : Int) : Prop := 0 < A ∧ (0 ≤ c ∧ c ≤ 65535) ∧ 65535 - c = foldF A
theorem Rest.turn {c A o n : Int} (h : Rest c A) (ho : 0 ≤ o ∧ o ≤ 65535) (hn : 0 ≤ n ∧ n ≤ 65535) : Rest (turnF c o n) (A + (65535 - o) + n) := by
  obtain ⟨h1, h2, h3⟩ := h
  have hp := foldF_pos h1
  have hm := foldF_mod A
  refine ⟨by omega, turnF_bd _ _ _, ?_⟩
  rw [turnF, h3]
  have e := foldF_congr (a := foldF A + (65535 - o) + n) (b := A + (65535 - o) + n) (by omega) (by omega) (by omega)
  omega
theorem Rest.turn32 {c A o n : Int} (h : Rest c A) (ho : 0 ≤ o ∧ o ≤ 4294967295) (hn : 0 ≤ n ∧ n ≤ 4294967295) : Rest (turn32 c o n) (A + (65535 - o / 65536) + n / 65536 + (65535 - o % 65536) + n % 65536) :=
  (h.turn (o := o / 65536) (n := n / 65536) (by omega) (by omega)).turn (o := o % 65536) (n := n % 65536) (by omega) (by omega)
theorem raw_put32 {n : Int} (h : 0 ≤ n ∧ n ≤ 4294967295) : (raw (put32 [n]) : Int) = n / 65536 + n % 65536 := by
  rw [put32_halves, raw_append _ _ (by simp [length_put16])]
  have h1 := raw_put16 (s := n / 65536) (by omega) (by omega)
  have h2 := raw_put16 (s := n % 65536) (by omega) (by omega)
  omega
theorem raw_psB (src dst n : Int) (h1 : 0 ≤ src ∧ src ≤ 4294967295) (h2 : 0 ≤ dst ∧ dst ≤ 4294967295) (hn : 0 ≤ n) (L : List UInt8) :
    (raw (psB src dst 6 n ++ L) : Int) = (src / 65536 + src % 65536) + (dst / 65536 + dst % 65536) + 6 + n % 65536 + raw L := by
  have e : psB src dst 6 n ++ L = put32 [src] ++ (put32 [dst] ++ ([u8 0, u8 6] ++ (put16 [n % 65536] ++ L))) := by simp [psB, put32]
  rw [e, raw_append _ _ (by simp [length_put32]), raw_append _ _ (by simp [length_put32]), raw_append _ _ (by simp), raw_append _ _ (by simp [length_put16])]
  have e1 := raw_put32 h1
  have e2 := raw_put32 h2
  have e3 := raw_put16 (s := n % 65536) (by omega) (by omega)
  have e4 : raw [u8 0, u8 6] = 6 := by decide
  omega
theorem segB_words (s : SegN) (c : Int) (hs : s.ok) : segB s c = put32 [s.src * 65536 + s.dst] ++ (put32 [s.seq] ++ (put32 [s.ack] ++ (([u8 ((5 + s.opts.length / 4 : Nat) * 16 + s.res), u8 s.flags] ++ put16 [s.win]) ++ (put16 [c] ++ (put16 [s.urg] ++ (s.opts ++ s.data)))))) := by
  have hp : put32 [s.src * 65536 + s.dst] = put16 [s.src, s.dst] := by
    have := hs.src
    have := hs.dst
    rw [put32_halves, show (s.src * 65536 + s.dst) / 65536 = s.src by omega, show (s.src * 65536 + s.dst) % 65536 = s.dst by omega]
    rfl
  rw [hp, segB]
  simp [put32, put16]
theorem shift_ok (a b q k : Int) (s : SegN) (hs : s.ok) (ha : 0 ≤ a ∧ a ≤ 65535) (hb : 0 ≤ b ∧ b ≤ 65535) : (shiftS a b q k s).ok := by
  obtain ⟨k1, k2, k3, k4, k5, k6, k7, k8⟩ := hs
  refine ⟨ha, hb, ?_, ?_, k5, k6, k7, k8⟩
  · simp only [shiftS, IntKind.wrap_u32]; omega
  · simp only [shiftS, IntKind.wrap_u32]; split <;> omega
theorem shift_may (a b q k : Int) (s : SegN) : segMay (shiftS a b q k s) = segMay s := rfl
/-- THE LAW: turned word by word, the bytes are those of the segment that was turned. -/
theorem spB_law (src dst : Int) (s : SegN) (t : TurnN) (hs : s.ok) (ht : t.ok) (hm : segMay s = true) (h1 : 0 ≤ src ∧ src ≤ 4294967295) (h2 : 0 ≤ dst ∧ dst ≤ 4294967295) :
    spB src dst (tcpB src dst s) t (shiftS t.sp t.dp t.seq t.ack s) = tcpB t.src t.dst (shiftS t.sp t.dp t.seq t.ack s) := by
  obtain ⟨x, hx⟩ : ∃ x, x = shiftS t.sp t.dp t.seq t.ack s := ⟨_, rfl⟩
  have hxo : x.ok := hx ▸ shift_ok _ _ _ _ s hs ht.sp ht.dp
  have x1 : x.opts = s.opts := by subst hx; rfl
  have x2 : x.data = s.data := by subst hx; rfl
  have x3 : x.res = s.res := by subst hx; rfl
  have x4 : x.flags = s.flags := by subst hx; rfl
  have x5 : x.win = s.win := by subst hx; rfl
  have x6 : x.urg = s.urg := by subst hx; rfl
  rw [← hx]
  clear hx
  obtain ⟨m, hmm⟩ : ∃ m, m = [u8 ((5 + s.opts.length / 4 : Nat) * 16 + s.res), u8 s.flags] ++ put16 [s.win] := ⟨_, rfl⟩
  obtain ⟨r, hr⟩ : ∃ r, r = put16 [s.urg] ++ (s.opts ++ s.data) := ⟨_, rfl⟩
  have hml : m.length = 4 := by subst hmm; simp [length_put16]
  have es : ∀ c, segB s c = put32 [s.src * 65536 + s.dst] ++ (put32 [s.seq] ++ (put32 [s.ack] ++ (m ++ (put16 [c] ++ r)))) := fun c => by rw [segB_words s c hs, hmm, hr]
  have ex : ∀ c, segB x c = put32 [x.src * 65536 + x.dst] ++ (put32 [x.seq] ++ (put32 [x.ack] ++ (m ++ (put16 [c] ++ r)))) := fun c => by rw [segB_words x c hxo, hmm, hr, x1, x2, x3, x4, x5, x6]
  have hso := hs.src
  have hsd := hs.dst
  have hxs := hxo.src
  have hxd := hxo.dst
  have hsq := hs.seq
  have hsa := hs.ack
  have hxq := hxo.seq
  have hxa := hxo.ack
  have ht1 := ht.src
  have ht2 := ht.dst
  have hn : (segB s 0).length = (segB x 0).length := by rw [segB_len, segB_len, x1, x2]
  obtain ⟨n, hnn⟩ : ∃ n : Int, n = (20 + s.opts.length + s.data.length : Nat) := ⟨_, rfl⟩
  have rs := raw_psB src dst n h1 h2 (by omega) (segB s 0)
  have rx := raw_psB t.src t.dst n ht.src ht.dst (by omega) (segB x 0)
  have rb : ∀ (p q k : Int), (0 ≤ p ∧ p ≤ 4294967295) → (0 ≤ q ∧ q ≤ 4294967295) → (0 ≤ k ∧ k ≤ 4294967295) → (raw (put32 [p] ++ (put32 [q] ++ (put32 [k] ++ (m ++ (put16 [0] ++ r))))) : Int) = (p / 65536 + p % 65536) + (q / 65536 + q % 65536) + (k / 65536 + k % 65536) + raw m + raw r := by
    intro p q k hp hq hk
    rw [raw_append _ _ (by simp [length_put32]), raw_append _ _ (by simp [length_put32]), raw_append _ _ (by simp [length_put32]), raw_append _ _ (by omega), raw_append _ _ (by simp [length_put16])]
    have e1 := raw_put32 hp
    have e2 := raw_put32 hq
    have e3 := raw_put32 hk
    have e4 := raw_put16 (s := 0) (by omega) (by omega)
    omega
  rw [es 0, rb _ _ _ (by omega) hs.seq hs.ack] at rs
  rw [ex 0, rb _ _ _ (by omega) hxo.seq hxo.ack] at rx
  have c0 : Rest (tcpX src dst s) (raw (psB src dst 6 n ++ segB s 0)) := by
    have hb := onesF_bd (psB src dst 6 n ++ segB s 0)
    refine ⟨by rw [es 0]; omega, ?_, ?_⟩
    · rw [tcpX, ← hnn]; omega
    · rw [tcpX, ← hnn, onesF]; omega
  rw [tcpB, es, spB_mid src dst t x hxo _ _ _ _ m r hml (by omega) hs.seq hs.ack c0.2.1, tcpB, ex]
  have cc := ((((c0.turn32 (o := s.src * 65536 + s.dst) (n := x.src * 65536 + x.dst) (by omega) (by omega)).turn32 hs.seq hxo.seq).turn32 hs.ack hxo.ack).turn32 h1 ht.src).turn32 h2 ht.dst
  have key : spC src dst t x (s.src * 65536 + s.dst) s.seq s.ack (tcpX src dst s) = tcpX t.src t.dst x := by
    obtain ⟨d1, d2, d3⟩ := cc
    rw [spC]
    have ec : tcpX t.src t.dst x = 65535 - foldF (raw (psB t.src t.dst 6 n ++ (put32 [x.src * 65536 + x.dst] ++ (put32 [x.seq] ++ (put32 [x.ack] ++ (m ++ (put16 [0] ++ r))))))) := by
      rw [tcpX, x1, x2, ← hnn, onesF, ex 0]
    rw [ec]
    rw [es 0] at d1 d3
    have e := foldF_congr (a := _) (b := (raw (psB t.src t.dst 6 n ++ (put32 [x.src * 65536 + x.dst] ++ (put32 [x.seq] ++ (put32 [x.ack] ++ (m ++ (put16 [0] ++ r)))))) : Int)) d1 (by omega) (by omega)
    omega
  rw [key]

theorem get32_bdW (l : List UInt8) (k : Int) : 0 ≤ get32 l k ∧ get32 l k ≤ 4294967295 := by
  unfold get32
  split
  · have := num_lt ((l.drop k.toNat).take 4)
    omega
  · omega
theorem length_set16W (l : List UInt8) (k : Int) (n : Int) (h : thereB l.length k 2 = true) : (set16 l k n).length = l.length := by
  rw [set16, if_pos h]
  simp
set_option maxRecDepth 100000 in
theorem word_a (b : List UInt8) (k : Nat) (n : Int) (hk : k ≤ 8) (h20 : 20 ≤ b.length) (hl : b.length ≤ 1000000) (hn : 0 ≤ n ∧ n ≤ 4294967295) : ASpec Try.prog 83 [.bs b, i64 k, u32A n] (.bs (wordB b k n)) := by
  have g16 := get16_bd b 16
  have g32 := get32_bdW b k
  have ht := turn32_bd (get16 b 16) (get32 b k) n
  have l1 : (set16 b k (n / 65536)).length = b.length := length_set16W _ _ _ (thereB_iff.2 (by omega))
  have l2 : (set16 (set16 b k (n / 65536)) (k + 2 : Nat) (n % 65536)).length = b.length := by
    rw [length_set16W _ _ _ (thereB_iff.2 (by omega)), l1]
  refine ASpec.of_body TT_ok Try.mixed _ [.tmp 6] ([], []) Try.func83 (by kernel_rfl) rfl rfl (by simp only [Try.ntmps83, List.length_cons, List.length_nil]; omega) rfl (by kernel_rfl) ?_
  simp only [argE_cons, argE_nil, ac_seq, ac_region, at_normal, ao_nil, ao_cons, as_call, as_move, as_assign, u32A, i64, fr_false, List.contains_nil, beq_self_eq_true, rd, aopsD, frzW, frzR, constT, evT, lk, putT, argsF, Option.map_some, Nat.reduceAdd, Nat.reduceSub, Nat.reduceEqDiff, Nat.reduceLeDiff, Nat.succ_ne_zero, eq_self, reduceCtorEq, Bool.false_eq_true, ↓reduceIte, Nat.zero_add]
  refine ACall.intro (get32_a b k (by omega)) ?_
  simp only [ac_seq, ac_region, at_normal, ao_nil, ao_cons, as_call, as_move, as_assign, as_extract, u32A, boA, fr_false, List.contains_nil, beq_self_eq_true, hk_some, hopG, rd, aopsD, frzW, frzR, constT, evT, lk, putT, argsF, constA, cellA, List.getElem?_cons_zero, List.getElem?_cons_succ, Option.map_some, Nat.reduceSub, Nat.reduceEqDiff, Nat.reduceLeDiff, Nat.succ_ne_zero, true_and, eq_self, Bool.false_eq_true, ↓reduceIte]
  refine ACall.intro (get16_a b 16 (by omega)) ?_
  simp only [u16_in (n := n / 65536) (by omega) (by omega), ac_seq, ac_region, at_normal, ao_nil, ao_cons, as_call, as_move, as_assign, as_binOp, as_convert, as_extract, u16A, boA, fr_false, List.contains_nil, beq_self_eq_true, Int.cast_ofNat_Int, Int.reducePow, hk_some, hopG, rd, aopsD, frzW, frzR, constT, evT, lk, putT, binF, convF, argsF, constA, cellA, IntKind.bits, List.getElem?_cons_zero, List.getElem?_cons_succ, Option.map_some, Nat.reduceSub, Nat.reduceEqDiff, Nat.reduceLeDiff, Nat.succ_ne_zero, true_and, and_self, eq_self, reduceCtorEq, Bool.false_eq_true, ↓reduceIte, Int.reduceToNat, Int.reduceLE, TT22, TT23]
  refine ACall.intro (set16_a b k (n / 65536) (by omega) (by simp only [small]; omega) (by omega)) ?_
  simp only [i64_in (n := (k : Int) + 2) (by omega) (by omega), IntKind.wrap_u16, ac_seq, ac_region, at_normal, ao_nil, ao_cons, as_call, as_move, as_assign, as_binOp, as_convert, as_extract, boA, fr_false, List.contains_nil, beq_self_eq_true, hk_some, hopG, rd, aopsD, frzW, frzR, constT, evT, lk, putT, binF, convF, argsF, constA, cellA, List.getElem?_cons_zero, List.getElem?_cons_succ, Option.map_some, Nat.reduceSub, Nat.reduceEqDiff, Nat.reduceLeDiff, true_and, eq_self, reduceCtorEq, Bool.false_eq_true, ↓reduceIte, TT3, TT22, TT23]
  refine ACall.intro (set16_a (set16 b k (n / 65536)) ((k + 2 : Nat) : Int) (n % 65536) (by omega) (by simp only [small]; omega) (by omega)) ?_
  simp only [ac_seq, ac_region, at_normal, ao_nil, ao_cons, as_call, as_move, as_assign, as_extract, boA, fr_false, List.contains_nil, beq_self_eq_true, hk_some, hopG, rd, aopsD, frzW, frzR, evT, lk, putT, argsF, List.getElem?_cons_zero, List.getElem?_cons_succ, Option.map_some, Nat.reduceSub, Nat.reduceEqDiff, Nat.reduceLeDiff, true_and, eq_self, reduceCtorEq, Bool.false_eq_true, ↓reduceIte]
  refine ACall.intro (turn32_a (get16 b 16) (get32 b k) n g16 g32 hn) ?_
  simp only [ao_cons, as_call, u16A, beq_self_eq_true, rd, frzW, frzR, constT, evT, lk, putT, argsF, constA, cellA, Option.map_some, Nat.reduceSub, Nat.reduceEqDiff, eq_self, ↓reduceIte]
  refine ACall.intro (set16_a (set16 (set16 b k (n / 65536)) (k + 2 : Nat) (n % 65536)) 16 (turn32 (get16 b 16) (get32 b k) n) (by omega) (by simp only [small]; omega) ht) ?_
  simp only [ac_ret, ac_seq, ac_region, at_normal, ae_ret, ao_nil, ao_cons, as_move, as_assign, as_extract, boA, fr_false, List.contains_nil, beq_self_eq_true, hk_some, hopG, rd, aopsD, evT, lk, putT, resF, resL, List.getElem?_cons_zero, List.getElem?_cons_succ, Option.map_some, Option.bind_some, Nat.reduceSub, Nat.reduceEqDiff, Nat.reduceLeDiff, true_and, and_true, eq_self, Bool.false_eq_true, ↓reduceIte]
  try rfl
end Go.Proofs.Ythjojkkapboonaa
