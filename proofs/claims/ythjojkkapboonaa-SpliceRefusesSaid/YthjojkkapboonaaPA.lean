/- Plain laws: sums that are filled in, numbers in bytes. -/
import Derived.Test.YthjojkkapboonaaCB
namespace Go.Proofs.Ythjojkkapboonaa
set_option linter.unusedSimpArgs false
set_option linter.unusedVariables false
open Go.RowKit
theorem raw_put16 {s : Int} (h0 : 0 ≤ s) (h1 : s ≤ 65535) : (raw (put16 [s]) : Int) = s := by
  simp only [put16, raw, Int.natCast_add, Int.natCast_mul, u8_toNat]
  omega
theorem raw_mid (a b : List UInt8) (s : Int) (ha : a.length % 2 = 0) (h0 : 0 ≤ s) (h1 : s ≤ 65535) : (raw (a ++ (put16 [s] ++ b)) : Int) = raw a + s + raw b := by
  have e := raw_put16 h0 h1
  rw [raw_append _ _ ha, raw_append _ _ (by rw [length_put16]; simp)]
  omega
theorem fills_law (a b : List UInt8) (ha : a.length % 2 = 0) : onesF (a ++ (put16 [65535 - onesF (a ++ ([0, 0] ++ b))] ++ b)) = 65535 := by
  have hb := onesF_bd (a ++ ([0, 0] ++ b))
  have e : (raw (a ++ ([0, 0] ++ b)) : Int) = raw a + raw b := by
    have := raw_mid a b 0 ha (by omega) (by omega)
    have e2 : put16 [0] = [0, 0] := by decide
    rw [e2] at this
    omega
  have e3 := raw_mid a b (65535 - onesF (a ++ ([0, 0] ++ b))) ha (by omega) (by omega)
  have hO : onesF (a ++ ([0, 0] ++ b)) = foldF (raw a + raw b) := by rw [onesF, e]
  show foldF _ = 65535
  rw [e3]
  generalize onesF (a ++ ([0, 0] ++ b)) = O at *
  have hm := foldF_mod (raw a + raw b)
  have hp := foldF_pos (n := (raw a : Int) + raw b)
  have hz := foldF_eq_zero (n := (raw a : Int) + raw b) (by omega)
  have h2 := foldF_mod (↑(raw a) + (65535 - O) + ↑(raw b))
  have h3 := foldF_pos (n := ↑(raw a) + (65535 - O) + ↑(raw b))
  have h4 := foldF_bd (↑(raw a) + (65535 - O) + ↑(raw b))
  by_cases h0 : (raw a : Int) + raw b = 0
  · have := hz.2 h0
    have := h3 (by omega)
    omega
  · have := hp (by omega)
    have := h3 (by omega)
    omega
theorem raw_pos : ∀ (l : List UInt8), l.any (fun x => x != 0) = true → 0 < raw l
  | [], h => by simp at h
  | [a], h => by
    simp only [List.any_cons, List.any_nil, Bool.or_false, bne_iff_ne, ne_eq] at h
    have : 0 < a.toNat := Nat.pos_of_ne_zero (fun e => h (UInt8.toNat_inj.1 e))
    simp only [raw]; omega
  | a :: b :: r, h => by
    simp only [raw]
    by_cases ha : a = 0
    · by_cases hb : b = 0
      · have := raw_pos r (by simpa [ha, hb] using h)
        omega
      · have : 0 < b.toNat := Nat.pos_of_ne_zero (fun e => hb (UInt8.toNat_inj.1 e))
        omega
    · have : 0 < a.toNat := Nat.pos_of_ne_zero (fun e => ha (UInt8.toNat_inj.1 e))
      omega
theorem keeps_law (h t : List UInt8) (old next : Int) (hh : h.length % 2 = 0) (ho : 0 ≤ old ∧ old ≤ 65535) (hn : 0 ≤ next ∧ next ≤ 65535)
    (hs : (h ++ (put16 [next] ++ t)).any (fun x => x != 0) = true) :
    turnF (65535 - onesF (h ++ (put16 [old] ++ t))) old next = 65535 - onesF (h ++ (put16 [next] ++ t)) := by
  have e1 := raw_mid h t old hh ho.1 ho.2
  have e2 := raw_mid h t next hh hn.1 hn.2
  have hp := raw_pos _ hs
  unfold turnF onesF
  rw [e1]
  have e3 : (raw (h ++ (put16 [next] ++ t)) : Int) = raw h + next + raw t := e2
  rw [e3]
  congr 1
  have hm := foldF_mod (raw h + old + raw t)
  have hq := foldF_pos (n := (raw h : Int) + old + raw t)
  have hb := foldF_bd (raw h + old + raw t)
  refine foldF_congr ?_ (by omega) (by omega)
  by_cases h0 : (raw h : Int) + old + raw t = 0
  · omega
  · have := hq (by omega)
    omega
theorem any_step {l : List UInt8} {k : Nat} (h : k < l.length) : (l.take (k + 1)).any (fun x => x != 0) = ((l.take k).any (fun x => x != 0) || l[k] != 0) := by
  rw [List.take_succ_eq_append_getElem h, List.any_append]
  simp
theorem byte_ne (x : UInt8) : ((x.toNat : Int) != 0) = (x != 0) := by
  by_cases h : x = 0
  · subst h; rfl
  · have h2 : x.toNat ≠ 0 := fun e => h (UInt8.toNat_inj.1 e)
    rw [bne_iff_ne.2 h]
    simpa using h2

theorem num_two (x y : UInt8) : num [x, y] = x.toNat * 256 + y.toNat := by
  have := x.toNat_lt
  have := y.toNat_lt
  simp only [num, List.foldl_cons, List.foldl_nil]
  omega
theorem split16 {l : List UInt8} {n : Nat} (h : n + 2 ≤ l.length) :
    l = l.take n ++ (put16 [(num ((l.drop n).take 2) : Int)] ++ l.drop (n + 2)) ∧ (num ((l.drop n).take 2) : Int) ≤ 65535 := by
  have e : (l.drop n).take 2 = [l[n], l[n + 1]] := by
    rw [List.drop_eq_getElem_cons (by omega), List.drop_eq_getElem_cons (by omega)]
    rfl
  have hx := l[n].toNat_lt
  have hy := l[n + 1].toNat_lt
  rw [e, num_two]
  refine ⟨?_, by omega⟩
  have e2 : put16 [((l[n].toNat * 256 + l[n + 1].toNat : Nat) : Int)] = [l[n], l[n + 1]] := by
    simp only [put16]
    have a1 : u8 (((l[n].toNat * 256 + l[n + 1].toNat : Nat) : Int) / 256) = l[n] := UInt8.toNat_inj.1 (by have := u8_toNat (((l[n].toNat * 256 + l[n + 1].toNat : Nat) : Int) / 256); omega)
    have a2 : u8 ((l[n].toNat * 256 + l[n + 1].toNat : Nat) : Int) = l[n + 1] := UInt8.toNat_inj.1 (by have := u8_toNat ((l[n].toNat * 256 + l[n + 1].toNat : Nat) : Int); omega)
    rw [a1, a2]
  rw [e2, ← e, ← List.drop_drop, List.take_append_drop, List.take_append_drop]
theorem cut_head {l : List UInt8} {n : Nat} (h : n ≤ l.length) : cutB l 0 n = l.take n := by
  rw [cutB, if_pos (thereB_iff.2 ⟨by omega, by omega, by omega, by omega⟩)]
  simp
theorem cut_tail {l : List UInt8} {n : Nat} {k : Int} (h : n ≤ l.length) (hk : k = (l.length : Int) - n) : cutB l n k = l.drop n := by
  subst hk
  rw [cutB, if_pos (thereB_iff.2 ⟨by omega, by omega, by omega, by omega⟩), List.take_of_length_le (by rw [List.length_drop]; omega)]
  simp
theorem inF_bd (n lo hi : Int) (h : lo ≤ hi) : lo ≤ inF n lo hi ∧ inF n lo hi ≤ hi := by
  unfold inF
  split
  · omega
  · split <;> omega
end Go.Proofs.Ythjojkkapboonaa
