/- Plain laws of the ones sum: no program in sight. -/
import Derived.Test.YthjojkkapboonaaA
namespace Go.Proofs.Ythjojkkapboonaa
set_option linter.unusedSimpArgs false
set_option linter.unusedVariables false

/-- A number folded. -/
def foldF (n : Int) : Int := if n = 0 then 0 else if n % 65535 = 0 then 65535 else n % 65535

theorem foldF_bd (n : Int) : 0 ≤ foldF n ∧ foldF n ≤ 65535 := by
  unfold foldF
  split
  · omega
  · split <;> omega
theorem foldF_small {n : Int} (h : 0 ≤ n) (h2 : n ≤ 65535) : foldF n = n := by
  unfold foldF
  split
  · omega
  · split <;> omega
theorem foldF_congr {a b : Int} (ha : 0 < a) (hb : 0 < b) (h : a % 65535 = b % 65535) : foldF a = foldF b := by
  unfold foldF
  rw [if_neg (show ¬ a = 0 by omega), if_neg (show ¬ b = 0 by omega), h]
theorem foldF_round {m : Int} (h : 65535 < m) : foldF (m / 65536 + m % 65536) = foldF m := foldF_congr (by omega) (by omega) (by omega)
theorem foldF_mod (n : Int) : foldF n % 65535 = n % 65535 := by
  unfold foldF
  split
  · omega
  · split <;> omega
theorem foldF_pos {n : Int} (h : 0 < n) : 0 < foldF n := by
  unfold foldF
  split
  · omega
  · split <;> omega
theorem foldF_eq_zero {n : Int} (h : 0 ≤ n) : foldF n = 0 ↔ n = 0 := by
  constructor
  · intro e
    by_cases hn : n = 0
    · exact hn
    · have := foldF_pos (n := n) (by omega)
      omega
  · rintro rfl
    rfl

/-- The bytes' sum, pair by pair, unfolded. -/
def raw : List UInt8 → Nat
  | [] => 0
  | [a] => a.toNat * 256
  | a :: b :: r => a.toNat * 256 + b.toNat + raw r

theorem raw_snoc : ∀ (l : List UInt8) (x : UInt8), raw (l ++ [x]) = raw l + if l.length % 2 = 0 then x.toNat * 256 else x.toNat
  | [], x => by simp [raw]
  | [a], x => by simp [raw]
  | a :: b :: r, x => by
    have := raw_snoc r x
    simp only [List.cons_append, raw, this, List.length_cons]
    have e : (r.length + 1 + 1) % 2 = r.length % 2 := by omega
    simp only [e]
    omega
theorem raw_append : ∀ (l m : List UInt8), l.length % 2 = 0 → raw (l ++ m) = raw l + raw m
  | [], m, _ => by simp [raw]
  | [a], m, h => by simp at h
  | a :: b :: r, m, h => by
    simp only [List.cons_append, raw]
    rw [raw_append r m (by simp only [List.length_cons] at h; omega)]
    omega
theorem raw_le : ∀ (l : List UInt8), raw l ≤ 65280 * l.length
  | [] => by simp [raw]
  | [a] => by have := a.toNat_lt; simp [raw]; omega
  | a :: b :: r => by
    have := raw_le r
    have := a.toNat_lt
    have := b.toNat_lt
    simp only [raw, List.length_cons]
    omega
theorem raw_step {l : List UInt8} {k : Nat} (h : k < l.length) :
    raw (l.take (k + 1)) = raw (l.take k) + if k % 2 = 0 then l[k].toNat * 256 else l[k].toNat := by
  rw [List.take_succ_eq_append_getElem h, raw_snoc, List.length_take, Nat.min_eq_left (by omega)]
theorem raw_take_le {l : List UInt8} (k : Nat) : raw (l.take k) ≤ 65280 * l.length := by
  have := raw_le (l.take k)
  have h2 := List.length_take_le' k l
  omega

/-- The ones sum. -/
def onesF (l : List UInt8) : Int := foldF (raw l)
theorem onesF_bd (l : List UInt8) : 0 ≤ onesF l ∧ onesF l ≤ 65535 := foldF_bd _

/-- A step of the sum that is folded at each pair. -/
theorem ones_pair {r x : Int} (hr : 0 ≤ r) (hx : 0 ≤ x) (hx2 : x ≤ 65535) :
    (65535 < foldF r + x → foldF r + x - 65535 = foldF (r + x)) ∧ (¬ 65535 < foldF r + x → foldF r + x = foldF (r + x)) := by
  have hb := foldF_bd r
  have hm := foldF_mod r
  have hp := foldF_pos (n := r)
  have hz := (foldF_eq_zero hr)
  have hb2 := foldF_bd (r + x)
  have hm2 := foldF_mod (r + x)
  have hp2 := foldF_pos (n := r + x)
  by_cases h0 : r = 0
  · subst h0
    have : foldF 0 = 0 := rfl
    have h3 := foldF_small hx hx2
    simp only [Int.zero_add] at *
    constructor <;> intro h <;> omega
  · have := hp (by omega)
    have := hp2 (by omega)
    constructor <;> intro h <;> omega

/-- The sum, two bytes having turned. -/
def turnF (s old next : Int) : Int := 65535 - foldF (65535 - s + (65535 - old) + next)

end Go.Proofs.Ythjojkkapboonaa
