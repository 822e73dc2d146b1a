/- frag.lay: which bytes any pieces bear. -/
import Derived.Test.YthjojkkapboonaaFD
namespace Go.Proofs.Ythjojkkapboonaa
set_option linter.unusedSimpArgs false
set_option linter.unusedVariables false
open Go.RowKit

/-- The byte that a piece bears at a place. -/
def byteAt (p : PktN) (j : Nat) : Option UInt8 := if p.off.toNat * 8 ≤ j then p.data[j - p.off.toNat * 8]? else none
/-- The byte that the first piece bears that bears any there. -/
def cov (l : List PktN) (j : Nat) : Option UInt8 := l.findSome? fun p => byteAt p j
def lst (n : Nat) (F : Nat → Option UInt8) : List UInt8 := (List.range n).map fun j => (F j).getD 0
def lsb (n : Nat) (F : Nat → Option UInt8) : List Bool := (List.range n).map fun j => (F j).isSome
def cnt : Nat → (Nat → Option UInt8) → Nat
  | 0, _ => 0
  | n + 1, F => cnt n F + if (F n).isSome then 0 else 1
def updF (F : Nat → Option UInt8) (a : Nat) (x : UInt8) : Nat → Option UInt8 := fun j => if j = a then some x else F j
def boolsL (l : List Bool) : List AV := l.map fun b => boA b
theorem boolsL_len (l : List Bool) : (boolsL l).length = l.length := by simp [boolsL]
theorem boolsL_set (l : List Bool) (i : Nat) (b : Bool) : (boolsL l).set i (.one (.bool b)) = boolsL (l.set i b) := by simp [boolsL, List.map_set]
theorem boolsL_drop (l : List Bool) (i : Nat) (h : i < l.length) : (boolsL l).drop i = .one (.bool (l.getD i false)) :: (boolsL l).drop (i + 1) := by
  rw [List.drop_eq_getElem_cons (by rw [boolsL_len]; exact h)]
  simp [boolsL, List.getD, h]
theorem lst_len (n : Nat) (F : Nat → Option UInt8) : (lst n F).length = n := by simp [lst]
theorem lsb_len (n : Nat) (F : Nat → Option UInt8) : (lsb n F).length = n := by simp [lsb]
theorem lst_get (n : Nat) (F : Nat → Option UInt8) (a : Nat) (h : a < n) : (lst n F).getD a 0 = (F a).getD 0 := by simp [lst, List.getD, h]
theorem lsb_get (n : Nat) (F : Nat → Option UInt8) (a : Nat) (h : a < n) : (lsb n F).getD a false = (F a).isSome := by simp [lsb, List.getD, h]
theorem lst_set (n : Nat) (F : Nat → Option UInt8) (a : Nat) (x : UInt8) : (lst n F).set a x = lst n (updF F a x) := by
  apply List.ext_getElem
  · simp [lst]
  · intro i h1 h2
    simp only [lst, List.getElem_set, List.getElem_map, List.getElem_range, updF]
    by_cases h : a = i
    · rw [if_pos h, if_pos h.symm]; rfl
    · rw [if_neg h, if_neg (fun e => h e.symm)]
theorem lsb_set (n : Nat) (F : Nat → Option UInt8) (a : Nat) (x : UInt8) : (lsb n F).set a true = lsb n (updF F a x) := by
  apply List.ext_getElem
  · simp [lsb]
  · intro i h1 h2
    simp only [lsb, List.getElem_set, List.getElem_map, List.getElem_range, updF]
    by_cases h : a = i
    · rw [if_pos h, if_pos h.symm]; rfl
    · rw [if_neg h, if_neg (fun e => h e.symm)]
theorem cnt_upd (F : Nat → Option UInt8) (a : Nat) (x : UInt8) (hn : (F a).isSome = false) : ∀ n : Nat, cnt n (updF F a x) + (if a < n then 1 else 0) = cnt n F
  | 0 => by simp [cnt]
  | n + 1 => by
    have ih := cnt_upd F a x hn n
    simp only [cnt]
    by_cases h : n = a
    · subst h
      have e1 : (updF F n x n).isSome = true := by simp [updF]
      simp only [e1, hn, Nat.lt_irrefl, if_false, if_true, Nat.lt_succ_self, Bool.false_eq_true] at ih ⊢
      omega
    · rw [show updF F a x n = F n from if_neg h]
      by_cases h2 : a < n
      · have h3 : a < n + 1 := by omega
        simp only [h2, h3, if_true] at ih ⊢
        omega
      · have h3 : ¬ a < n + 1 := by omega
        simp only [h2, h3, if_false] at ih ⊢
        omega
theorem cnt_none : ∀ n : Nat, cnt n (fun _ => none) = n
  | 0 => rfl
  | n + 1 => by rw [cnt, cnt_none n]; rfl
theorem cnt_le (F : Nat → Option UInt8) : ∀ n : Nat, cnt n F ≤ n
  | 0 => Nat.le_refl 0
  | n + 1 => by have := cnt_le F n; rw [cnt]; split <;> omega
theorem cnt_zero (F : Nat → Option UInt8) : ∀ n : Nat, cnt n F = 0 ↔ ∀ j, j < n → (F j).isSome = true
  | 0 => by simp [cnt]
  | n + 1 => by
    rw [cnt]
    have ih := cnt_zero F n
    constructor
    · intro h j hj
      by_cases e : j = n
      · subst e
        by_cases hs : (F j).isSome = true
        · exact hs
        · rw [if_neg hs] at h; omega
      · exact ih.1 (by omega) j (by omega)
    · intro h
      rw [ih.2 (fun j hj => h j (by omega)), if_pos (h n (by omega))]
/-- What stands there when k pieces are laid, and of the next one i bytes. -/
def covI (l : List PktN) (k i : Nat) (j : Nat) : Option UInt8 := (cov (l.take k) j).or (byteAt { l.getD k pktZ with data := (l.getD k pktZ).data.take i } j)
theorem cov_nil : cov [] = fun _ => none := rfl
theorem cov_app (l m : List PktN) (j : Nat) : cov (l ++ m) j = (cov l j).or (cov m j) := by rw [cov, List.findSome?_append]; rfl
theorem covI_0 (l : List PktN) (k : Nat) : covI l k 0 = cov (l.take k) := by
  funext j
  have : byteAt { l.getD k pktZ with data := (l.getD k pktZ).data.take 0 } j = none := by simp [byteAt]
  rw [covI, this, Option.or_none]
theorem covI_all (l : List PktN) (k : Nat) (h : k < l.length) : covI l k (l.getD k pktZ).data.length = cov (l.take (k + 1)) := by
  funext j
  rw [covI, List.take_succ_eq_append_getElem h, cov_app, List.take_length, show l.getD k pktZ = l[k] by simp [List.getD, h]]
  congr 1
  simp only [cov, List.findSome?_cons, List.findSome?_nil]
  split <;> simp_all
theorem byteAt_step (p : PktN) (i j : Nat) (h : i < p.data.length) : byteAt { p with data := p.data.take (i + 1) } j = if j = p.off.toNat * 8 + i then some (p.data.getD i 0) else byteAt { p with data := p.data.take i } j := by
  simp only [byteAt]
  by_cases h1 : p.off.toNat * 8 ≤ j
  · rw [if_pos h1, if_pos h1]
    by_cases h2 : j = p.off.toNat * 8 + i
    · rw [if_pos h2, List.getElem?_take, if_pos (by omega), show j - p.off.toNat * 8 = i by omega]
      simp [List.getD, h]
    · rw [if_neg h2, List.getElem?_take, List.getElem?_take]
      by_cases h3 : j - p.off.toNat * 8 < i
      · rw [if_pos (by omega), if_pos h3]
      · rw [if_neg (by omega), if_neg h3]
  · rw [if_neg h1, if_neg h1, if_neg (by omega)]
theorem byteAt_no (p : PktN) (i : Nat) : byteAt { p with data := p.data.take i } (p.off.toNat * 8 + i) = none := by
  simp only [byteAt]
  rw [if_pos (by omega), List.getElem?_take, if_neg (by omega)]
theorem covI_met (l : List PktN) (k i : Nat) (h : i < (l.getD k pktZ).data.length) (hs : (covI l k i ((l.getD k pktZ).off.toNat * 8 + i)).isSome = true) : covI l k (i + 1) = covI l k i := by
  funext j
  have hc : (cov (l.take k) ((l.getD k pktZ).off.toNat * 8 + i)).isSome = true := by
    rw [covI, byteAt_no, Option.or_none] at hs
    exact hs
  rw [covI, byteAt_step _ i j h, covI]
  by_cases h1 : j = (l.getD k pktZ).off.toNat * 8 + i
  · rw [if_pos h1]
    rw [← h1] at hc
    obtain ⟨x, hx⟩ := Option.isSome_iff_exists.1 hc
    rw [hx]; rfl
  · rw [if_neg h1]
theorem covI_new (l : List PktN) (k i : Nat) (h : i < (l.getD k pktZ).data.length) (hs : (covI l k i ((l.getD k pktZ).off.toNat * 8 + i)).isSome = false) :
    covI l k (i + 1) = updF (covI l k i) ((l.getD k pktZ).off.toNat * 8 + i) ((l.getD k pktZ).data.getD i 0) := by
  funext j
  have hc : cov (l.take k) ((l.getD k pktZ).off.toNat * 8 + i) = none := by
    rw [covI, byteAt_no, Option.or_none] at hs
    simpa using hs
  rw [covI, byteAt_step _ i j h, updF]
  by_cases h1 : j = (l.getD k pktZ).off.toNat * 8 + i
  · rw [if_pos h1, if_pos h1, h1, hc]; rfl
  · rw [if_neg h1, if_neg h1, covI]
end Go.Proofs.Ythjojkkapboonaa
