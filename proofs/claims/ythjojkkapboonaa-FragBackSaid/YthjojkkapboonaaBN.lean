/- A region that draws its order, all of whose orders are gone through: a tree of them. No program in sight. -/
import Derived.Test.YthjojkkapboonaaBM
namespace Go.Proofs.Ythjojkkapboonaa
set_option linter.unusedSimpArgs false
set_option linter.unusedVariables false
open Go.RowKit

/-- The orders from one state on: an operation that may come up, what is behind it, and what else may come up. -/
inductive OT where
  | nil
  | node (i : Nat) (c s : OT)

/-- The tree has every order. -/
def otOk (all : Array Oper) : OT → Nat → Array Bool → List Nat → Bool
  | .nil, _, _, rs => rs.isEmpty
  | .node i c s, f, L, rs => match f, rs with
    | f + 1, r :: rs' => r == i && (match all[i]? with | some o => o.guard.isNone | none => false) && otOk all c f (L.setIfInBounds i true) (Region.ready .any all (L.setIfInBounds i true)) && otOk all s (f + 1) L rs'
    | _, _ => false
def otAll (l : List Oper) (t : OT) : Bool := otOk l.toArray t l.length (Array.replicate l.length false) (Region.ready .any l.toArray (Array.replicate l.length false))

/-- Along every order. -/
def aopsT (P : Program) (T : Nat → Option TI) (K : AE → Prop) (l : List Oper) : OT → Bool → AE → Prop
  | .nil, top, E => top = true → K E
  | .node i c s, _, E => (match l[i]? with | some o => AStep false P T o.dst E (aopsT P T K l c true) o.op | none => False) ∧ aopsT P T K l s false E

theorem otree_wp {P : Program} {T : Nat → Option TI} {w0 : World} {M0 : Nat → Prop} {l : List Oper} {N : Nat} (hT : TOk P T) (hl : ∀ b, M0 b → b < w0.heap.size) {Q : Exit → Act → World → Prop} {K : AE → Prop}
    (hd : ∀ o ∈ l, dstOk N o = true) (hK : ∀ E a w ρ, K E → St w0 M0 N E a w ρ → Q .normal a w) :
    ∀ (t : OT) (f : Nat) (L : Array Bool) (rs : List Nat) (top : Bool) (E : AE) (a : Act) (w : World) (ρ : Nat → Nat), otOk l.toArray t f L rs = true → St w0 M0 N E a w ρ → aopsT P T K l t top E →
      (∀ i ∈ rs, ∃ f', f = f' + 1 ∧ wpOp P l.toArray Q i (wpAny P .any l.toArray Q f' (L.setIfInBounds i true)) a w) ∧ (top = true → rs = [] → Q .normal a w) := by
  intro t
  induction t with
  | nil =>
    intro f L rs top E a w ρ hc hs ha
    have : rs = [] := by simpa [otOk] using hc
    subst this
    exact ⟨fun i hi => (by cases hi), fun h1 _ => hK _ _ _ _ (ha h1) hs⟩
  | node i c s ihc ihs =>
    intro f L rs top E a w ρ hc hs ha
    unfold otOk at hc
    match f, rs, hc with
    | f + 1, r :: rs', hc =>
      simp only [Bool.and_eq_true, beq_iff_eq] at hc
      obtain ⟨⟨⟨h1, hg⟩, h2⟩, h3⟩ := hc
      subst h1
      obtain ⟨ha1, ha2⟩ := ha
      refine ⟨fun j hj => ?_, fun _ h => by cases h⟩
      rcases List.mem_cons.1 hj with hj | hj
      · subst hj
        refine ⟨f, rfl, ?_⟩
        cases ho : l[j]? with
        | none => rw [ho] at ha1; exact ha1.elim
        | some o =>
          rw [ho] at ha1
          simp only at ha1
          have ho' : l.toArray[j]? = some o := by simpa using ho
          rw [ho'] at hg
          have hg' : o.guard = none := by simpa using hg
          unfold wpOp
          simp only [ho']
          have hw : Region.wanted o (yielded l.toArray a.tmps) = true := by simp [Region.wanted, hg']
          rw [if_pos hw]
          refine .inl (AStep.wp hT hl hs ha1 (dstOk_iff (hd o (List.mem_of_getElem? ho))) ?_)
          intro E' a' w' ρ' hk' hst'
          obtain ⟨k1, k2⟩ := ihc f _ _ true E' a' w' ρ' h2 hst' hk'
          cases f with
          | zero =>
            have hr : Region.ready .any l.toArray (L.setIfInBounds j true) = [] := by
              cases hrr : Region.ready .any l.toArray (L.setIfInBounds j true) with
              | nil => rfl
              | cons x xs =>
                rw [hrr] at k1
                obtain ⟨f', hf', -⟩ := k1 x (by simp)
                cases hf'
            exact ⟨hr, k2 rfl hr⟩
          | succ f =>
            refine ⟨fun h => k2 rfl h, fun x hx => ?_⟩
            obtain ⟨f', hf', hwp⟩ := k1 x hx
            cases hf'
            exact hwp
      · exact (ihs (f + 1) L rs' false E a w ρ h3 hs ha2).1 j hj

theorem region_drawO {P : Program} {T : Nat → Option TI} {w0 : World} {M0 : Nat → Prop} {l : List Oper} {N : Nat} {ρ : Nat → Nat} {w : World} (hT : TOk P T) (hl : ∀ b, M0 b → b < w0.heap.size) {id : Nat} {Q : Exit → Act → World → Prop} {K : AE → Prop} (hm : P.follows .mixedOrders = true) {t : OT}
    (hok : otAll l t = true) (hd : ∀ o ∈ l, dstOk N o = true) (hK : ∀ E a w ρ, K E → St w0 M0 N E a w ρ → Q .normal a w) {E : AE} {a : Act} (h : St w0 M0 N E a w ρ) (hs : aopsT P T K l t true E) :
    (Code.region id l.toArray true).wp P Q a w := by
  have hst : St w0 M0 N E a w.drew ρ := ⟨h.heap.grown (Grow.refl w).drew, h.defers, h.size, fun t => (h.tmp t).grow (Grow.refl w).drew⟩
  refine wp_region_any hm ?_
  obtain ⟨k1, k2⟩ := otree_wp hT hl hd hK t l.length _ _ true E a w.drew ρ hok hst hs
  simp only [List.size_toArray]
  cases hn : l.length with
  | zero =>
    have hr : Region.ready .any l.toArray (Array.replicate l.length false) = [] := by
      cases hrr : Region.ready .any l.toArray (Array.replicate l.length false) with
      | nil => rfl
      | cons x xs =>
        rw [hrr] at k1
        obtain ⟨f', hf', -⟩ := k1 x (by simp)
        omega
    rw [hn] at hr k2
    exact ⟨hr, k2 rfl hr⟩
  | succ n =>
    rw [hn] at k1 k2
    refine ⟨fun h => k2 rfl h, fun x hx => ?_⟩
    obtain ⟨f', hf', hwp⟩ := k1 x hx
    cases hf'
    exact hwp
end Go.Proofs.Ythjojkkapboonaa
