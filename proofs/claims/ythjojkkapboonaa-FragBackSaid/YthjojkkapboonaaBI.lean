/- A function's text: what is known behind it. No program in sight. -/
import Derived.Test.YthjojkkapboonaaBO
namespace Go.Proofs.Ythjojkkapboonaa
set_option linter.unusedSimpArgs false
set_option linter.unusedVariables false
open Go.RowKit

def AThen (N : AE → Prop) (Q : Exit → AE → Prop) : Exit → AE → Prop
  | .normal, E => N E
  | e, E => Q e E
def ABlock (id : Nat) (Q : Exit → AE → Prop) : Exit → AE → Prop
  | .exit i, E => if i = id then Q .normal E else Q (.exit i) E
  | e, E => Q e E

/-- A pointer into a block that is there. -/
def PtOk (L : Nat) : TV → Prop
  | .p n _ => n < L
  | .s n _ _ => n < L
  | .r n _ _ _ => n < L
  | .it n _ _ => n < L
  | _ => True
/-- Less is known. -/
def Le (E E' : AE) : Prop := E.h.take E'.h.length = E'.h ∧ ∀ p ∈ E'.t, lk E.t p.1 = p.2 ∧ PtOk E'.h.length p.2

def unr (R : (Exit → AE → Prop) → AE → Prop) (Q : Exit → AE → Prop) : Nat → AE → Prop
  | 0, _ => False
  | n + 1, E => R (AThen (unr R Q n) Q) E
/-- A loop: it is gone round so many times; or there is something that holds at each round's start. -/
def ALoop (R : (Exit → AE → Prop) → AE → Prop) (Q : Exit → AE → Prop) (E : AE) : Prop :=
  (∃ n, unr R Q n E) ∨ ∃ (κ : Type) (inv : κ → AE) (m : κ → Nat) (k0 : κ), Le E (inv k0) ∧ ∀ k, R (AThen (fun E' => ∃ k', Le E' (inv k') ∧ m k' < m k) Q) (inv k)

/-- The blocks that are there are not written any more. -/
def frz : Bool → List (Bool × List AV) → List (Bool × List AV)
  | false, h => h
  | true, [] => []
  | true, b :: r => (false, b.2) :: frz true r

/-- How many operations of a region may stand in any order. -/
def tlN : List (Nat × Nat) → Nat → Nat → Nat
  | [], _, n => n
  | (i, m) :: r, id, n => if i = id then m else tlN r id n

/-- A region's operations: from 1000 on, so many of them may stand in any order, and some make blocks; from 2000 on, one row grows among them; 3000: a tree of all its orders is given; 4000: one in which what is free is taken first. -/
def aopsD (P : Program) (T : Nat → Option TI) (all : Array Oper) (K : AE → Prop) (k : Nat) (l : List Oper) (E : AE) : Prop :=
  if 4000 ≤ k then (∃ t : OF, ofAll l t = true ∧ aopsO P T K l t true E) else if 3000 ≤ k then (∃ t : OT, otAll l t = true ∧ aopsT P T K l t true E) else if 2000 ≤ k then aopsA P T all K ((k - 2000) / 100) ((k - 2000) % 100) l E else if 1000 ≤ k then aopsB P T all K (k - 1000) [] l E else aops P T all K k l E
def drawD (N k : Nat) (ops : Array Oper) : Bool :=
  if 3000 ≤ k then true else if 2000 ≤ k then drawA N ((k - 2000) / 100) ((k - 2000) % 100) ops else if 1000 ≤ k then decide (k - 1000 ≤ ops.size) && drawB N (k - 1000) ops else (k == ops.size && drawOk N ops) || drawT N k ops
def acode (P : Program) (T : Nat → Option TI) (fz : List Nat × List (Nat × Nat)) : Code → (Exit → AE → Prop) → AE → Prop
  | .skip => fun Q E => Q .normal E
  | .exit id => fun Q E => Q (.exit id) E
  | .ret => fun Q E => Q .ret E
  | .seq x y => fun Q E => acode P T fz x (AThen (acode P T fz y Q) Q) E
  | .block id c => fun Q E => acode P T fz c (ABlock id Q) E
  | .cond c x y => fun Q E => match evT E.t c with | .v (.one (.bool t)) => (t = true → acode P T fz x Q E) ∧ (t = false → acode P T fz y Q E) | _ => False
  | .region id ops d => fun Q E => aopsD P T ops (Q .normal) (if d then tlN fz.2 id ops.size else 0) ops.toList ⟨E.t, frz (fz.1.contains id) E.h⟩
  | .loop c => fun Q E => ALoop (acode P T fz c) Q E
  | _ => fun _ _ => False

def codeOk (N : Nat) (tl : List (Nat × Nat)) : Code → Bool
  | .skip => true
  | .exit _ => true
  | .ret => true
  | .seq x y => codeOk N tl x && codeOk N tl y
  | .block _ c => codeOk N tl c
  | .cond _ x y => codeOk N tl x && codeOk N tl y
  | .region id ops d => ops.toList.all (dstOk N) && (!d || drawD N (tlN tl id ops.size) ops)
  | .loop c => codeOk N tl c
  | _ => false

theorem exists_least {p : Nat → Prop} (h : ∃ n, p n) : ∃ n, p n ∧ ∀ m, p m → n ≤ m := by
  obtain ⟨n, hn⟩ := h
  induction n using Nat.strongRecOn with
  | _ n ih =>
    by_cases hm : ∃ m, m < n ∧ p m
    · obtain ⟨m, h1, h2⟩ := hm
      exact ih m h1 h2
    · exact ⟨n, hn, fun m hp => Nat.le_of_not_lt fun hlt => hm ⟨m, hlt, hp⟩⟩

open Classical in
theorem wp_loop_idx {P : Program} {c : Code} {Q : Exit → Act → World → Prop} (C : Nat → Act → World → Prop) {n : Nat} {a : Act} {w : World} (h0 : C n a w)
    (round : ∀ n a w, C n a w → c.wp P (Exit.then (fun a' w' => ∃ n', n' < n ∧ C n' a' w') Q) a w) : (Code.loop c).wp P Q a w := by
  refine wp_loop (fun a w => ∃ n, C n a w) (fun a w => if h : ∃ n, C n a w then Classical.choose (exists_least h) else 0) ⟨n, h0⟩ ?_
  intro a w hI
  obtain ⟨h1, h2⟩ := Classical.choose_spec (exists_least hI)
  refine Code.wp_mono (fun e a' w' q => ?_) (round _ a w h1)
  cases e <;> first | exact q | skip
  obtain ⟨n', hlt, hn'⟩ := q
  refine ⟨⟨n', hn'⟩, ?_⟩
  have hex : ∃ n, C n a' w' := ⟨n', hn'⟩
  rw [dif_pos hex, dif_pos hI]
  have := (Classical.choose_spec (exists_least hex)).2 n' hn'
  omega

section
variable {P : Program} {T : Nat → Option TI} {w0 : World} {M0 : Nat → Prop} {N : Nat}

def KQ (w0 : World) (M0 : Nat → Prop) (N : Nat) (Q : Exit → AE → Prop) : Exit → Act → World → Prop := fun e a w => ∃ E ρ, Q e E ∧ St w0 M0 N E a w ρ

theorem St.le {E E' : AE} {a : Act} {w : World} {ρ : Nat → Nat} (h : St w0 M0 N E a w ρ) (hle : Le E E') : St w0 M0 N E' a w ρ := by
  obtain ⟨h1, h2⟩ := hle
  have hlen : E'.h.length ≤ E.h.length := by
    have := congrArg List.length h1
    simp at this
    omega
  have hget : ∀ (n : Nat) (x : Bool × List AV), E'.h[n]? = some x → E.h[n]? = some x := by
    intro n x hn
    have hlt := (List.getElem?_eq_some_iff.1 hn).1
    rw [← h1, List.getElem?_take, if_pos hlt] at hn
    exact hn
  have hk : Keeps (MM M0 ρ E.h) (MM M0 ρ E'.h) w w := Keeps.less fun b hb => by
    rcases hb with hb | ⟨n, cs, hn, rfl⟩
    · exact .inl hb
    · exact .inr ⟨n, cs, hget _ _ hn, rfl⟩
  refine ⟨⟨h.heap.grow, fun n hn => h.heap.sep n (by omega), fun n hn => h.heap.lo n (by omega), fun n hn => h.heap.hi n (by omega), fun n m hn hm => h.heap.inj n m (by omega) (by omega), fun n m cs hn hne => ?_⟩, h.defers, h.size, fun t => ?_⟩
  · obtain ⟨us, ty, h3, h4⟩ := h.heap.rep n m cs (hget _ _ hn) hne
    exact ⟨us, ty, h3, h4.keep hk⟩
  · have key : ∀ (l : List (Nat × TV)) (t : Nat), (∀ p ∈ l, lk E.t p.1 = p.2 ∧ PtOk E'.h.length p.2) → lk l t = .v .any ∨ (lk l t = lk E.t t ∧ PtOk E'.h.length (lk l t)) := by
      intro l t
      induction l with
      | nil => intro _; exact .inl rfl
      | cons p l ih =>
        intro hl
        obtain ⟨k, x⟩ := p
        simp only [lk]
        by_cases hkt : k = t
        · subst hkt
          rw [if_pos rfl]
          have := hl (k, x) (by simp)
          exact .inr ⟨this.1.symm, this.2⟩
        · rw [if_neg hkt]
          exact ih fun p hp => hl p (by simp [hp])
    rcases key E'.t t h2 with hv | ⟨hv, hp⟩
    · rw [hv]
      simp only [RepT, RepV]
    · have ht := h.tmp t
      rw [← hv] at ht
      revert ht hp
      cases lk E'.t t with
      | v x => intro _ ht; exact RepV.keep hk _ _ ht
      | p n off => intro hp ht; exact ⟨hp, ht.2⟩
      | s n off len => intro hp ht; exact ⟨hp, ht.2⟩
      | z => intro _ ht; exact ht
      | r n e k x =>
        intro hp ht
        obtain ⟨⟨m, hm⟩, ht⟩ := ht
        obtain ⟨y, hy⟩ : ∃ y, E'.h[n]? = some y := ⟨_, List.getElem?_eq_getElem hp⟩
        have := hget _ _ hy
        rw [hm] at this
        cases this
        exact ⟨⟨m, hy⟩, ht.keep hk rfl rfl⟩
      | it n s pos =>
        intro hp ht
        obtain ⟨⟨m, hm⟩, ht⟩ := ht
        obtain ⟨y, hy⟩ : ∃ y, E'.h[n]? = some y := ⟨_, List.getElem?_eq_getElem hp⟩
        have := hget _ _ hy
        rw [hm] at this
        cases this
        exact ⟨⟨m, hy⟩, ht⟩
      | q cs =>
        intro _ ht
        obtain ⟨b, o, us, h1, h2, h3, h4, h5⟩ := ht
        exact ⟨b, o, us, h1, h2, fun hb => h3 (hk.set b (World.block_lt_of_cell? w _ (h4 0 h2)) hb), h4, RepL.keep hk cs us h5⟩

theorem frz_length : ∀ (b : Bool) (h : List (Bool × List AV)), (frz b h).length = h.length
  | false, h => by cases h <;> rfl
  | true, [] => rfl
  | true, _ :: r => by simp [Go.Proofs.Ythjojkkapboonaa.frz, frz_length true r]
theorem frz_get : ∀ (b : Bool) (h : List (Bool × List AV)) (n : Nat) (m : Bool) (cs : List AV), (frz b h)[n]? = some (m, cs) → ∃ m', h[n]? = some (m', cs) ∧ (m = true → m' = true)
  | false, h, n, m, cs, hn => ⟨m, by cases h <;> exact hn, id⟩
  | true, [], n, m, cs, hn => by simp [Go.Proofs.Ythjojkkapboonaa.frz] at hn
  | true, b :: r, 0, m, cs, hn => by
    simp only [Go.Proofs.Ythjojkkapboonaa.frz, List.getElem?_cons_zero, Option.some.injEq, Prod.mk.injEq] at hn
    obtain ⟨rfl, rfl⟩ := hn
    exact ⟨b.1, by simp, fun h => by cases h⟩
  | true, b :: r, n + 1, m, cs, hn => by
    simp only [Go.Proofs.Ythjojkkapboonaa.frz, List.getElem?_cons_succ] at hn ⊢
    exact frz_get true r n m cs hn
theorem frz_row : ∀ (b : Bool) (h : List (Bool × List AV)) (n : Nat) (m : Bool), h[n]? = some (m, []) → ∃ m', (frz b h)[n]? = some (m', [])
  | false, h, n, m, hn => ⟨m, by cases h <;> exact hn⟩
  | true, [], n, m, hn => by simp at hn
  | true, b :: r, 0, m, hn => by
    simp only [List.getElem?_cons_zero, Option.some.injEq] at hn
    subst hn
    exact ⟨false, rfl⟩
  | true, b :: r, n + 1, m, hn => by
    simp only [List.getElem?_cons_succ] at hn
    exact frz_row true r n m hn
theorem St.frz {E : AE} {a : Act} {w : World} {ρ : Nat → Nat} (h : St w0 M0 N E a w ρ) (b : Bool) : St w0 M0 N ⟨E.t, Go.Proofs.Ythjojkkapboonaa.frz b E.h⟩ a w ρ := by
  have hl := frz_length b E.h
  have hk : Keeps (MM M0 ρ E.h) (MM M0 ρ (Go.Proofs.Ythjojkkapboonaa.frz b E.h)) w w := Keeps.less fun x hx => by
    rcases hx with hx | ⟨n, cs, hn, rfl⟩
    · exact .inl hx
    · obtain ⟨m', h1, h2⟩ := frz_get _ _ _ _ _ hn
      rw [h2 rfl] at h1
      exact .inr ⟨n, cs, h1, rfl⟩
  refine ⟨⟨h.heap.grow, fun n hn => h.heap.sep n (by simpa [hl] using hn), fun n hn => h.heap.lo n (by simpa [hl] using hn), fun n hn => h.heap.hi n (by simpa [hl] using hn), fun n m hn hm => h.heap.inj n m (by simpa [hl] using hn) (by simpa [hl] using hm), fun n m cs hn hne => ?_⟩, h.defers, h.size, fun t => ?_⟩
  · obtain ⟨m', h1, _⟩ := frz_get _ _ _ _ _ hn
    obtain ⟨us, ty, h3, h4⟩ := h.heap.rep n m' cs h1 hne
    exact ⟨us, ty, h3, h4.keep hk⟩
  · exact RepT.keep hk (by simp [hl]) (fun _ _ => rfl) (fun n m hn => ⟨frz_row b E.h n m hn, fun _ => rfl⟩) _ _ (h.tmp t)

theorem acode_wp {fz : List Nat × List (Nat × Nat)} (hT : TOk P T) (hl : ∀ b, M0 b → b < w0.heap.size) (hm : P.follows .mixedOrders = true) : ∀ (c : Code), codeOk N fz.2 c = true → ∀ (Q : Exit → AE → Prop) (E : AE) (a : Act) (w : World) (ρ : Nat → Nat), St w0 M0 N E a w ρ → acode P T fz c Q E → c.wp P (KQ w0 M0 N Q) a w
  | .skip, _, Q, E, a, w, ρ, h, hq => wp_skip ⟨E, ρ, hq, h⟩
  | .exit id, _, Q, E, a, w, ρ, h, hq => wp_exit ⟨E, ρ, hq, h⟩
  | .ret, _, Q, E, a, w, ρ, h, hq => wp_ret ⟨E, ρ, hq, h⟩
  | .seq x y, hok, Q, E, a, w, ρ, h, hq => by
    simp only [codeOk, Bool.and_eq_true] at hok
    simp only [acode] at hq
    refine wp_seq (Code.wp_mono (fun e a' w' q => ?_) (acode_wp hT hl hm x hok.1 _ E a w ρ h hq))
    obtain ⟨E', ρ', q, h'⟩ := q
    cases e
    case normal => exact acode_wp hT hl hm y hok.2 Q E' a' w' ρ' h' q
    all_goals exact ⟨E', ρ', q, h'⟩
  | .block id c, hok, Q, E, a, w, ρ, h, hq => by
    simp only [codeOk] at hok
    simp only [acode] at hq
    refine wp_block (Code.wp_mono (fun e a' w' q => ?_) (acode_wp hT hl hm c hok _ E a w ρ h hq))
    obtain ⟨E', ρ', q, h'⟩ := q
    cases e
    case exit i =>
      simp only [Exit.inBlock]
      simp only [ABlock] at q
      split
      · rename_i hi; rw [if_pos hi] at q; exact ⟨E', ρ', q, h'⟩
      · rename_i hi; rw [if_neg hi] at q; exact ⟨E', ρ', q, h'⟩
    all_goals exact ⟨E', ρ', q, h'⟩
  | .cond c x y, hok, Q, E, a, w, ρ, h, hq => by
    simp only [codeOk, Bool.and_eq_true] at hok
    simp only [acode] at hq
    split at hq
    · rename_i t ht
      have hc := h.evs c
      rw [ht] at hc
      have hc : a.eval c = .bool t := hc
      exact wp_cond_split hc (fun ht => acode_wp hT hl hm x hok.1 Q E a w ρ h (hq.1 ht)) (fun ht => acode_wp hT hl hm y hok.2 Q E a w ρ h (hq.2 ht))
    · exact hq.elim
  | .region id ops d, hok, Q, E, a, w, ρ, h, hq => by
    simp only [codeOk, Bool.and_eq_true, Bool.or_eq_true, Bool.not_eq_true'] at hok
    simp only [acode] at hq
    obtain ⟨h1, h2⟩ := hok
    have hd : ∀ o ∈ ops.toList, dstOk N o = true := List.all_eq_true.1 h1
    have hK : ∀ E a w ρ, Q .normal E → St w0 M0 N E a w ρ → KQ w0 M0 N Q .normal a w := fun E a w ρ hq h => ⟨E, ρ, hq, h⟩
    have h := h.frz (fz.1.contains id)
    cases d with
    | false =>
      have hq : aops P T ops (Q .normal) 0 ops.toList ⟨E.t, frz (fz.1.contains id) E.h⟩ := by
        simp only [Bool.false_eq_true, if_false, aopsD] at hq
        rw [if_neg (by omega), if_neg (by omega), if_neg (by omega), if_neg (by omega)] at hq
        exact hq
      exact wp_region_list (aops_list hT hl hK ops.toList hd h hq)
    | true =>
      have h2 : drawD N (tlN fz.2 id ops.size) ops = true := by
        rcases h2 with h2 | h2
        · cases h2
        · exact h2
      simp only [if_true, aopsD] at hq
      unfold drawD at h2
      generalize tlN fz.2 id ops.size = k at hq h2
      by_cases h9 : 4000 ≤ k
      · rw [if_pos h9] at hq
        obtain ⟨t, h7, h8⟩ := hq
        exact region_drawF (l := ops.toList) hT hl hm h7 hd hK h h8
      rw [if_neg h9] at hq
      by_cases h6 : 3000 ≤ k
      · rw [if_pos h6] at hq
        obtain ⟨t, h7, h8⟩ := hq
        exact region_drawO (l := ops.toList) hT hl hm h7 hd hK h h8
      rw [if_neg h6] at hq h2
      by_cases h5 : 2000 ≤ k
      · rw [if_pos h5] at hq h2
        exact region_drawA (l := ops.toList) hT hl hm h2 hd hK h hq
      · rw [if_neg h5] at hq h2
        by_cases h3 : 1000 ≤ k
        · rw [if_pos h3] at hq h2
          rw [Bool.and_eq_true, decide_eq_true_eq] at h2
          obtain ⟨h4, h2⟩ := h2
          generalize k - 1000 = k at hq h2 h4
          exact region_drawB (m := k) (l := ops.toList) hT hl hm (Nat.le_trans h4 (Nat.le_of_eq Array.length_toList.symm)) h2 hd hK h hq
        · rw [if_neg h3] at hq h2
          rw [Bool.or_eq_true, Bool.and_eq_true, beq_iff_eq] at h2
          rcases h2 with ⟨h3, h2⟩ | h2
          · subst h3
            exact region_draw (l := ops.toList) hT hl hm h2 hd hK h (n := ops.size) (by simp) hq
          · exact region_drawT (l := ops.toList) hT hl hm h2 hd hK h hq
  | .loop c, hok, Q, E, a, w, ρ, h, hq => by
    simp only [codeOk] at hok
    simp only [acode] at hq
    have ih := acode_wp (fz := fz) hT hl hm c hok
    rcases hq with ⟨n, hq⟩ | ⟨κ, inv, m, k0, hle, hr⟩
    · refine wp_loop_idx (fun n a w => ∃ E ρ, unr (acode P T fz c) Q n E ∧ St w0 M0 N E a w ρ) (n := n) ⟨E, ρ, hq, h⟩ ?_
      rintro n a w ⟨E, ρ, hq, h⟩
      cases n with
      | zero => exact hq.elim
      | succ n =>
        refine Code.wp_mono (fun e a' w' q => ?_) (ih _ E a w ρ h hq)
        obtain ⟨E', ρ', q, h'⟩ := q
        cases e
        case normal => exact ⟨n, by omega, E', ρ', q, h'⟩
        all_goals exact ⟨E', ρ', q, h'⟩
    · refine wp_loop_idx (fun n a w => ∃ k ρ, m k = n ∧ St w0 M0 N (inv k) a w ρ) (n := m k0) ⟨k0, ρ, rfl, h.le hle⟩ ?_
      rintro n a w ⟨k, ρ, rfl, h⟩
      refine Code.wp_mono (fun e a' w' q => ?_) (ih _ _ a w ρ h (hr k))
      obtain ⟨E', ρ', q, h'⟩ := q
      cases e
      case normal =>
        obtain ⟨k', h1, h2⟩ := q
        exact ⟨m k', h2, k', ρ', rfl, h'.le h1⟩
      all_goals exact ⟨E', ρ', q, h'⟩
  | .rangeFunc .., hok, _, _, _, _, _, _, _ => by cases hok
  | .scope .., hok, _, _, _, _, _, _, _ => by cases hok
  | .label .., hok, _, _, _, _, _, _, _ => by cases hok
  | .goto .., hok, _, _, _, _, _, _, _ => by cases hok
  | .refuse .., hok, _, _, _, _, _, _, _ => by cases hok
end

/-- The results. -/
noncomputable def resF (T : Nat → Option TI) (E : AE) : ResultVar → Option (Prop × AV)
  | .tmp t => match rd E.h (lk E.t t) with | .v a => some (True, a) | _ => none
  | .cell x t => match lk E.t x, T t with
    | .p n off, some ti => match E.h[n]? with | some (_, cs) => loadF ti (cs.drop off) | none => none
    | _, _ => none
noncomputable def resL (T : Nat → Option TI) (E : AE) : List ResultVar → Option (Prop × List AV)
  | [] => some (True, [])
  | x :: r => (resF T E x).bind fun a => (resL T E r).map fun b => (a.1 ∧ b.1, a.2 :: b.2)
def AEnd (T : Nat → Option TI) (rs : List ResultVar) (R : AV → Prop) : Exit → AE → Prop
  | .normal, E => match resL T ⟨E.t, frz true E.h⟩ rs with | some (c, [x]) => c ∧ R x | some (c, xs) => c ∧ R (.tup xs) | none => False
  | .ret, E => match resL T ⟨E.t, frz true E.h⟩ rs with | some (c, [x]) => c ∧ R x | some (c, xs) => c ∧ R (.tup xs) | none => False
  | _, _ => False

def resV (tmps : Array Value) : ResultVar → Sem Value
  | .tmp t => pure (tmps.getD t undef)
  | .cell x t => do loadVar t (← asAddr (tmps.getD x undef))
theorem results_eq (fn : Func) (tmps : Array Value) : results fn tmps = (do let vs ← fn.results.mapM (resV tmps); pure (if h : vs.size = 1 then vs[0] else .tuple vs)) := by
  have : (fun | .tmp t => pure (tmps.getD t undef) | .cell a t => do loadVar t (← asAddr (tmps.getD a undef)) : ResultVar → Sem Value) = resV tmps := by
    funext x
    cases x <;> rfl
  unfold results
  rw [← this]
  rfl

theorem resL_run {P : Program} {T : Nat → Option TI} (hT : TOk P T) {w0 : World} {M0 : Nat → Prop} {N : Nat} {E : AE} {a : Act} {w : World} {ρ : Nat → Nat} (h : St w0 M0 N E a w ρ) : ∀ (rs : List ResultVar) {c : Prop} {xs : List AV}, resL T E rs = some (c, xs) → c →
    ∃ vs, (rs.mapM (resV a.tmps)).run P w = .ok vs w ∧ RepL (MM M0 ρ E.h) w xs vs
  | [], c, xs, hr, hc => by
    simp only [resL, Option.some.injEq, Prod.mk.injEq] at hr
    obtain ⟨_, rfl⟩ := hr
    exact ⟨[], by simp, RepL.nil⟩
  | x :: r, c, xs, hr, hc => by
    simp only [resL, Option.bind_eq_some_iff, Option.map_eq_some_iff, Prod.mk.injEq] at hr
    obtain ⟨⟨c1, a1⟩, h1, ⟨c2, as⟩, h2, h3, h4⟩ := hr
    subst h3 h4
    obtain ⟨vs, h5, h6⟩ := resL_run hT h r h2 hc.2
    have key : ∃ v, (resV a.tmps x).run P w = .ok v w ∧ RepV (MM M0 ρ E.h) w a1 v := by
      unfold resF at h1
      split at h1
      · rename_i t
        split at h1 <;> simp only [Option.some.injEq, Prod.mk.injEq, reduceCtorEq] at h1
        rename_i y hy
        obtain ⟨_, rfl⟩ := h1
        have ht := rd_rep h.heap (h.tmp t)
        rw [hy] at ht
        exact ⟨_, rfl, ht⟩
      · rename_i x t
        split at h1 <;> try cases h1
        rename_i n off ti hx ht
        split at h1 <;> try cases h1
        rename_i m cs hn
        have hx' := h.tmp x
        rw [hx] at hx'
        obtain ⟨_, hx'⟩ := hx'
        obtain ⟨us, h7, h8⟩ := h.heap.cell hn
        obtain ⟨z, h9, h10⟩ := load_run (b := ρ n) (o := off) (hT _ _ ht) h1 hc.1 (h7.drop off) (fun i hi => by
          rw [h8 (off + i) (by simp at hi; omega)]
          simp [List.getD, List.getElem?_drop])
        exact ⟨z, by simp only [resV, Sem.run_bind, hx', asAddr, Sem.run_pure, Result.andThen_ok, h9], h10⟩
    obtain ⟨v, h7, h8⟩ := key
    refine ⟨v :: vs, ?_, RepL.cons h8 h6⟩
    rw [List.mapM_cons, Sem.run_bind, h7, Result.andThen_ok, Sem.run_bind, h5]
    rfl

def argE (i : Nat) : List AV → List (Nat × TV)
  | [] => []
  | a :: as => (i, .v a) :: argE (i + 1) as

theorem argE_rep {M : Nat → Prop} {w : World} {ρ : Nat → Nat} {rest : List Value} : ∀ {as : List AV} {vs : List Value} (pre : List Value) (t : Nat), RepL M w as vs → RepT ρ [] M w (lk (argE pre.length as) t) ((pre ++ vs ++ rest).getD t undef)
  | [], vs, pre, t, h => by simp only [argE, lk, RepT, RepV]
  | a :: as, vs, pre, t, h => by
    simp only [RepL] at h
    obtain ⟨v, us, rfl, h1, h2⟩ := h
    simp only [argE, lk]
    split
    · rename_i he
      subst he
      show RepV M w a _
      simpa [List.getD] using h1
    · have := argE_rep (rest := rest) (pre ++ [v]) t h2 (ρ := ρ)
      simpa using this

/-- A FUNCTION's CONTRACT OUT OF ITS TEXT. -/
theorem ASpec.of_body {P : Program} {T : Nat → Option TI} (hT : TOk P T) (hm : P.follows .mixedOrders = true) {f : FuncId} {fn : Func} {body : Code} {as : List AV} {r : AV} (N : Nat) (rs : List ResultVar) (fz : List Nat × List (Nat × Nat)) (hf : P.funcs[f]? = some fn) (hname : (fn.name == "runtime.NumGoroutine") = false)
    (hb : fn.body = some body) (hN : fn.ntmps = N) (hlen : as.length ≤ N) (hrs : fn.results.toList = rs) (hok : codeOk N fz.2 body = true) (h : acode P T fz body (AEnd T rs (fun x => x = r)) ⟨argE 0 as, []⟩) : ASpec P f as r := by
  refine ⟨⟨fn, hf, hname, by rw [hb]; rfl⟩, fun M w vs hM hvs => ?_⟩
  have hvl := hvs.length
  refine calls_of_wp hf hb ?_
  have h0 : St w M N ⟨argE 0 as, []⟩ { tmps := vs.toArray ++ Array.replicate (fn.ntmps - vs.toArray.size) undef, defers := [] } w (fun _ => 0) := by
    refine ⟨⟨Grow.refl _, fun n hn => absurd hn (by simp), fun n hn => absurd hn (by simp), fun n hn => absurd hn (by simp), fun n m hn => absurd hn (by simp), fun n m cs hn => by simp at hn⟩, rfl, by simp; omega, fun t => ?_⟩
    have hMM : ∀ b, MM M (fun _ => 0) [] b ↔ M b := fun b => ⟨fun hb => by rcases hb with hb | ⟨n, cs, hn, _⟩; exact hb; simp at hn, .inl⟩
    have hr : RepL (MM M (fun _ => 0) []) w as vs := hvs.keep (Keeps.less fun b hb => (hMM b).1 hb)
    have := argE_rep (ρ := fun _ => 0) (rest := List.replicate (fn.ntmps - vs.length) undef) [] t hr
    simp only [List.length_nil, List.nil_append] at this
    have e : (vs.toArray ++ Array.replicate (fn.ntmps - vs.toArray.size) undef).getD t undef = (vs ++ List.replicate (fn.ntmps - vs.length) undef).getD t undef := by
      rw [Array.getD_eq_getD_getElem?, List.getD, ← Array.getElem?_toList]
      simp
    rw [e]
    exact this
  have fin : ∀ (e : Exit) (a : Act) (w' : World), (e = .normal ∨ e = .ret) → KQ w M N (AEnd T rs (fun x => x = r)) e a w' → a.defers = [] ∧ ∃ v, (results fn a.tmps).run P w' = .ok v w' ∧ ∃ v', Ending.returned v = .returned v' ∧ RepV M w' r v' ∧ Grow w w' := by
    rintro e a w' he ⟨E, ρ, hq, hst⟩
    refine ⟨hst.defers, ?_⟩
    replace hst := hst.frz true
    have hq : match resL T ⟨E.t, Go.Proofs.Ythjojkkapboonaa.frz true E.h⟩ rs with | some (c, [x]) => c ∧ x = r | some (c, xs) => c ∧ AV.tup xs = r | none => False := by
      rcases he with rfl | rfl <;> exact hq
    have hsub : Keeps (MM M ρ (Go.Proofs.Ythjojkkapboonaa.frz true E.h)) M w' w' := Keeps.less fun b hb => .inl hb
    have hmap : ∀ vs, ((rs.mapM (resV a.tmps)).run P w' = .ok vs w') →
        (results fn a.tmps).run P w' = .ok (if h : vs.length = 1 then vs[0] else .tuple vs.toArray) w' := by
      intro vs hv
      rw [results_eq, Array.mapM_eq_mapM_toList, hrs]
      simp only [Sem.run_bind, Sem.run_map, hv, Result.andThen_ok, Sem.run_pure]
      congr 1
    split at hq
    · rename_i c x hr
      obtain ⟨hc, rfl⟩ := hq
      obtain ⟨us, h1, h2⟩ := resL_run hT hst rs hr hc
      simp only [RepL] at h2
      obtain ⟨v, _, rfl, h3, rfl⟩ := h2
      exact ⟨v, by simpa using hmap _ h1, v, rfl, RepV.keep hsub _ _ h3, hst.heap.grow⟩
    · rename_i c xs hno hr
      obtain ⟨hc, rfl⟩ := hq
      obtain ⟨us, h1, h2⟩ := resL_run hT hst rs hr hc
      have hl : us.length ≠ 1 := by
        rw [h2.length]
        intro h1
        match xs, h1 with
        | [x], _ => exact hno x rfl
      refine ⟨.tuple us.toArray, by simpa [hl] using hmap _ h1, _, rfl, ?_, hst.heap.grow⟩
      simp only [RepV]
      exact ⟨us, rfl, RepL.keep hsub _ _ h2⟩
    · exact hq.elim
  refine Code.wp_mono (fun e a w' q => ?_) (acode_wp hT hM hm body hok _ _ _ w _ h0 h)
  cases e
  case normal => exact fin _ a w' (.inl rfl) q
  case ret => exact fin _ a w' (.inr rfl) q
  all_goals (obtain ⟨_, _, q, _⟩ := q; exact q.elim)

/-- The result is a new row. -/
def WRes (E : AE) (e k : Nat) (a : AV) : List ResultVar → Prop
  | [.tmp t] => match lk E.t t with
    | .r n e' k' a' => match E.h[n]? with
      | some (true, _) => e = e' ∧ k = k' ∧ a' = a
      | _ => False
    | _ => False
  | _ => False
theorem WRes.out {E : AE} {e k : Nat} {a : AV} {rs : List ResultVar} (h : WRes E e k a rs) : ∃ t n cs, rs = [.tmp t] ∧ lk E.t t = .r n e k a ∧ E.h[n]? = some (true, cs) := by
  unfold WRes at h
  split at h <;> try exact h.elim
  rename_i t
  split at h <;> try exact h.elim
  rename_i n e' k' a' ht
  split at h <;> try exact h.elim
  rename_i cs hn
  obtain ⟨rfl, rfl, rfl⟩ := h
  exact ⟨t, n, cs, rfl, ht, hn⟩
def AEndW (rs : List ResultVar) (e k : Nat) (a : AV) : Exit → AE → Prop
  | .normal, E => WRes E e k a rs
  | .ret, E => WRes E e k a rs
  | _, _ => False

theorem ASpecW.of_body {P : Program} {T : Nat → Option TI} (hT : TOk P T) (hm : P.follows .mixedOrders = true) {f : FuncId} {fn : Func} {body : Code} {as : List AV} {e k : Nat} {a : AV} (N : Nat) (rs : List ResultVar) (fz : List Nat × List (Nat × Nat)) (hf : P.funcs[f]? = some fn) (hname : (fn.name == "runtime.NumGoroutine") = false)
    (hb : fn.body = some body) (hN : fn.ntmps = N) (hlen : as.length ≤ N) (hrs : fn.results.toList = rs) (hok : codeOk N fz.2 body = true) (h : acode P T fz body (AEndW rs e k a) ⟨argE 0 as, []⟩) : ASpecW P f as e k a := by
  refine ⟨⟨fn, hf, hname, by rw [hb]; rfl⟩, fun M w vs hM hvs => ?_⟩
  have hvl := hvs.length
  refine calls_of_wp hf hb ?_
  have h0 : St w M N ⟨argE 0 as, []⟩ { tmps := vs.toArray ++ Array.replicate (fn.ntmps - vs.toArray.size) undef, defers := [] } w (fun _ => 0) := by
    refine ⟨⟨Grow.refl _, fun n hn => absurd hn (by simp), fun n hn => absurd hn (by simp), fun n hn => absurd hn (by simp), fun n m hn => absurd hn (by simp), fun n m cs hn => by simp at hn⟩, rfl, by simp; omega, fun t => ?_⟩
    have hMM : ∀ b, MM M (fun _ => 0) [] b ↔ M b := fun b => ⟨fun hb => by rcases hb with hb | ⟨n, cs, hn, _⟩; exact hb; simp at hn, .inl⟩
    have hr : RepL (MM M (fun _ => 0) []) w as vs := hvs.keep (Keeps.less fun b hb => (hMM b).1 hb)
    have := argE_rep (ρ := fun _ => 0) (rest := List.replicate (fn.ntmps - vs.length) undef) [] t hr
    simp only [List.length_nil, List.nil_append] at this
    have e : (vs.toArray ++ Array.replicate (fn.ntmps - vs.toArray.size) undef).getD t undef = (vs ++ List.replicate (fn.ntmps - vs.length) undef).getD t undef := by
      rw [Array.getD_eq_getD_getElem?, List.getD, ← Array.getElem?_toList]
      simp
    rw [e]
    exact this
  have fin : ∀ (x : Exit) (c : Act) (w' : World), (x = .normal ∨ x = .ret) → KQ w M N (AEndW rs e k a) x c w' → c.defers = [] ∧ ∃ v, (results fn c.tmps).run P w' = .ok v w' ∧ ∃ v' us len, Ending.returned v = .returned v' ∧ Grow w w' ∧ w'.ownsRow w.heap.size e k v' len us ∧ ∀ M' : Nat → Prop, (∀ x, M' x → M x ∨ v'.ownBlock = some x) → contA M' w' k us a := by
    rintro x c w' he ⟨E, ρ, hq, hst⟩
    refine ⟨hst.defers, ?_⟩
    have hq : WRes E e k a rs := by
      rcases he with rfl | rfl <;> exact hq
    obtain ⟨t, n, cs, hrt, ht, hn⟩ := hq.out
    have hv := hst.tmp t
    rw [ht] at hv
    obtain ⟨⟨m, hm'⟩, us, len, ⟨h1, h2⟩, h3, h4⟩ := hv
    have hlo := hst.heap.lo n (List.getElem?_eq_some_iff.1 hn).1
    refine ⟨c.tmps.getD t undef, ?_, _, us, len, rfl, hst.heap.grow, ⟨h1, ?_⟩, fun M' hM' => ?_⟩
    · rw [results_eq, Array.mapM_eq_mapM_toList, hrs, hrt]
      simp [resV]
    · rcases h2 with h2 | ⟨b, cap, cur, hb, _, h5⟩
      · exact .inl h2
      · rw [hb, Value.ownBlock, Option.some.injEq] at h3
        have h3 : b = ρ n := h3
        exact .inr ⟨b, cap, cur, hb, by rw [h3]; exact hlo, h5⟩
    · refine h4.keep (Keeps.less fun x hx => ?_)
      rcases hM' x hx with hx | hx
      · exact .inl hx
      · rw [h3] at hx
        exact .inr ⟨n, cs, hn, (Option.some.inj hx).symm⟩
  refine Code.wp_mono (fun e a w' q => ?_) (acode_wp hT hM hm body hok _ _ _ w _ h0 h)
  cases e
  case normal => exact fin _ a w' (.inl rfl) q
  case ret => exact fin _ a w' (.inr rfl) q
  all_goals (obtain ⟨_, _, q, _⟩ := q; exact q.elim)
end Go.Proofs.Ythjojkkapboonaa
