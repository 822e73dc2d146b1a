/- A region that draws its order: what is known in the text's order is known in every order. No program in sight. -/
import Derived.Test.YthjojkkapboonaaBG
namespace Go.Proofs.Ythjojkkapboonaa
set_option linter.unusedSimpArgs false
set_option linter.unusedVariables false
open Go.RowKit

def lastW (ops : Array Oper) (i : Nat) (t : Tmp) : Option Nat := (List.range i).reverse.find? fun k => (ops[k]?).map (·.dst) == some (some t)
def preOf (ops : Array Oper) (i : Nat) : List (Tmp × Option Nat) := match ops[i]? with | some o => (o.looksAt ops).map fun t => (t, lastW ops i t) | none => []
def headN (ops : List Oper) : Nat := (ops.takeWhile fun o => !isHeap o.op).length
def preAll (ops : Array Oper) (m : Nat) : List (List (Tmp × Option Nat)) := (List.range m).map (preOf ops)
def isAlloc : Option Oper → Bool
  | some ⟨_, .alloc _, _, _, _, none⟩ => true
  | _ => false
def drawOk1 (N : Nat) (ops : Array Oper) : Bool := gammaB ops (headN ops.toList) (preAll ops (headN ops.toList)) N
/-- One block may be made anywhere in the head. -/
def drawOk2 (N : Nat) (ops : Array Oper) : Bool := isAlloc ops[headN ops.toList]? && (ops.toList.take (headN ops.toList)).all (fun o => quiet o.op) && gammaB ops (headN ops.toList + 1) (preAll ops (headN ops.toList + 1)) N
def drawOk (N : Nat) (ops : Array Oper) : Bool := drawOk1 N ops || drawOk2 N ops

theorem lastW_some {ops : Array Oper} {i t j : Nat} (h : lastW ops i t = some j) : j < i ∧ ∃ o, ops[j]? = some o ∧ o.dst = some t := by
  have h1 := List.find?_some h
  have h2 := List.mem_of_find?_eq_some h
  simp only [List.mem_reverse, List.mem_range] at h2
  refine ⟨h2, ?_⟩
  cases ho : ops[j]? with
  | none => rw [ho] at h1; simp at h1
  | some o => rw [ho] at h1; exact ⟨o, rfl, by simpa using h1⟩
theorem lastW_none {ops : Array Oper} {i t : Nat} (h : lastW ops i t = none) : ∀ k o, k < i → ops[k]? = some o → o.dst ≠ some t := by
  intro k o hk ho hd
  have := List.find?_eq_none.1 h k (by simpa using hk)
  simp [ho, hd] at this

section
variable (P : Program) (T : Nat → Option TI) (all : Array Oper)
def Rel (E : AE) (o : Oper) (tv : TV) : Prop :=
  (o.guard = none ∧ Hop P T (evT E.t) E.h o.op tv) ∨ (∃ g b t, o.guard = some (g, b) ∧ gval all E.t g = .v (.one (.bool t)) ∧ ((t = b ∧ Hop P T (evT E.t) E.h o.op tv) ∨ (t ≠ b ∧ tv = .v (.one (.tuple #[]))))) ∨ (∃ g b u, o.guard = some (g, b) ∧ gval all E.t g = .v (.one (.tuple u)) ∧ tv = .v (.one (.tuple #[])))
inductive Run : List Oper → AE → List TV → AE → Prop
  | nil {E : AE} : Run [] E [] E
  | cons {o : Oper} {os : List Oper} {E E' : AE} {tv : TV} {tvs : List TV} (h : Rel P T all E o tv) (h' : Run os ⟨putT o.dst tv E.t, E.h⟩ tvs E') : Run (o :: os) E (tv :: tvs) E'
end

section
variable {P : Program} {T : Nat → Option TI} {all : Array Oper}

theorem aops_run {K : AE → Prop} : ∀ (l1 l2 : List Oper) (n : Nat) (E : AE), l1.length ≤ n → (∀ o ∈ l1, isHeap o.op = false) → aops P T all K n (l1 ++ l2) E → ∃ tvs E', Run P T all l1 E tvs E' ∧ aops P T all K (n - l1.length) l2 E' ∧ tvs.length = l1.length
  | [], l2, n, E, _, _, h => ⟨[], E, .nil, by simpa using h, rfl⟩
  | o :: os, l2, n, E, hn, hh, h => by
    simp only [List.length_cons] at hn
    have hn0 : (n == 0) = false := by
      rw [beq_eq_false_iff_ne]
      omega
    have hn1 : n - (o :: os).length = n - 1 - os.length := by simp only [List.length_cons]; omega
    rw [hn1]
    have ih := fun tv => aops_run (K := K) os l2 (n - 1) ⟨putT o.dst tv E.t, E.h⟩ (by omega) (fun o ho => hh o (by simp [ho]))
    have h0 := hh o (by simp)
    simp only [List.cons_append, aops, hn0] at h
    split at h
    · rename_i hg
      obtain ⟨tv, h1, h2⟩ := AStep.hop h0 h
      obtain ⟨tvs, E', h3, h4, h5⟩ := ih tv h2
      exact ⟨tv :: tvs, E', .cons (.inl ⟨hg, h1⟩) h3, h4, by simp [h5]⟩
    · rename_i g b hg
      split at h
      · rename_i t ht
        by_cases htb : t = b
        · obtain ⟨tv, h1, h2⟩ := AStep.hop h0 (h.1 htb)
          obtain ⟨tvs, E', h3, h4, h5⟩ := ih tv h2
          exact ⟨tv :: tvs, E', .cons (.inr (.inl ⟨g, b, t, hg, ht, .inl ⟨htb, h1⟩⟩)) h3, h4, by simp [h5]⟩
        · obtain ⟨tvs, E', h3, h4, h5⟩ := ih _ (h.2 (by cases t <;> cases b <;> simp_all))
          exact ⟨_ :: tvs, E', .cons (.inr (.inl ⟨g, b, t, hg, ht, .inr ⟨htb, rfl⟩⟩)) h3, h4, by simp [h5]⟩
      · rename_i u ht
        obtain ⟨tvs, E', h3, h4, h5⟩ := ih _ h
        exact ⟨_ :: tvs, E', .cons (.inr (.inr ⟨g, b, u, hg, ht, rfl⟩)) h3, h4, by simp [h5]⟩
      · exact h.elim

theorem run_at {l : List Oper} {E E' : AE} {tvs : List TV} (h : Run P T all l E tvs E') : ∀ (i : Nat) (o : Oper), l[i]? = some o → ∃ Ei, Rel P T all Ei o (tvs.getD i (.v .any)) ∧ Ei.h = E.h ∧
    (∀ (j : Nat) (oj : Oper) (t : Nat), j < i → l[j]? = some oj → oj.dst = some t → (∀ k ok, j < k → k < i → l[k]? = some ok → ok.dst ≠ some t) → lk Ei.t t = tvs.getD j (.v .any)) ∧
    (∀ (t : Nat), (∀ k ok, k < i → l[k]? = some ok → ok.dst ≠ some t) → lk Ei.t t = lk E.t t) := by
  induction h with
  | nil => intro i o ho; simp at ho
  | @cons o os E E' tv tvs hr _ ih =>
    intro i oi hoi
    cases i with
    | zero =>
      obtain rfl : o = oi := by simpa using hoi
      exact ⟨E, by simpa using hr, rfl, fun j _ _ hj => absurd hj (by omega), fun _ _ => rfl⟩
    | succ i =>
      obtain ⟨Ei, h1, h2, h3, h4⟩ := ih i oi (by simpa using hoi)
      refine ⟨Ei, by simpa using h1, h2, ?_, ?_⟩
      · intro j oj t hj hoj hd hno
        cases j with
        | zero =>
          obtain rfl : o = oj := by simpa using hoj
          have := h4 t (fun k ok hk hok => hno (k + 1) ok (by omega) (by omega) (by simpa using hok))
          rw [this, hd]
          simp [putT, lk]
        | succ j =>
          have := h3 j oj t (by omega) (by simpa using hoj) hd (fun k ok hjk hki hok => hno (k + 1) ok (by omega) (by omega) (by simpa using hok))
          simpa using this
      · intro t hno
        rw [h4 t (fun k ok hk hok => hno (k + 1) ok (by omega) (by simpa using hok))]
        have := hno 0 o (by omega) (by simp)
        cases hd : o.dst with
        | none => rfl
        | some d =>
          rw [hd] at this
          simp only [putT, lk]
          rw [if_neg (fun e => this (by rw [e]))]
end

def spOf (ρ : Nat → Nat) (L : List (Bool × List AV)) (M : Nat → Prop) (tv : TV) : Sp := .rel fun v w => RepT ρ L M w tv v

theorem obL_of {P : Program} {ops : Array Oper} {sp : List Sp} {a0 : Act} {w0 : World} : ∀ (os : List Oper) (ss : List Sp) (ps : List (List (Tmp × Option Nat))), ss.length = os.length → ps.length = os.length →
    (∀ i o, os[i]? = some o → Ob P ops sp a0 w0 o (ss.getD i (.ex undef)) (ps.getD i [])) → ObL P ops sp a0 w0 os ss ps
  | [], _, _, _, _, _ => trivial
  | o :: os, s :: ss, p :: ps, h1, h2, h => ⟨by simpa using h 0 o rfl, obL_of os ss ps (by simpa using h1) (by simpa using h2) (fun i o' ho => by simpa using h (i + 1) o' (by simpa using ho))⟩
  | _ :: _, [], _, h1, _, _ => by simp at h1
  | _ :: _, _ :: _, [], _, h2, _ => by simp at h2

theorem preL_mem {sp : List Sp} {a0 a : Act} {w : World} : ∀ {p : List (Tmp × Option Nat)}, PreL sp a0 a w p → ∀ t x, (t, x) ∈ p → match x with | some j => (sp.getD j (.ex undef)).at_ (a.tmps[t]?) w | none => a.tmps[t]? = a0.tmps[t]?
  | [], _, t, x, hx => by cases hx
  | (t', some j) :: r, h, t, x, hx => by
    rcases List.mem_cons.1 hx with hx | hx
    · cases hx; exact h.1
    · exact preL_mem h.2 t x hx
  | (t', none) :: r, h, t, x, hx => by
    rcases List.mem_cons.1 hx with hx | hx
    · cases hx; exact h.1
    · exact preL_mem h.2 t x hx

theorem stL_map {ρ : Nat → Nat} {L : List (Bool × List AV)} {M : Nat → Prop} : ∀ tvs : List TV, StL (tvs.map (spOf ρ L M))
  | [] => trivial
  | tv :: tvs => ⟨fun _ _ _ g h => RepT.grow h g, stL_map tvs⟩

theorem fin_nil {Q : Act → World → Prop} {w : World} {a : Act} {os : List Oper} (h : Q a w) : Fin Q w os [] a := by cases os <;> exact h

theorem fin_run {P : Program} {T : Nat → Option TI} {all : Array Oper} {w0 : World} {M0 : Nat → Prop} {ρ : Nat → Nat} {w : World} {N : Nat} {Q : Act → World → Prop} {L : List (Bool × List AV)} {M : Nat → Prop} (l2 : List Oper) (ss : List Sp) {l : List Oper} {E E' : AE} {tvs : List TV} (h : Run P T all l E tvs E') :
    (∀ o ∈ l, dstOk N o = true) → L = E.h → M = MM M0 ρ E.h → ∀ a, St w0 M0 N E a w ρ → (∀ a', St w0 M0 N E' a' w ρ → E'.h = E.h → Fin Q w l2 ss a') → Fin Q w (l ++ l2) (tvs.map (spOf ρ L M) ++ ss) a := by
  induction h with
  | nil => intro _ _ _ a hs hq; exact hq a hs rfl
  | @cons o os E E' tv tvs hr _ ih =>
    intro hd hL hM a hs hq
    subst hL hM
    intro v hv
    exact ih (fun o ho => hd o (by simp [ho])) rfl rfl _ (hs.put (Grow.refl _) (dstOk_iff (hd o (by simp))) hv) hq

theorem headN_heap : ∀ (l : List Oper), ∀ o ∈ l.take (headN l), isHeap o.op = false := by
  intro l
  unfold headN
  induction l with
  | nil => simp
  | cons x l ih =>
    intro o ho
    by_cases hx : isHeap x.op = true
    · simp [List.takeWhile_cons, hx] at ho
    · simp only [List.takeWhile_cons, hx, Bool.not_false, if_true, List.length_cons, List.take_succ_cons, List.mem_cons] at ho
      rcases ho with rfl | ho
      · simpa using hx
      · exact ih o ho

section
variable {P : Program} {T : Nat → Option TI} {w0 : World} {M0 : Nat → Prop} {ρ : Nat → Nat} {w : World} {N : Nat} {l : List Oper}

theorem head_ob (hT : TOk P T) {k m : Nat} (hok : gammaB l.toArray m (preAll l.toArray m) N = true) (hkm : k ≤ m) {E E' : AE} {a : Act} (hst : St w0 M0 N E a w ρ) (hq : (∀ b, M0 b → b < w0.heap.size) ∨ ∀ o ∈ l.take k, quiet o.op = true) {tvs : List TV} (hrun : Run P T l.toArray (l.take k) E tvs E') (hlen : tvs.length = k) (ss : List Sp)
    (i : Nat) (o : Oper) (hik : i < k) (hio : l[i]? = some o) :
    Ob P l.toArray (tvs.map (spOf ρ E.h (MM M0 ρ E.h)) ++ ss) a w o ((tvs.map (spOf ρ E.h (MM M0 ρ E.h)) ++ ss).getD i (.ex undef)) ((preAll l.toArray m).getD i []) := by
  obtain ⟨_, hprel, hms, hback, hinj, _⟩ := gammaB_parts hok
  simp only [List.size_toArray] at hms
  intro a1 w1 g1 hpre K1 hK1
  have hio' : (l.take k)[i]? = some o := by rw [List.getElem?_take, if_pos hik]; exact hio
  obtain ⟨Ei, hrel, hEh, hA, hB⟩ := run_at hrun i o hio'
  have hH1 := hst.heap.grown g1
  have hq1 : (∀ b, MM M0 ρ E.h b → b < w1.heap.size) ∨ quiet o.op = true := hq.imp (fun hl => hH1.low' hl) (fun h => h o (List.mem_of_getElem? hio'))
  have hpi : (preAll l.toArray m).getD i [] = (o.looksAt l.toArray).map fun t => (t, lastW l.toArray i t) := by
    simp [preAll, List.getD, show i < m by omega, preOf, hio]
  rw [hpi] at hpre
  have hsp : ∀ j, j < k → (tvs.map (spOf ρ E.h (MM M0 ρ E.h)) ++ ss).getD j (.ex undef) = spOf ρ E.h (MM M0 ρ E.h) (tvs.getD j (.v .any)) := by
    intro j hj
    have hj' : j < tvs.length := by omega
    simp [List.getD, List.getElem?_append_left, hj']
  rw [hsp i hik] at hK1
  have hlk : ∀ t, t ∈ o.looksAt l.toArray → RepT ρ E.h (MM M0 ρ E.h) w1 (lk Ei.t t) (a1.tmps.getD t undef) := by
    intro t ht
    have hp := preL_mem hpre t (lastW l.toArray i t) (List.mem_map.2 ⟨t, ht, rfl⟩)
    cases hw : lastW l.toArray i t with
    | none =>
      rw [hw] at hp
      simp only at hp
      have hno := lastW_none hw
      rw [hB t (fun k' ok hk' hok' => hno k' ok hk' (by
        rw [List.getElem?_take, if_pos (by omega)] at hok'
        simpa using hok')), Array.getD_eq_getD_getElem?, hp, ← Array.getD_eq_getD_getElem?]
      exact (hst.tmp t).grow g1
    | some j =>
      rw [hw] at hp
      simp only at hp
      obtain ⟨hji, oj, hoj, hdj⟩ := lastW_some hw
      have hojl : l[j]? = some oj := by simpa using hoj
      rw [hA j oj t hji (by rw [List.getElem?_take, if_pos (by omega)]; exact hojl) hdj (fun k' ok hjk hki hok' hdk => by
        rw [List.getElem?_take, if_pos (by omega)] at hok'
        have := hinj j k' oj ok t (by omega) (by omega) hoj (by simpa using hok') hdj hdk
        omega)]
      obtain ⟨v, hv, hh⟩ := hp
      rw [hsp j (by omega)] at hh
      rw [Array.getD_eq_getD_getElem?, hv]
      exact hh
  have hev : ∀ x ∈ o.op.operands, RepT ρ E.h (MM M0 ρ E.h) w1 (evT Ei.t x) (a1.eval x) := by
    intro x hx
    cases x with
    | tmp t =>
      refine hlk t ?_
      unfold Oper.looksAt
      exact List.mem_append_left _ (List.mem_filterMap.2 ⟨.tmp t, by simpa using hx, rfl⟩)
    | const v => exact constT_rep v
    | global g => exact repT_one
    | func f => exact repT_one
  rw [← hEh] at hev hH1 hq1
  have hKv : ∀ v w', Grow w1 w' → RepT ρ Ei.h (MM M0 ρ Ei.h) w' (tvs.getD i (.v .any)) v → K1 (a1.put o.dst v) w' := by
    intro v w' g hv
    rw [hEh] at hv
    exact hK1 v w' g hv
  rcases hrel with ⟨hg, hhop⟩ | ⟨g, b, t, hg, hgv, hc⟩ | ⟨g, b, u, hg, hgv, htv⟩
  · rw [if_pos (by simp [Region.wanted, hg])]
    exact hop_wp hT hH1 hq1 hhop hev hKv
  · have hy : yielded l.toArray a1.tmps g = some t := by
      unfold gval at hgv
      unfold yielded
      split at hgv
      · rename_i d hd'
        have h5 := hlk d (by
          unfold Oper.looksAt
          refine List.mem_append_right _ ?_
          rw [hg]
          simp only
          rw [hd']
          simp)
        rw [hgv] at h5
        have h5 : a1.tmps.getD d undef = .bool t := h5
        rw [hd']
        simp only [Option.bind_some]
        rw [Array.getD_eq_getD_getElem?] at h5
        cases hx : a1.tmps[d]? with
        | none => rw [hx] at h5; exact absurd h5 (by simp [undef])
        | some v => rw [hx] at h5; simp at h5; subst h5; rfl
      · cases hgv
    rcases hc with ⟨htb, hhop⟩ | ⟨htb, htv⟩
    · rw [if_pos (by simp [Region.wanted, hg, hy, htb])]
      exact hop_wp hT hH1 hq1 hhop hev hKv
    · rw [if_neg (by simp [Region.wanted, hg, hy, htb])]
      exact hKv undef w1 (Grow.refl _) (by rw [htv]; exact repT_un)
  · have hy : yielded l.toArray a1.tmps g = none := by
      unfold gval at hgv
      unfold yielded
      split at hgv
      · rename_i dg hd'
        have h5 := hlk dg (by
          unfold Oper.looksAt
          refine List.mem_append_right _ ?_
          rw [hg]
          simp only
          rw [hd']
          simp)
        rw [hgv] at h5
        have h5 : a1.tmps.getD dg undef = .tuple u := h5
        rw [hd']
        simp only [Option.bind_some]
        rw [Array.getD_eq_getD_getElem?] at h5
        cases hx : a1.tmps[dg]? with
        | none => rfl
        | some v => rw [hx] at h5; simp at h5; subst h5; rfl
      · cases hgv
    rw [if_neg (by simp [Region.wanted, hg, hy])]
    exact hKv undef w1 (Grow.refl _) (by rw [htv]; exact repT_un)

theorem stL_append : ∀ {a b : List Sp}, StL a → StL b → StL (a ++ b)
  | [], _, _, hb => hb
  | _ :: _, _, ha, hb => ⟨ha.1, stL_append ha.2 hb⟩

theorem region_draw (hT : TOk P T) (hl : ∀ b, M0 b → b < w0.heap.size) {id : Nat} {Q : Exit → Act → World → Prop} {K : AE → Prop} (hm : P.follows .mixedOrders = true)
    (hok : drawOk N l.toArray = true) (hd : ∀ o ∈ l, dstOk N o = true) (hK : ∀ E a w ρ, K E → St w0 M0 N E a w ρ → Q .normal a w) {E : AE} {a : Act} (h : St w0 M0 N E a w ρ) {n : Nat} (hn : l.length ≤ n) (hs : aops P T l.toArray K n l E) :
    (Code.region id l.toArray true).wp P Q a w := by
  have hst : St w0 M0 N E a w.drew ρ := ⟨h.heap.grown (Grow.refl w).drew, h.defers, h.size, fun t => (h.tmp t).grow (Grow.refl w).drew⟩
  obtain ⟨k, hk⟩ : ∃ k, headN l = k := ⟨_, rfl⟩
  have hheap : ∀ o ∈ l.take k, isHeap o.op = false := by rw [← hk]; exact headN_heap l
  have hkl : k ≤ l.length := by
    rw [← hk]
    exact (List.takeWhile_sublist _).length_le
  obtain ⟨tvs, E', hrun, htail, hlen⟩ := aops_run (all := l.toArray) (l.take k) (l.drop k) n E (by simp; omega) hheap (by
    have e : l.take k ++ l.drop k = l := List.take_append_drop k l
    rw [e]; exact hs)
  have hlt : (l.take k).length = k := by simp; omega
  rw [hlt] at hlen
  have hst1 : ∀ w1, Grow w.drew w1 → St w0 M0 N E a w1 ρ := fun w1 g1 => ⟨hst.heap.grown g1, h.defers, h.size, fun t => (hst.tmp t).grow g1⟩
  unfold drawOk at hok
  rcases Bool.or_eq_true_iff.1 hok with hok | hok
  · unfold drawOk1 at hok
    simp only [hk] at hok
    refine wp_gamma hm k N (preAll l.toArray k) (tvs.map (spOf ρ E.h (MM M0 ρ E.h)) ++ []) hok h.size (by simp [hlen]) (stL_append (stL_map tvs) trivial) ?_ ?_
    · refine obL_of _ _ _ (by simp [hlen]; omega) (by simp [preAll]; omega) ?_
      intro i o hio
      have him : i < k := by have := (List.getElem?_eq_some_iff.1 hio).1; omega
      exact head_ob hT hok (Nat.le_refl _) hst (.inl hl) hrun hlen [] i o him (by rw [List.getElem?_take, if_pos him] at hio; exact hio)
    · intro w1 g1
      have hf := fin_run (Q := wpList P l.toArray Q (l.drop k)) (l.drop k) [] hrun (fun o ho => hd o (List.mem_of_mem_take ho)) rfl rfl a (hst1 w1 g1) (fun a' ha' _ => by
        have := aops_list hT hl hK (l.drop k) (fun o ho => hd o (List.mem_of_mem_drop ho)) ha' htail
        exact fin_nil this)
      rw [List.take_append_drop] at hf
      exact hf
  · unfold drawOk2 at hok
    simp only [hk, Bool.and_eq_true] at hok
    obtain ⟨⟨hal, hqu⟩, hok⟩ := hok
    simp only [List.getElem?_toArray] at hal
    have hkl2 : k < l.length := by
      rcases Nat.lt_or_ge k l.length with h | h
      · exact h
      · rw [List.getElem?_eq_none h] at hal; cases hal
    obtain ⟨o, ho⟩ : ∃ o, l[k]? = some o := ⟨l[k], List.getElem?_eq_getElem hkl2⟩
    rw [ho] at hal
    have hdrop : l.drop k = o :: l.drop (k + 1) := by
      rw [List.drop_eq_getElem_cons hkl2]
      congr 1
      rw [List.getElem?_eq_getElem hkl2] at ho
      exact Option.some.inj ho
    rw [hdrop] at htail
    obtain ⟨dst, op, ty, pos, after, guard⟩ := o
    cases op <;> cases guard <;> simp only [isAlloc, Bool.false_eq_true] at hal
    rename_i et
    simp only [aops, AStep, heapF] at htail
    split at htail <;> try exact htail.elim
    rename_i c tv H' heq
    split at heq <;> simp only [Option.some.injEq, Prod.mk.injEq, reduceCtorEq] at heq
    rename_i ti hti
    obtain ⟨h1, h2, h3⟩ := heq
    subst h1 h2 h3
    have htail := htail.2
    obtain ⟨⟨i, z, g1, g2, g3, g4⟩, _⟩ := hT _ _ hti
    let R : Value → World → Prop := fun v wx => ∃ b, v = .pointer (some ⟨b, 0, none⟩) ∧ w.heap.size ≤ b ∧ wx.heap[b]? = some (.cells z.cells et (0, 0))
    have hRst : (Sp.rel R).stable := by
      rintro v wx wy g ⟨b, hv, hb, hc⟩
      have hlt := (Array.getElem?_eq_some_iff.1 hc).1
      exact ⟨b, hv, hb, by rw [g.block b hlt]; exact hc⟩
    have hK0 : Keeps (MM M0 ρ E.h) (MM (fun b => M0 b ∨ w.heap.size ≤ b) ρ E.h) w.drew w.drew := ⟨fun _ _ _ h => h, fun b hb hm => by
      have hb : b < w.heap.size := hb
      rcases hm with (hm | hm) | hm
      · exact .inl hm
      · omega
      · exact .inr hm⟩
    have hst2 : St w0 (fun b => M0 b ∨ w.heap.size ≤ b) N E a w.drew ρ := by
      refine ⟨⟨hst.heap.grow, fun n hn hm => ?_, hst.heap.lo, hst.heap.hi, hst.heap.inj, fun n m cs hn hne => ?_⟩, hst.defers, hst.size, fun t => RepT.keep hK0 (Nat.le_refl _) (fun _ _ => rfl) (RowsKept.grow (Grow.refl _)) _ _ (hst.tmp t)⟩
      · rcases hm with hm | hm
        · exact h.heap.sep n hn hm
        · have := h.heap.hi n hn
          omega
      · obtain ⟨us, ty, h3, h4⟩ := hst.heap.rep n m cs hn hne
        exact ⟨us, ty, h3, h4.keep hK0⟩
    have hst3 : ∀ w1, Grow w.drew w1 → St w0 (fun b => M0 b ∨ w.heap.size ≤ b) N E a w1 ρ := fun w1 g1 => ⟨hst2.heap.grown g1, h.defers, h.size, fun t => (hst2.tmp t).grow g1⟩
    have hqu' : ∀ o ∈ l.take k, quiet o.op = true := List.all_eq_true.1 hqu
    refine wp_gamma hm (k + 1) N (preAll l.toArray (k + 1)) (tvs.map (spOf ρ E.h (MM (fun b => M0 b ∨ w.heap.size ≤ b) ρ E.h)) ++ [Sp.rel R]) hok h.size (by simp [hlen]) (stL_append (stL_map tvs) ⟨hRst, trivial⟩) ?_ ?_
    · refine obL_of _ _ _ (by simp [hlen]; omega) (by simp [preAll]; omega) ?_
      intro j oj hoj
      have hjm : j < k + 1 := by have := (List.getElem?_eq_some_iff.1 hoj).1; simp at this; omega
      rw [List.getElem?_take, if_pos hjm] at hoj
      by_cases hjk : j < k
      · exact head_ob hT hok (by omega) hst2 (.inr hqu') hrun hlen _ j oj hjk hoj
      · obtain rfl : j = k := by omega
        rw [ho] at hoj
        obtain rfl := Option.some.inj hoj
        intro a1 w1 gr _ K1 hK1
        rw [if_pos (by simp [Region.wanted])]
        have e : (tvs.map (spOf ρ E.h (MM (fun b => M0 b ∨ w.heap.size ≤ b) ρ E.h)) ++ [Sp.rel R]).getD j (.ex undef) = Sp.rel R := by
          simp [List.getD, List.getElem?_append_right, hlen]
        rw [e] at hK1
        refine wp_value (v := .pointer (some ⟨w1.heap.size, 0, none⟩)) (w' := w1.alloc (.cells z.cells et)) ?_ (hK1 _ _ (Grow.a1 _ _) ⟨w1.heap.size, rfl, gr.le, heap_alloc_new _ _⟩)
        simp [execOp, Instr.alloc, zeroValue, typeInfo, g1, g3, newVar, newRow]
    · intro w1 gr
      have hf := fin_run (Q := wpList P l.toArray Q (l.drop (k + 1))) (l.drop k) [.rel R] hrun (fun o ho => hd o (List.mem_of_mem_take ho)) rfl rfl a (hst3 w1 gr) (fun a' ha' hEh => by
        rw [hdrop]
        rintro v ⟨b, rfl, hb, hc⟩
        have hnew : St w0 M0 N ⟨putT dst (.p E'.h.length 0) E'.t, E'.h ++ [(true, ti.zero)]⟩ (a'.put dst (.pointer (some ⟨b, 0, none⟩))) w1 (upd ρ E'.h.length b) := by
          refine St.at_new ha' hl g4 hc (fun n hn => h.heap.hi n (by rw [← hEh]; exact hn)) hb h.heap.grow.le (dstOk_iff (hd ⟨dst, .alloc et, ty, pos, after, none⟩ (List.mem_of_getElem? ho)))
        have := aops_list hT hl hK (l.drop (k + 1)) (fun o ho => hd o (List.mem_of_mem_drop ho)) hnew htail
        exact fin_nil this)
      rw [List.take_append_drop] at hf
      exact hf
end

/-- The head is given: what stands behind it (in one order) may make rows. -/
def drawT (N m : Nat) (ops : Array Oper) : Bool := decide (m ≤ headN ops.toList) && gammaB ops m (preAll ops m) N
section
variable {P : Program} {T : Nat → Option TI} {w0 : World} {M0 : Nat → Prop} {ρ : Nat → Nat} {w : World} {N : Nat} {l : List Oper}
theorem region_drawT (hT : TOk P T) (hl : ∀ b, M0 b → b < w0.heap.size) {id : Nat} {Q : Exit → Act → World → Prop} {K : AE → Prop} (hm : P.follows .mixedOrders = true) {k : Nat}
    (hok : drawT N k l.toArray = true) (hd : ∀ o ∈ l, dstOk N o = true) (hK : ∀ E a w ρ, K E → St w0 M0 N E a w ρ → Q .normal a w) {E : AE} {a : Act} (h : St w0 M0 N E a w ρ) (hs : aops P T l.toArray K k l E) :
    (Code.region id l.toArray true).wp P Q a w := by
  have hst : St w0 M0 N E a w.drew ρ := ⟨h.heap.grown (Grow.refl w).drew, h.defers, h.size, fun t => (h.tmp t).grow (Grow.refl w).drew⟩
  unfold drawT at hok
  simp only [Bool.and_eq_true, decide_eq_true_eq] at hok
  obtain ⟨hkh, hok⟩ := hok
  have hheap : ∀ o ∈ l.take k, isHeap o.op = false := by
    intro o ho
    refine headN_heap l o ?_
    have e : l.take k = (l.take (headN l)).take k := by rw [List.take_take, Nat.min_eq_left hkh]
    rw [e] at ho
    exact List.mem_of_mem_take ho
  have hkl : k ≤ l.length := Nat.le_trans hkh (List.takeWhile_sublist _).length_le
  obtain ⟨tvs, E', hrun, htail, hlen⟩ := aops_run (all := l.toArray) (l.take k) (l.drop k) k E (by simp; omega) hheap (by
    have e : l.take k ++ l.drop k = l := List.take_append_drop k l
    rw [e]; exact hs)
  have hlt : (l.take k).length = k := by simp; omega
  rw [hlt] at hlen
  have hst1 : ∀ w1, Grow w.drew w1 → St w0 M0 N E a w1 ρ := fun w1 g1 => ⟨hst.heap.grown g1, h.defers, h.size, fun t => (hst.tmp t).grow g1⟩
  refine wp_gamma hm k N (preAll l.toArray k) (tvs.map (spOf ρ E.h (MM M0 ρ E.h)) ++ []) hok h.size (by simp [hlen]) (stL_append (stL_map tvs) trivial) ?_ ?_
  · refine obL_of _ _ _ (by simp [hlen]; omega) (by simp [preAll]; omega) ?_
    intro i o hio
    have him : i < k := by have := (List.getElem?_eq_some_iff.1 hio).1; omega
    exact head_ob hT hok (Nat.le_refl _) hst (.inl hl) hrun hlen [] i o him (by rw [List.getElem?_take, if_pos him] at hio; exact hio)
  · intro w1 g1
    have hf := fin_run (Q := wpList P l.toArray Q (l.drop k)) (l.drop k) [] hrun (fun o ho => hd o (List.mem_of_mem_take ho)) rfl rfl a (hst1 w1 g1) (fun a' ha' _ => by
      have := aops_list hT hl hK (l.drop k) (fun o ho => hd o (List.mem_of_mem_drop ho)) ha' htail
      exact fin_nil this)
    rw [List.take_append_drop] at hf
    exact hf
end
end Go.Proofs.Ythjojkkapboonaa
