/- The interpreter of a function's text with two rules more: rows become values at a region; an element of a live row is read. -/
import Derived.Test.YthjojkkapboonaaBJ
namespace Go.Proofs.Ythjojkkapboonaa
set_option linter.unusedSimpArgs false
set_option linter.unusedVariables false
open Go.RowKit

/-- Rows that are not written any more, as values. -/
noncomputable def cvV (H : List (Bool × List AV)) : TV → TV
  | .r n e k a => rd H (.r n e k a)
  | t => t
noncomputable def cvT (H : List (Bool × List AV)) : List (Nat × TV) → List (Nat × TV)
  | [] => []
  | (i, x) :: r => (i, cvV H x) :: cvT H r
theorem lk_cvT (H : List (Bool × List AV)) : ∀ (L : List (Nat × TV)) (t : Nat), lk (cvT H L) t = cvV H (lk L t)
  | [], t => rfl
  | (i, x) :: r, t => by
    simp only [cvT, lk]
    split
    · rfl
    · exact lk_cvT H r t
/-- The elements of a live row, where a temporary tells them. -/
def rowC (L : List (Nat × TV)) (n : Nat) : List (Nat × TV) → Option (List AV)
  | [] => none
  | (t, _) :: r => match lk L t with
    | .r m _ _ (.sl _ cs) => if m = n then some cs else rowC L n r
    | _ => rowC L n r
theorem rowC_some {L : List (Nat × TV)} {n : Nat} {cs : List AV} : ∀ (l : List (Nat × TV)), rowC L n l = some cs → ∃ t e k k', lk L t = .r n e k (.sl k' cs)
  | [], h => by simp [rowC] at h
  | (t, x) :: r, h => by
    rw [rowC] at h
    split at h
    · rename_i m e k k' ds hm
      split at h
      · rename_i hmn
        subst hmn
        obtain rfl := Option.some.inj h
        exact ⟨t, e, k, k', hm⟩
      · exact rowC_some r h
    · exact rowC_some r h
def pkI (T : Nat → Option TI) (ty : TypeId) : TV → TV → Option (Prop × TV)
  | .r n _ _ (.sl k cs), .v (.one (.int _ j)) => match T ty with
    | some ⟨.slc _ es, _, _⟩ => some (es = k ∧ 0 < k ∧ 0 ≤ j ∧ (j.toNat + 1) * k ≤ cs.length, .p n (j.toNat * k))
    | _ => none
  | _, _ => none
def pkL (T : Nat → Option TI) (ty : TypeId) (L : List (Nat × TV)) : TV → Option (Prop × TV)
  | .p n off => match rowC L n L with
    | some cs => match T ty with
      | some ti => (loadF ti (cs.drop off)).map fun r => (r.1, .v r.2)
      | none => none
    | none => none
  | _ => none
/-- One operation; an element of a live row may be read. -/
def PStep (P : Program) (T : Nat → Option TI) (d : Option Tmp) (E : AE) (N : AE → Prop) : Op → Prop
  | .indexAddr ty x i => match pkI T ty (evT E.t x) (rd E.h (evT E.t i)) with
    | some (c, tv) => c ∧ N ⟨putT d tv E.t, E.h⟩
    | none => AStep true P T d E N (.indexAddr ty x i)
  | .load ty x => match pkL T ty E.t (evT E.t x) with
    | some (c, tv) => c ∧ N ⟨putT d tv E.t, E.h⟩
    | none => AStep true P T d E N (.load ty x)
  | op => AStep true P T d E N op
def aopsP (P : Program) (T : Nat → Option TI) (K : AE → Prop) : List Oper → AE → Prop
  | [], E => K E
  | o :: os, E => match o.guard with
    | none => PStep P T o.dst E (aopsP P T K os) o.op
    | some _ => False
def aregX (P : Program) (T : Nat → Option TI) (all : Array Oper) (K : AE → Prop) (k : Nat) (l : List Oper) (E : AE) : Prop :=
  if k = 7000 then aopsP P T K l E else if k = 6000 then aopsD P T all K 0 l ⟨cvT (frz true E.h) E.t, frz true E.h⟩ else aopsD P T all K 0 l E
def acodeX (P : Program) (T : Nat → Option TI) (fz : List Nat × List (Nat × Nat)) : Code → (Exit → AE → Prop) → AE → Prop
  | .skip => fun Q E => Q .normal E
  | .exit id => fun Q E => Q (.exit id) E
  | .ret => fun Q E => Q .ret E
  | .seq x y => fun Q E => acodeX P T fz x (AThen (acodeX P T fz y Q) Q) E
  | .block id c => fun Q E => acodeX P T fz c (ABlock id Q) E
  | .cond c x y => fun Q E => match evT E.t c with | .v (.one (.bool t)) => (t = true → acodeX P T fz x Q E) ∧ (t = false → acodeX P T fz y Q E) | _ => False
  | .region id ops d => fun Q E => if d = true then acode P T fz (.region id ops true) Q E else aregX P T ops (Q .normal) (tlN fz.2 id 0) ops.toList ⟨E.t, frz (fz.1.contains id) E.h⟩
  | .loop c => fun Q E => ALoop (acodeX P T fz c) Q E
  | _ => fun _ _ => False

section
variable {P : Program} {T : Nat → Option TI} {w0 : World} {M0 : Nat → Prop} {N : Nat}

theorem St.cv {E : AE} {a : Act} {w : World} {ρ : Nat → Nat} (h : St w0 M0 N E a w ρ) : St w0 M0 N ⟨cvT E.h E.t, E.h⟩ a w ρ := by
  refine ⟨h.heap, h.defers, h.size, fun t => ?_⟩
  rw [lk_cvT]
  have ht := h.tmp t
  revert ht
  cases lk E.t t with
  | r n e k x => intro ht; exact rd_rep h.heap ht
  | _ => intro ht; exact ht
theorem RowV.cells {b e k : Nat} {M : Nat → Prop} {w : World} {k' : Nat} {cs : List AV} {x : Value} (h : RowV b e k M w (.sl k' cs) x) :
    ∃ us len cap, x = .slice (some ⟨b, 0, none⟩) len cap ∧ k' = k ∧ us.length = len * k ∧ RepL M w cs us ∧ ∀ i, i < us.length → w.cell? ⟨b, 0 + i, none⟩ = some (us.getD i undef) := by
  obtain ⟨us, len, ⟨h0, h1⟩, h2, h3⟩ := h
  rcases h1 with ⟨rfl, _⟩ | ⟨g, cap, cur, rfl, _, hg, h4, h5, h6, h7⟩
  · simp [Value.ownBlock] at h2
  · simp only [Value.ownBlock, Option.some.injEq] at h2
    subst h2
    refine ⟨us, len, cap, rfl, h3.1, h0, h3.2, fun i hi => ?_⟩
    rw [cell_of_row w g (0 + i) cur e (0, 0) hg, Nat.zero_add, ← Array.getElem?_toList]
    have : cur.toList[i]? = us[i]? := by
      rw [← h7, List.getElem?_take, if_pos (by omega)]
    rw [this]
    simp [List.getD, hi]
theorem PStep.wp (hT : TOk P T) (hl : ∀ b, M0 b → b < w0.heap.size) {E : AE} {a : Act} {w : World} {ρ : Nat → Nat} (h : St w0 M0 N E a w ρ) {o : Oper} {K : AE → Prop} {KK : Act → World → Prop} {Q : Exit → Act → World → Prop}
    (hs : PStep P T o.dst E K o.op) (hd : ∀ t, o.dst = some t → t < N) (hK : ∀ E' a' w' ρ', K E' → St w0 M0 N E' a' w' ρ' → KK a' w') : o.wp P a w KK Q := by
  have low : AStep true P T o.dst E K o.op → o.wp P a w KK Q := fun hs => AStep.wp hT hl h hs hd hK
  obtain ⟨dst, op, ty, pos, after, guard⟩ := o
  simp only at hs low
  unfold PStep at hs
  split at hs
  · rename_i ty x i
    split at hs
    · rename_i c tv hp
      obtain ⟨hc, hs⟩ := hs
      have hx := h.evs x
      have hi := rd_rep h.heap (h.evs i)
      unfold pkI at hp
      split at hp <;> try cases hp
      rename_i n e k k' cs kk j hx' hi'
      split at hp <;> try cases hp
      rename_i ee es _ _ ht
      obtain ⟨c0, c1, c2, c3⟩ := hc
      subst c0
      rw [hx'] at hx
      rw [hi'] at hi
      have hi : a.eval i = .int _ _ := hi
      obtain ⟨⟨m, hm⟩, hx⟩ := hx
      obtain ⟨us, len, cap, hx, g1, g2, g3, g4⟩ := hx.cells
      obtain ⟨_, k1, k2, kbb⟩ := hT _ _ ht
      have hlr := g3.length
      have hm2 : (j.toNat + 1) * es = j.toNat * es + es := by rw [Nat.add_mul, Nat.one_mul]
      have hjl : j.toNat < len := by
        rcases Nat.lt_or_ge j.toNat len with h | h
        · exact h
        · have := Nat.mul_le_mul_right es h
          rw [← g1] at g2
          omega
      have hjl' : j < (len : Int) := by omega
      refine wp_value (v := .pointer (some ⟨ρ n, j.toNat * es, none⟩)) (w' := w) ?_ (hK _ _ _ _ hs (h.put (Grow.refl _) hd ⟨(List.getElem?_eq_some_iff.1 hm).1, rfl⟩))
      simp [execOp, hx, hi, Instr.indexAt, run_underlying k1, asIntOf, size_of k2, c2, hjl', Addr.add_lit]
    · exact low hs
  · rename_i ty x
    split at hs
    · rename_i c tv hp
      obtain ⟨hc, hs⟩ := hs
      have hx := h.evs x
      unfold pkL at hp
      split at hp <;> try cases hp
      rename_i n off hx'
      split at hp <;> try cases hp
      rename_i cs hr
      split at hp <;> try cases hp
      rename_i ti ht
      simp only [Option.map_eq_some_iff, Prod.mk.injEq] at hp
      obtain ⟨⟨c', r⟩, h1, h2, h3⟩ := hp
      subst h2 h3
      rw [hx'] at hx
      obtain ⟨_, hx⟩ := hx
      obtain ⟨t, e, k, k', hrow⟩ := rowC_some _ hr
      have hy := h.tmp t
      rw [hrow] at hy
      obtain ⟨_, hy⟩ := hy
      obtain ⟨us, len, cap, _, g1, g2, g3, g4⟩ := hy.cells
      obtain ⟨z, h6, h7⟩ := load_run (b := ρ n) (o := off) (hT _ _ ht) h1 hc (g3.drop off) (fun i hi => by
        have := g4 (off + i) (by simp at hi; omega)
        rw [Nat.zero_add] at this
        rw [this]
        simp [List.getD, List.getElem?_drop])
      refine wp_value (v := z) (w' := w) ?_ (hK _ _ _ _ hs (h.put (Grow.refl _) hd h7))
      simp [execOp, hx, Instr.loadAt, Instr.sureAddr, h6]
    · exact low hs
  · exact low hs
theorem aopsP_list (hT : TOk P T) (hl : ∀ b, M0 b → b < w0.heap.size) {all : Array Oper} {K : AE → Prop} {Q : Exit → Act → World → Prop} (hK : ∀ E a w ρ, K E → St w0 M0 N E a w ρ → Q .normal a w) :
    ∀ (l : List Oper) {E : AE} {a : Act} {w : World} {ρ : Nat → Nat}, (∀ o ∈ l, dstOk N o = true) → St w0 M0 N E a w ρ → aopsP P T K l E → wpList P all Q l a w
  | [], E, a, w, ρ, _, h, hs => hK E a w ρ (by simpa only [aopsP] using hs) h
  | o :: os, E, a, w, ρ, hd, h, hs => by
    have hdo := dstOk_iff (hd o (by simp))
    have ih := fun E' a' w' ρ' (hN : aopsP P T K os E') (hst : St w0 M0 N E' a' w' ρ') => aopsP_list (all := all) hT hl hK os (fun o ho => hd o (by simp [ho])) hst hN
    simp only [aopsP] at hs
    unfold wpList
    split at hs
    · rename_i hg
      rw [if_pos (by simp [Region.wanted, hg])]
      exact .inl (PStep.wp hT hl h hs hdo ih)
    · exact hs.elim
theorem acodeX_wp {fz : List Nat × List (Nat × Nat)} (hT : TOk P T) (hl : ∀ b, M0 b → b < w0.heap.size) (hm : P.follows .mixedOrders = true) : ∀ (c : Code), codeOk N fz.2 c = true → ∀ (Q : Exit → AE → Prop) (E : AE) (a : Act) (w : World) (ρ : Nat → Nat), St w0 M0 N E a w ρ → acodeX P T fz c Q E → c.wp P (KQ w0 M0 N Q) a w
  | .skip, _, Q, E, a, w, ρ, h, hq => wp_skip ⟨E, ρ, hq, h⟩
  | .exit id, _, Q, E, a, w, ρ, h, hq => wp_exit ⟨E, ρ, hq, h⟩
  | .ret, _, Q, E, a, w, ρ, h, hq => wp_ret ⟨E, ρ, hq, h⟩
  | .seq x y, hok, Q, E, a, w, ρ, h, hq => by
    simp only [codeOk, Bool.and_eq_true] at hok
    simp only [acodeX] at hq
    refine wp_seq (Code.wp_mono (fun e a' w' q => ?_) (acodeX_wp hT hl hm x hok.1 _ E a w ρ h hq))
    obtain ⟨E', ρ', q, h'⟩ := q
    cases e
    case normal => exact acodeX_wp hT hl hm y hok.2 Q E' a' w' ρ' h' q
    all_goals exact ⟨E', ρ', q, h'⟩
  | .block id c, hok, Q, E, a, w, ρ, h, hq => by
    simp only [codeOk] at hok
    simp only [acodeX] at hq
    refine wp_block (Code.wp_mono (fun e a' w' q => ?_) (acodeX_wp hT hl hm c hok _ E a w ρ h hq))
    obtain ⟨E', ρ', q, h'⟩ := q
    cases e
    case exit i =>
      simp only [Exit.inBlock]
      simp only [ABlock] at q
      split
      · rename_i hi; rw [if_pos hi] at q; exact ⟨E', ρ', q, h'⟩
      · rename_i hi; rw [if_neg hi] at q; exact ⟨E', ρ', q, h'⟩
    all_goals exact ⟨E', ρ', q, h'⟩
  | .cond c x y, hok, Q, E, a, w, ρ, h, hq => by
    simp only [codeOk, Bool.and_eq_true] at hok
    simp only [acodeX] at hq
    split at hq
    · rename_i t ht
      have hc := h.evs c
      rw [ht] at hc
      have hc : a.eval c = .bool t := hc
      exact wp_cond_split hc (fun ht => acodeX_wp hT hl hm x hok.1 Q E a w ρ h (hq.1 ht)) (fun ht => acodeX_wp hT hl hm y hok.2 Q E a w ρ h (hq.2 ht))
    · exact hq.elim
  | .region id ops d, hok, Q, E, a, w, ρ, h, hq => by
    cases d with
    | true => exact acode_wp hT hl hm (.region id ops true) hok Q E a w ρ h hq
    | false =>
      simp only [codeOk, Bool.and_eq_true] at hok
      have hd : ∀ o ∈ ops.toList, dstOk N o = true := List.all_eq_true.1 hok.1
      have hK : ∀ E a w ρ, Q .normal E → St w0 M0 N E a w ρ → KQ w0 M0 N Q .normal a w := fun E a w ρ hq h => ⟨E, ρ, hq, h⟩
      simp only [acodeX, Bool.false_eq_true, if_false] at hq
      have h := h.frz (fz.1.contains id)
      generalize tlN fz.2 id 0 = k at hq
      unfold aregX at hq
      by_cases h7 : k = 7000
      · rw [if_pos h7] at hq
        exact wp_region_list (aopsP_list hT hl hK ops.toList hd h hq)
      · rw [if_neg h7] at hq
        have low : ∀ E' : AE, aopsD P T ops (Q .normal) 0 ops.toList E' → aops P T ops (Q .normal) 0 ops.toList E' := by
          intro E' hq
          unfold aopsD at hq
          rw [if_neg (by omega), if_neg (by omega), if_neg (by omega), if_neg (by omega)] at hq
          exact hq
        by_cases h6 : k = 6000
        · rw [if_pos h6] at hq
          exact wp_region_list (aops_list hT hl hK ops.toList hd (h.frz true).cv (low _ hq))
        · rw [if_neg h6] at hq
          exact wp_region_list (aops_list hT hl hK ops.toList hd h (low _ hq))
  | .loop c, hok, Q, E, a, w, ρ, h, hq => by
    simp only [codeOk] at hok
    simp only [acodeX] at hq
    have ih := acodeX_wp (fz := fz) hT hl hm c hok
    rcases hq with ⟨n, hq⟩ | ⟨κ, inv, m, k0, hle, hr⟩
    · refine wp_loop_idx (fun n a w => ∃ E ρ, unr (acodeX P T fz c) Q n E ∧ St w0 M0 N E a w ρ) (n := n) ⟨E, ρ, hq, h⟩ ?_
      rintro n a w ⟨E, ρ, hq, h⟩
      cases n with
      | zero => exact hq.elim
      | succ n =>
        refine Code.wp_mono (fun e a' w' q => ?_) (ih _ E a w ρ h hq)
        obtain ⟨E', ρ', q, h'⟩ := q
        cases e
        case normal => exact ⟨n, by omega, E', ρ', q, h'⟩
        all_goals exact ⟨E', ρ', q, h'⟩
    · refine wp_loop_idx (fun n a w => ∃ k ρ, m k = n ∧ St w0 M0 N (inv k) a w ρ) (n := m k0) ⟨k0, ρ, rfl, h.le hle⟩ ?_
      rintro n a w ⟨k, ρ, rfl, h⟩
      refine Code.wp_mono (fun e a' w' q => ?_) (ih _ _ a w ρ h (hr k))
      obtain ⟨E', ρ', q, h'⟩ := q
      cases e
      case normal =>
        obtain ⟨k', h1, h2⟩ := q
        exact ⟨m k', h2, k', ρ', rfl, h'.le h1⟩
      all_goals exact ⟨E', ρ', q, h'⟩
  | .rangeFunc .., hok, _, _, _, _, _, _, _ => by cases hok
  | .scope .., hok, _, _, _, _, _, _, _ => by cases hok
  | .label .., hok, _, _, _, _, _, _, _ => by cases hok
  | .goto .., hok, _, _, _, _, _, _, _ => by cases hok
  | .refuse .., hok, _, _, _, _, _, _, _ => by cases hok
end
/-- A FUNCTION's CONTRACT OUT OF ITS TEXT. -/
theorem ASpec.of_bodyX {P : Program} {T : Nat → Option TI} (hT : TOk P T) (hm : P.follows .mixedOrders = true) {f : FuncId} {fn : Func} {body : Code} {as : List AV} {r : AV} (N : Nat) (rs : List ResultVar) (fz : List Nat × List (Nat × Nat)) (hf : P.funcs[f]? = some fn) (hname : (fn.name == "runtime.NumGoroutine") = false)
    (hb : fn.body = some body) (hN : fn.ntmps = N) (hlen : as.length ≤ N) (hrs : fn.results.toList = rs) (hok : codeOk N fz.2 body = true) (h : acodeX P T fz body (AEnd T rs (fun x => x = r)) ⟨argE 0 as, []⟩) : ASpec P f as r := by
  refine ⟨⟨fn, hf, hname, by rw [hb]; rfl⟩, fun M w vs hM hvs => ?_⟩
  have hvl := hvs.length
  refine calls_of_wp hf hb ?_
  have h0 : St w M N ⟨argE 0 as, []⟩ { tmps := vs.toArray ++ Array.replicate (fn.ntmps - vs.toArray.size) undef, defers := [] } w (fun _ => 0) := by
    refine ⟨⟨Grow.refl _, fun n hn => absurd hn (by simp), fun n hn => absurd hn (by simp), fun n hn => absurd hn (by simp), fun n m hn => absurd hn (by simp), fun n m cs hn => by simp at hn⟩, rfl, by simp; omega, fun t => ?_⟩
    have hMM : ∀ b, MM M (fun _ => 0) [] b ↔ M b := fun b => ⟨fun hb => by rcases hb with hb | ⟨n, cs, hn, _⟩; exact hb; simp at hn, .inl⟩
    have hr : RepL (MM M (fun _ => 0) []) w as vs := hvs.keep (Keeps.less fun b hb => (hMM b).1 hb)
    have := argE_rep (ρ := fun _ => 0) (rest := List.replicate (fn.ntmps - vs.length) undef) [] t hr
    simp only [List.length_nil, List.nil_append] at this
    have e : (vs.toArray ++ Array.replicate (fn.ntmps - vs.toArray.size) undef).getD t undef = (vs ++ List.replicate (fn.ntmps - vs.length) undef).getD t undef := by
      rw [Array.getD_eq_getD_getElem?, List.getD, ← Array.getElem?_toList]
      simp
    rw [e]
    exact this
  have fin : ∀ (e : Exit) (a : Act) (w' : World), (e = .normal ∨ e = .ret) → KQ w M N (AEnd T rs (fun x => x = r)) e a w' → a.defers = [] ∧ ∃ v, (results fn a.tmps).run P w' = .ok v w' ∧ ∃ v', Ending.returned v = .returned v' ∧ RepV M w' r v' ∧ Grow w w' := by
    rintro e a w' he ⟨E, ρ, hq, hst⟩
    refine ⟨hst.defers, ?_⟩
    replace hst := hst.frz true
    have hq : match resL T ⟨E.t, Go.Proofs.Ythjojkkapboonaa.frz true E.h⟩ rs with | some (c, [x]) => c ∧ x = r | some (c, xs) => c ∧ AV.tup xs = r | none => False := by
      rcases he with rfl | rfl <;> exact hq
    have hsub : Keeps (MM M ρ (Go.Proofs.Ythjojkkapboonaa.frz true E.h)) M w' w' := Keeps.less fun b hb => .inl hb
    have hmap : ∀ vs, ((rs.mapM (resV a.tmps)).run P w' = .ok vs w') →
        (results fn a.tmps).run P w' = .ok (if h : vs.length = 1 then vs[0] else .tuple vs.toArray) w' := by
      intro vs hv
      rw [results_eq, Array.mapM_eq_mapM_toList, hrs]
      simp only [Sem.run_bind, Sem.run_map, hv, Result.andThen_ok, Sem.run_pure]
      congr 1
    split at hq
    · rename_i c x hr
      obtain ⟨hc, rfl⟩ := hq
      obtain ⟨us, h1, h2⟩ := resL_run hT hst rs hr hc
      simp only [RepL] at h2
      obtain ⟨v, _, rfl, h3, rfl⟩ := h2
      exact ⟨v, by simpa using hmap _ h1, v, rfl, RepV.keep hsub _ _ h3, hst.heap.grow⟩
    · rename_i c xs hno hr
      obtain ⟨hc, rfl⟩ := hq
      obtain ⟨us, h1, h2⟩ := resL_run hT hst rs hr hc
      have hl : us.length ≠ 1 := by
        rw [h2.length]
        intro h1
        match xs, h1 with
        | [x], _ => exact hno x rfl
      refine ⟨.tuple us.toArray, by simpa [hl] using hmap _ h1, _, rfl, ?_, hst.heap.grow⟩
      simp only [RepV]
      exact ⟨us, rfl, RepL.keep hsub _ _ h2⟩
    · exact hq.elim
  refine Code.wp_mono (fun e a w' q => ?_) (acodeX_wp hT hM hm body hok _ _ _ w _ h0 h)
  cases e
  case normal => exact fin _ a w' (.inl rfl) q
  case ret => exact fin _ a w' (.inr rfl) q
  all_goals (obtain ⟨_, _, q, _⟩ := q; exact q.elim)

section
variable {P : Program} {T : Nat → Option TI} {d : Option Tmp} {t : List (Nat × TV)} {h : List (Bool × List AV)} {N : AE → Prop} {K : AE → Prop} {Q : Exit → AE → Prop} {fz : List Nat × List (Nat × Nat)}
theorem ax_skip : acodeX P T fz .skip Q ⟨t, h⟩ = Q .normal ⟨t, h⟩ := rfl
theorem ax_exit (id : Nat) : acodeX P T fz (.exit id) Q ⟨t, h⟩ = Q (.exit id) ⟨t, h⟩ := rfl
theorem ax_ret : acodeX P T fz .ret Q ⟨t, h⟩ = Q .ret ⟨t, h⟩ := rfl
theorem ax_seq (x y : Code) : acodeX P T fz (.seq x y) Q ⟨t, h⟩ = acodeX P T fz x (AThen (acodeX P T fz y Q) Q) ⟨t, h⟩ := rfl
theorem ax_block (id : Nat) (c : Code) : acodeX P T fz (.block id c) Q ⟨t, h⟩ = acodeX P T fz c (ABlock id Q) ⟨t, h⟩ := rfl
theorem ax_cond (c : Operand) (x y : Code) : acodeX P T fz (.cond c x y) Q ⟨t, h⟩ = match evT t c with | .v (.one (.bool b)) => AIf b ⟨t, h⟩ (acodeX P T fz x Q) (acodeX P T fz y Q) | _ => False := rfl
theorem ax_region_t (id : Nat) (l : List Oper) : acodeX P T fz (.region id ⟨l⟩ true) Q ⟨t, h⟩ = acode P T fz (.region id ⟨l⟩ true) Q ⟨t, h⟩ := rfl
theorem ax_region_f (id : Nat) (l : List Oper) : acodeX P T fz (.region id ⟨l⟩ false) Q ⟨t, h⟩ = aregX P T ⟨l⟩ (Q .normal) (tlN fz.2 id 0) l ⟨t, frz (fz.1.contains id) h⟩ := rfl
theorem ax_loop (c : Code) : acodeX P T fz (.loop c) Q ⟨t, h⟩ = ALoop (acodeX P T fz c) Q ⟨t, h⟩ := rfl
theorem ap_nil : aopsP P T K [] ⟨t, h⟩ = K ⟨t, h⟩ := rfl
theorem ap_cons (op : Op) (ty : TypeId) (pos : String) (af : Array Edge) (os : List Oper) : aopsP P T K (⟨d, op, ty, pos, af, none⟩ :: os) ⟨t, h⟩ = PStep P T d ⟨t, h⟩ (aopsP P T K os) op := rfl
theorem ps_ix (ty : TypeId) (x i : Operand) : PStep P T d ⟨t, h⟩ N (.indexAddr ty x i) = match pkI T ty (evT t x) (rd h (evT t i)) with | some (c, tv) => c ∧ N ⟨putT d tv t, h⟩ | none => AStep true P T d ⟨t, h⟩ N (.indexAddr ty x i) := rfl
theorem ps_ld (ty : TypeId) (x : Operand) : PStep P T d ⟨t, h⟩ N (.load ty x) = match pkL T ty t (evT t x) with | some (c, tv) => c ∧ N ⟨putT d tv t, h⟩ | none => AStep true P T d ⟨t, h⟩ N (.load ty x) := rfl
theorem ps_mv (x : Operand) : PStep P T d ⟨t, h⟩ N (.move x) = AStep true P T d ⟨t, h⟩ N (.move x) := rfl
theorem ps_as (x : Operand) : PStep P T d ⟨t, h⟩ N (.assign x) = AStep true P T d ⟨t, h⟩ N (.assign x) := rfl
theorem ps_bs (ty : TypeId) (n : Nat) (ps : Array (Nat × Operand)) : PStep P T d ⟨t, h⟩ N (.buildSlice ty n ps) = AStep true P T d ⟨t, h⟩ N (.buildSlice ty n ps) := rfl
theorem ps_ca (c : Call) : PStep P T d ⟨t, h⟩ N (.call c) = AStep true P T d ⟨t, h⟩ N (.call c) := rfl
end
end Go.Proofs.Ythjojkkapboonaa
