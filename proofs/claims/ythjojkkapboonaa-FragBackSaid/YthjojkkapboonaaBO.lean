/- A region that draws its order: a tree of its orders, in which an operation that yields the same in every world is taken first. No program in sight. -/
import Derived.Test.YthjojkkapboonaaBN
namespace Go.Proofs.Ythjojkkapboonaa
set_option linter.unusedSimpArgs false
set_option linter.unusedVariables false
open Go.RowKit

/-- The orders from one state on: an operation that may come up, what is behind it, and what else may come up; or one that is taken first. -/
inductive OF where
  | nil
  | node (i : Nat) (c s : OF)
  | first (i : Nat) (c : OF)

def apartB (all : Array Oper) (L : Array Bool) (i : Nat) : Bool := (List.range all.size).all fun j => j == i || L.getD j true || match all[i]?, all[j]? with | some oi, some oj => waitsD oj i || oi.apart all oj | _, _ => true
def ofOk (all : Array Oper) : OF → Nat → Array Bool → List Nat → Bool → Bool
  | .nil, _, _, rs, _ => rs.isEmpty
  | .node i c s, f, L, rs, _ => match f, rs with
    | f + 1, r :: rs' => r == i && ofOk all c f (L.setIfInBounds i true) (Region.ready .any all (L.setIfInBounds i true)) true && ofOk all s (f + 1) L rs' false
    | _, _ => false
  | .first i c, f, L, rs, top => match f with
    | f + 1 => top && rs.contains i && apartB all L i && ofOk all c f (L.setIfInBounds i true) (Region.ready .any all (L.setIfInBounds i true)) true
    | 0 => false
def ofAll (l : List Oper) (t : OF) : Bool := Region.noSelect l.toArray && ofOk l.toArray t l.length (Array.replicate l.length false) (Region.ready .any l.toArray (Array.replicate l.length false)) true

def isOne : TV → Prop
  | .v (.one _) => True
  | _ => False
/-- What yields the same in every world. -/
def freeF (ev : Operand → TV) : Op → Prop
  | .move _ => True
  | .assign _ => True
  | .fieldAddr .. => True
  | .extract .. => True
  | .pick .. => True
  | .convert _ _ x => isOne (ev x)
  | .unOp _ _ x => isOne (ev x)
  | .binOp _ _ x y _ => isOne (ev x) ∧ isOne (ev y)
  | _ => False
/-- One operation, its guard looked at. -/
def GStep (wf : Bool) (P : Program) (T : Nat → Option TI) (all : Array Oper) (o : Oper) (E : AE) (N : AE → Prop) : Prop := match o.guard with
  | none => AStep wf P T o.dst E N o.op
  | some (g, b) => match gval all E.t g with
    | .v (.one (.bool t)) => (t = b → AStep wf P T o.dst E N o.op) ∧ (t = !b → N ⟨putT o.dst (.v (.one (.tuple #[]))) E.t, E.h⟩)
    | .v (.one (.tuple _)) => N ⟨putT o.dst (.v (.one (.tuple #[]))) E.t, E.h⟩
    | _ => False
/-- Along every order. -/
def aopsO (P : Program) (T : Nat → Option TI) (K : AE → Prop) (l : List Oper) : OF → Bool → AE → Prop
  | .nil, top, E => top = true → K E
  | .node i c s, _, E => (match l[i]? with | some o => GStep true P T ⟨l⟩ o E (aopsO P T K l c true) | none => False) ∧ aopsO P T K l s false E
  | .first i c, _, E => match l[i]? with | some o => freeF (evT E.t) o.op ∧ GStep false P T ⟨l⟩ o E (aopsO P T K l c true) | none => False

section
variable {P : Program} {T : Nat → Option TI} {w0 : World} {M0 : Nat → Prop} {ρ : Nat → Nat} {H : List (Bool × List AV)} {w : World} {ev : Operand → TV} {ea : Operand → Value}

theorem isOne_out {t : TV} (h : isOne t) : ∃ u, t = .v (.one u) := by
  unfold isOne at h
  split at h
  · exact ⟨_, rfl⟩
  · exact h.elim
theorem binF_one {tk : TK} {op : BinOp} {u v : Value} {c : Prop} {r : AV} (h : binF tk op (.one u) (.one v) = some (c, r)) : ∃ z, r = .one z := by
  unfold binF at h
  split at h <;> try simp only [Option.some.injEq, Prod.mk.injEq, reduceCtorEq] at h
  all_goals try (obtain ⟨-, rfl⟩ := h; exact ⟨_, rfl⟩)
  all_goals try (split at h <;> simp only [Option.some.injEq, Prod.mk.injEq, reduceCtorEq] at h; obtain ⟨-, rfl⟩ := h; exact ⟨_, rfl⟩)
  all_goals simp_all

theorem hop_free (hT : TOk P T) (hH : HOk w0 M0 ρ H w) {o : Oper} (hf : freeF ev o.op) {tv : TV} (h : Hop P T ev H o.op tv) (hev : ∀ x ∈ o.op.operands, RepT ρ H (MM M0 ρ H) w (ev x) (ea x)) :
    ∃ v, (∀ w2, (execOp ea o).run P w2 = .ok (.value v) w2) ∧ RepT ρ H (MM M0 ρ H) w tv v := by
  obtain ⟨dst, op, ty, pos, after, guard⟩ := o
  simp only at h hev hf
  have hone : ∀ x, isOne (ev x) → ∃ u, ev x = .v (.one u) ∧ rd H (ev x) = .v (.one u) := fun x hx => by
    obtain ⟨u, hu⟩ := isOne_out hx
    exact ⟨u, hu, by rw [hu]; rfl⟩
  cases h with
  | pick hc =>
    rename_i c x y t
    have h1 := hev c (by simp [Op.operands])
    have h2 := hev x (by simp [Op.operands])
    have h3 := hev y (by simp [Op.operands])
    rw [hc] at h1
    have h1 : ea c = .bool t := h1
    refine ⟨if t then ea x else ea y, fun w2 => ?_, ?_⟩
    · simp only [execOp, Sem.run_bind, h1, asBool, Sem.run_pure, Result.andThen_ok]
    · cases t
      · exact h3
      · exact h2
  | call => exact hf.elim
  | pure hp hc =>
    rename_i c
    cases op <;> simp only [freeF] at hf
    case pick => simp [hopF, hopG] at hp
    case move x =>
      simp only [hopF, Option.some.injEq, Prod.mk.injEq] at hp
      obtain ⟨_, rfl⟩ := hp
      exact ⟨ea x, fun w2 => by simp [execOp], hev _ (by simp [Op.operands])⟩
    case assign x =>
      simp only [hopF, Option.some.injEq, Prod.mk.injEq] at hp
      obtain ⟨_, rfl⟩ := hp
      exact ⟨ea x, fun w2 => by simp [execOp], hev _ (by simp [Op.operands])⟩
    case binOp op t x y yt =>
      obtain ⟨u, hu, hu'⟩ := hone x hf.1
      obtain ⟨v, hv, hv'⟩ := hone y hf.2
      have hx := hev x (by simp [Op.operands])
      have hy := hev y (by simp [Op.operands])
      rw [hu] at hx
      rw [hv] at hy
      have hx : ea x = u := hx
      have hy : ea y = v := hy
      simp only [hopF, hopG, hu', hv'] at hp
      split at hp <;> try cases hp
      rename_i ti a b ht ha hb
      cases ha
      cases hb
      simp only [Option.map_eq_some_iff, Prod.mk.injEq] at hp
      obtain ⟨⟨c', r⟩, h1, h2, h3⟩ := hp
      subst h2 h3
      obtain ⟨z, rfl⟩ := binF_one h1
      refine ⟨z, fun w2 => ?_, rfl⟩
      obtain ⟨z', h4, h5⟩ := bin_run (M := fun _ => False) (w := w2) (x := x) (y := y) (hT _ _ ht).2 h1 hc ((RepV.one_iff (u := u) (v := ea x)).2 hx) ((RepV.one_iff (u := v) (v := ea y)).2 hy)
      obtain rfl := RepV.one_iff.1 h5
      simp only [execOp, Sem.run_bind] at h4 ⊢
      rw [h4]
      rfl
    case unOp op t x =>
      obtain ⟨u, hu, hu'⟩ := hone x hf
      have hx := hev x (by simp [Op.operands])
      rw [hu] at hx
      have hx : ea x = u := hx
      simp only [hopF, hopG, hu'] at hp
      simp only [Option.map_eq_some_iff, Prod.mk.injEq] at hp
      obtain ⟨⟨c', r⟩, h1, h2, h3⟩ := hp
      subst h2 h3
      obtain ⟨z, h4, h5⟩ := un_run (P := P) (M := MM M0 ρ H) (w := w) h1 (RepV.one_iff.2 hx)
      refine ⟨z, fun w2 => ?_, h5⟩
      obtain ⟨z2, h6, h7⟩ := un_run (P := P) (M := MM M0 ρ H) (w := w2) h1 (RepV.one_iff.2 hx)
      have : z2 = z := by
        unfold unF at h1
        split at h1 <;> simp only [Option.some.injEq, Prod.mk.injEq, reduceCtorEq] at h1
        all_goals (obtain ⟨-, rfl⟩ := h1; rw [RepV.one_iff] at h5 h7; rw [h5, h7])
      rw [this] at h6
      simp [execOp, h6]
    case convert s d x =>
      obtain ⟨u, hu, hu'⟩ := hone x hf
      have hx := hev x (by simp [Op.operands])
      rw [hu] at hx
      have hx : ea x = u := hx
      simp only [hopF, hopG, hu'] at hp
      split at hp <;> try cases hp
      rename_i ks kd a hs hd ha
      cases ha
      simp only [Option.map_eq_some_iff, Prod.mk.injEq] at hp
      obtain ⟨⟨c', r⟩, h1, h2, h3⟩ := hp
      subst h2 h3
      have hsk := (hT _ _ hs).2
      have hdk := (hT _ _ hd).2
      have hsi : (P.underlying s).isSome = true := by
        revert hsk
        cases ks.k <;> simp only [TKOk] <;> intro hsk
        case slc => simp [hsk.1]
        case arr => simp [hsk.1]
        case st => obtain ⟨⟨_, h, _⟩, _⟩ := hsk; simp [h]
        case oth => simp only [aggO, Option.map_eq_some_iff] at hsk; obtain ⟨d, hd, _⟩ := hsk; simp [hd]
        all_goals simp [hsk]
      unfold convF at h1
      split at h1
      · rename_i k n hkn
        cases hkn
        split at h1 <;> simp only [Option.some.injEq, Prod.mk.injEq, reduceCtorEq] at h1
        rename_i k' hk'
        obtain ⟨_, rfl⟩ := h1
        rw [hk'] at hdk
        simp only [TKOk] at hdk
        have hik : P.intKind d = k' := by simp [Program.intKind, hdk]
        refine ⟨.int k' (k'.wrap n), fun w2 => ?_, rfl⟩
        have := run_convert_int (P := P) w2 s d k n hsi (by rw [hik]; exact hdk)
        rw [hik] at this
        simp [execOp, hx, this]
      · rename_i hkn
        cases hkn
      · cases h1
    case fieldAddr t x f =>
      have hx := rd_rep hH (hev x (by simp [Op.operands]))
      simp only [hopF, hopG] at hp
      split at hp <;> try cases hp
      rename_i fs ek _ _ ht
      obtain ⟨_, ⟨gs, g1, g2⟩, _⟩ := hT _ _ ht
      split at hp <;> try cases hp
      rename_i o sz ag hfs
      obtain ⟨g, g3, g4, g5, _⟩ := field_of g2 hfs
      split at hp <;> simp only [Option.some.injEq, Prod.mk.injEq, reduceCtorEq] at hp
      all_goals (rename_i ha; obtain ⟨h1, rfl⟩ := hp; subst h1; rw [ha] at hx)
      · obtain ⟨hl, hx⟩ := hx
        refine ⟨.pointer (some ⟨ρ _, _ + o, none⟩), fun w2 => ?_, ⟨hl, rfl⟩⟩
        simp [execOp, hx, Instr.fieldAt, Instr.sureAddr, run_underlying g1, g3, fieldPlace, size_of g5, hc, g4, Addr.add_lit]
      · obtain ⟨b, o', us, hx, h0, h1, h4, h5⟩ := hx
        obtain ⟨c1, c2⟩ := hc
        have hl := h5.length
        refine ⟨.pointer (some ⟨b, o' + o, none⟩), fun w2 => ?_, ⟨b, o' + o, us.drop o, rfl, by simp; omega, h1, fun i hi => ?_, h5.drop o⟩⟩
        · simp [execOp, hx, Instr.fieldAt, Instr.sureAddr, run_underlying g1, g3, fieldPlace, size_of g5, c1, g4, Addr.add_lit]
        · rw [Nat.add_assoc, h4 (o + i) (by simp at hi; omega)]
          simp [List.getD, List.getElem?_drop]
    case extract x i =>
      have hx := rd_rep hH (hev x (by simp [Op.operands]))
      simp only [hopF, hopG] at hp
      split at hp <;> try cases hp
      rename_i cs ha
      rw [ha] at hx
      simp only [Option.map_eq_some_iff, Prod.mk.injEq] at hp
      obtain ⟨c', h1, h2, h3⟩ := hp
      subst h3
      have hx : RepV (MM M0 ρ H) w (.tup cs) (ea x) := hx
      simp only [RepV] at hx
      obtain ⟨us, hx, hr⟩ := hx
      have hl := hr.length
      have hi := (List.getElem?_eq_some_iff.1 h1).1
      have hu : us[i]? = some us[i] := List.getElem?_eq_getElem (by omega)
      have hg := hr.get i hi
      have e1 : cs.getD i .any = c' := by simp [List.getD, h1]
      have e2 : us.getD i undef = us[i] := by simp [List.getD, hu]
      rw [e1, e2] at hg
      exact ⟨us[i], fun w2 => by simp [execOp, hx, Instr.extract, hu], hg⟩

theorem gstep_wp {wf : Bool} {N : Nat} {l : List Oper} (hT : TOk P T) (hl : ∀ b, M0 b → b < w0.heap.size) {E : AE} {a : Act} (h : St w0 M0 N E a w ρ) {o : Oper} {K : AE → Prop} {KK : Act → World → Prop} {Q : Exit → Act → World → Prop}
    (hs : GStep wf P T ⟨l⟩ o E K) (hd : ∀ t, o.dst = some t → t < N) (hK : ∀ E' a' w' ρ', K E' → St w0 M0 N E' a' w' ρ' → KK a' w') :
    if Region.wanted o (yielded l.toArray a.tmps) then o.wp P a w KK Q ∨ (o.asks P a w ∧ LetsOut Q) else KK (a.put o.dst undef) w := by
  unfold GStep at hs
  split at hs
  · rename_i hg
    rw [if_pos (by simp [Region.wanted, hg])]
    exact .inl (AStep.wp hT hl h hs hd hK)
  · rename_i g b hg
    split at hs
    · rename_i t ht
      have hy := gval_rep h ht
      by_cases htb : t = b
      · rw [if_pos (by simp [Region.wanted, hg, hy, htb])]
        exact .inl (AStep.wp hT hl h (hs.1 htb) hd hK)
      · rw [if_neg (by simp [Region.wanted, hg, hy, htb])]
        exact hK _ _ _ _ (hs.2 (by cases t <;> cases b <;> simp_all)) (h.put (Grow.refl w) hd repT_un)
    · rename_i u ht
      have hy := gval_un h ht
      rw [if_neg (by simp [Region.wanted, hg, hy])]
      exact hK _ _ _ _ hs (h.put (Grow.refl w) hd repT_un)
    · exact hs.elim

/-- An operation that is free yields one value, whatever the world. -/
theorem gstep_free {N : Nat} {l : List Oper} (hT : TOk P T) {E : AE} {a : Act} (h : St w0 M0 N E a w ρ) {o : Oper} {K : AE → Prop} (hf : freeF (evT E.t) o.op)
    (hs : GStep false P T ⟨l⟩ o E K) (hd : ∀ t, o.dst = some t → t < N) : ∃ v E', Yields P l.toArray o v a ∧ K E' ∧ St w0 M0 N E' (a.put o.dst v) w ρ := by
  have hh : isHeap o.op = false := by
    revert hf
    cases o.op <;> simp [freeF, isHeap]
  have take : AStep false P T o.dst E K o.op → Region.wanted o (yielded l.toArray a.tmps) = true → ∃ v E', Yields P l.toArray o v a ∧ K E' ∧ St w0 M0 N E' (a.put o.dst v) w ρ := by
    intro hs hw
    obtain ⟨tv, h1, h2⟩ := AStep.hop hh hs
    obtain ⟨v, h3, h4⟩ := hop_free (ea := a.eval) hT h.heap hf h1 (fun x _ => h.evs x)
    exact ⟨v, _, .inl ⟨hw, h3⟩, h2, h.put (Grow.refl w) hd h4⟩
  have skip : K ⟨putT o.dst (.v (.one (.tuple #[]))) E.t, E.h⟩ → Region.wanted o (yielded l.toArray a.tmps) = false → ∃ v E', Yields P l.toArray o v a ∧ K E' ∧ St w0 M0 N E' (a.put o.dst v) w ρ :=
    fun hs hw => ⟨undef, _, .inr ⟨hw, rfl⟩, hs, h.put (Grow.refl w) hd repT_un⟩
  unfold GStep at hs
  split at hs
  · rename_i hg
    exact take hs (by simp [Region.wanted, hg])
  · rename_i g b hg
    split at hs
    · rename_i t ht
      have hy := gval_rep h ht
      by_cases htb : t = b
      · exact take (hs.1 htb) (by simp [Region.wanted, hg, hy, htb])
      · exact skip (hs.2 (by cases t <;> cases b <;> simp_all)) (by simp [Region.wanted, hg, hy, htb])
    · rename_i u ht
      have hy := gval_un h ht
      exact skip hs (by simp [Region.wanted, hg, hy])
    · exact hs.elim
end

theorem oftree_wp {P : Program} {T : Nat → Option TI} {w0 : World} {M0 : Nat → Prop} {l : List Oper} {N : Nat} (hT : TOk P T) (hl : ∀ b, M0 b → b < w0.heap.size) {Q : Exit → Act → World → Prop} {K : AE → Prop}
    (hsel : Region.noSelect l.toArray = true) (hQ : ∀ c a w, ¬ Q (.panic c) a w) (hd : ∀ o ∈ l, dstOk N o = true) (hK : ∀ E a w ρ, K E → St w0 M0 N E a w ρ → Q .normal a w) :
    ∀ (t : OF) (f : Nat) (L : Array Bool) (rs : List Nat) (top : Bool) (E : AE) (a : Act) (w : World) (ρ : Nat → Nat), ofOk l.toArray t f L rs top = true → St w0 M0 N E a w ρ → aopsO P T K l t top E →
      (top = false → ∀ i ∈ rs, ∃ f', f = f' + 1 ∧ wpOp P l.toArray Q i (wpAny P .any l.toArray Q f' (L.setIfInBounds i true)) a w) ∧ (top = true → rs = Region.ready .any l.toArray L → wpAny P .any l.toArray Q f L a w) := by
  intro t
  induction t with
  | nil =>
    intro f L rs top E a w ρ hc hs ha
    have : rs = [] := by simpa [ofOk] using hc
    subst this
    refine ⟨fun _ i hi => (by cases hi), fun h1 h2 => ?_⟩
    have hq := hK _ _ _ _ (ha h1) hs
    cases f with
    | zero => exact ⟨h2.symm, hq⟩
    | succ f => exact ⟨fun _ => hq, fun i hi => (by rw [← h2] at hi; cases hi)⟩
  | node i c s ihc ihs =>
    intro f L rs top E a w ρ hc hs ha
    unfold ofOk at hc
    match f, rs, hc with
    | f + 1, r :: rs', hc =>
      simp only [Bool.and_eq_true, beq_iff_eq] at hc
      obtain ⟨⟨h1, h2⟩, h3⟩ := hc
      subst h1
      obtain ⟨ha1, ha2⟩ := ha
      have key : ∀ j ∈ r :: rs', ∃ f', f + 1 = f' + 1 ∧ wpOp P l.toArray Q j (wpAny P .any l.toArray Q f' (L.setIfInBounds j true)) a w := by
        intro j hj
        rcases List.mem_cons.1 hj with hj | hj
        · subst hj
          refine ⟨f, rfl, ?_⟩
          cases ho : l[j]? with
          | none => rw [ho] at ha1; exact ha1.elim
          | some o =>
            rw [ho] at ha1
            simp only at ha1
            have ho' : l.toArray[j]? = some o := by simpa using ho
            unfold wpOp
            simp only [ho']
            exact gstep_wp hT hl hs ha1 (dstOk_iff (hd o (List.mem_of_getElem? ho))) (fun E' a' w' ρ' hk' hst' => (ihc f _ _ true E' a' w' ρ' h2 hst' hk').2 rfl rfl)
        · exact (ihs (f + 1) L rs' false E a w ρ h3 hs ha2).1 rfl j hj
      refine ⟨fun _ => key, fun _ hr => ⟨fun h => (by rw [← hr] at h; cases h), fun j hj => ?_⟩⟩
      obtain ⟨f', hf', hwp⟩ := key j (by rw [hr]; exact hj)
      cases hf'
      exact hwp
  | first i c ihc =>
    intro f L rs top E a w ρ hc hs ha
    unfold ofOk at hc
    match f, hc with
    | f + 1, hc =>
      simp only [Bool.and_eq_true] at hc
      obtain ⟨⟨⟨htop, hmem⟩, hap⟩, h2⟩ := hc
      refine ⟨fun h => (by rw [h] at htop; cases htop), fun _ hr => ?_⟩
      simp only [aopsO] at ha
      have hi : i ∈ Region.ready .any l.toArray L := by rw [← hr]; exact List.contains_iff_mem.1 hmem
      cases ho : l[i]? with
      | none => rw [ho] at ha; exact ha.elim
      | some o =>
        rw [ho] at ha
        simp only at ha
        have ho' : l.toArray[i]? = some o := by simpa using ho
        obtain ⟨v, E', hy, hk, hst⟩ := gstep_free hT hs ha.1 ha.2 (dstOk_iff (hd o (List.mem_of_getElem? ho)))
        refine wpAny_first ho' (Region.noSelect_spec hsel) (fun c a w hq => absurd hq (hQ c _ w)) f L a w (fun j oj hoj hji hju hnw => ?_) hi hy ((ihc f _ _ true E' _ w ρ h2 hst hk).2 rfl rfl)
        have hjl := (Array.getElem?_eq_some_iff.1 hoj).1
        have := List.all_eq_true.1 hap j (List.mem_range.2 hjl)
        rw [ho', hoj, hju] at this
        simp only [Bool.or_eq_true, beq_iff_eq, Bool.false_eq_true, or_false] at this
        rcases this with h1 | h1 | h1
        · exact absurd h1 hji
        · exfalso
          unfold waitsD at h1
          obtain ⟨e, he, hb⟩ := Array.any_eq_true'.1 h1
          simp only [Bool.and_eq_true, beq_iff_eq] at hb
          exact hnw e he hb.1 hb.2
        · exact h1

theorem region_drawF {P : Program} {T : Nat → Option TI} {w0 : World} {M0 : Nat → Prop} {l : List Oper} {N : Nat} {ρ : Nat → Nat} {w : World} (hT : TOk P T) (hl : ∀ b, M0 b → b < w0.heap.size) {id : Nat} {Q : Exit → Act → World → Prop} {K : AE → Prop} (hm : P.follows .mixedOrders = true) {t : OF}
    (hok : ofAll l t = true) (hd : ∀ o ∈ l, dstOk N o = true) (hK : ∀ E a w ρ, K E → St w0 M0 N E a w ρ → Q .normal a w) {E : AE} {a : Act} (h : St w0 M0 N E a w ρ) (hs : aopsO P T K l t true E) :
    (Code.region id l.toArray true).wp P Q a w := by
  suffices hQ' : (Code.region id l.toArray true).wp P (fun e a w => e = .normal ∧ Q .normal a w) a w by
    refine Code.wp_mono (fun e a' w' q => ?_) hQ'
    obtain ⟨rfl, q⟩ := q
    exact q
  have hst : St w0 M0 N E a w.drew ρ := ⟨h.heap.grown (Grow.refl w).drew, h.defers, h.size, fun t => (h.tmp t).grow (Grow.refl w).drew⟩
  refine wp_region_any hm ?_
  unfold ofAll at hok
  rw [Bool.and_eq_true] at hok
  have := (oftree_wp hT hl (Q := fun e a w => e = .normal ∧ Q .normal a w) hok.1 (fun c a w h => by cases h.1) hd (fun E a w ρ h1 h2 => ⟨rfl, hK E a w ρ h1 h2⟩) t l.length _ _ true E a w.drew ρ hok.2 hst hs).2 rfl rfl
  simpa using this
end Go.Proofs.Ythjojkkapboonaa
