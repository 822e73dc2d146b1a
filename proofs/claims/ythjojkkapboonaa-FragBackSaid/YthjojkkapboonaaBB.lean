/- What an operation makes of what is known; that it does. No program in sight. -/
import Derived.Test.YthjojkkapboonaaBA
import Derived.ChangeKeysEq
namespace Go.Proofs.Ythjojkkapboonaa
set_option linter.unusedSimpArgs false
set_option linter.unusedVariables false
open Go.RowKit

/-- What is to be known of a type. -/
inductive TK where
  | int (k : IntKind)
  | bool
  | str
  | slc (e es : Nat)
  | arr (n e es : Nat) (ea : Bool) (ek : Option IntKind)
  | st (fs : List (Nat × Nat × Bool)) (ek : List IntKind)
  | oth
  | ifc
def TK.isAgg : TK → Bool
  | .arr .. => true
  | .st _ _ => true
  | _ => false
structure TI where
  k : TK
  size : Nat
  zero : List AV

def aggD : TypeDesc → Bool
  | .struct _ => true
  | .array _ _ => true
  | _ => false
def aggO (P : Program) (t : TypeId) : Option Bool := (P.underlying t).map aggD
/-- Structs of numbers of these kinds are told apart by their numbers. -/
def EqK (P : Program) (t : TypeId) (ks : List IntKind) : Prop := P.eqGuardType P.depth t = false ∧ ∀ (w : World) (ns ms : List Int), ns.length = ks.length → ms.length = ks.length →
  (Op.equalIn 10000 t (.agg (List.zipWith Value.int ks ns).toArray) (.agg (List.zipWith Value.int ks ms).toArray)).run P w = .ok (decide (ns = ms)) w
def bytesOk (P : Program) (t : TypeId) : Prop := ∀ i, P.info? t = some i → i.bytes ≤ 65536
def TKOk (P : Program) (t : TypeId) : TK → Prop
  | .int k => P.underlying t = some (.int k)
  | .bool => P.underlying t = some .bool
  | .str => P.underlying t = some .string
  | .slc e es => P.underlying t = some (.slice e) ∧ (P.info? e).map (·.size) = some es ∧ bytesOk P e
  | .arr n e es ea ek => P.underlying t = some (.array n e) ∧ (P.info? e).map (·.size) = some es ∧ aggO P e = some ea ∧ ∀ k, ek = some k → P.underlying e = some (.int k)
  | .st fs ek => (∃ gs, P.underlying t = some (.struct gs) ∧ gs.toList.map (fun g => (g.offset, (P.info? g.type).map (·.size), aggO P g.type)) = fs.map (fun f => (f.1, some f.2.1, some f.2.2))) ∧ (ek ≠ [] → EqK P t ek) ∧ ∀ i z, P.info? t = some i → i.zero = some z → ∃ us, z = .agg us
  | .oth => aggO P t = some false
  | .ifc => P.underlying t = some (.interface #[])
def TIOk (P : Program) (t : TypeId) (ti : TI) : Prop :=
  (∃ i z, P.info? t = some i ∧ i.size = ti.size ∧ i.zero = some z ∧ ∀ M w, RepL M w ti.zero z.cells.toList) ∧ TKOk P t ti.k
def TOk (P : Program) (T : Nat → Option TI) : Prop := ∀ t ti, T t = some ti → TIOk P t ti

theorem agg_run {P : Program} {w : World} {t : TypeId} {b : Bool} (h : aggO P t = some b) : (isAgg t).run P w = .ok b w := by
  simp only [aggO, Option.map_eq_some_iff] at h
  obtain ⟨d, hd, rfl⟩ := h
  simp only [isAgg, Sem.run_bind, run_underlying hd, Result.andThen_ok]
  cases d <;> rfl
theorem TKOk.agg {P : Program} {w : World} {t : TypeId} {k : TK} (h : TKOk P t k) : (isAgg t).run P w = .ok k.isAgg w := by
  cases k <;> simp only [TKOk] at h
  case int => simp [isAgg, run_underlying h, TK.isAgg]
  case bool => simp [isAgg, run_underlying h, TK.isAgg]
  case str => simp [isAgg, run_underlying h, TK.isAgg]
  case slc => simp [isAgg, run_underlying h.1, TK.isAgg]
  case arr => simp [isAgg, run_underlying h.1, TK.isAgg]
  case st => obtain ⟨⟨gs, h, _⟩, _⟩ := h; simp [isAgg, run_underlying h, TK.isAgg]
  case ifc => simp [isAgg, run_underlying h, TK.isAgg]
  case oth =>
    simpa [TK.isAgg] using agg_run h
theorem TIOk.sz {P : Program} {t : TypeId} {ti : TI} (h : TIOk P t ti) (w : World) : (sizeOf t).run P w = .ok ti.size w := by
  obtain ⟨⟨i, z, h1, h2, _⟩, _⟩ := h
  simp [sizeOf, typeInfo, h1, h2]
theorem size_of {P : Program} {t : TypeId} {n : Nat} (h : (P.info? t).map (·.size) = some n) (w : World) : (sizeOf t).run P w = .ok n w := by
  cases hi : P.info? t with
  | none => rw [hi] at h; cases h
  | some i =>
    rw [hi] at h
    simp only [Option.map_some, Option.some.injEq] at h
    simp [sizeOf, typeInfo, hi, h]

/-! ### operations on values -/
def intsOf (k : IntKind) : List AV → Option (List Int)
  | [] => some []
  | .one (.int k' n) :: r => if k' = k then (intsOf k r).map (n :: ·) else none
  | _ => none
theorem intsOf_rep {M : Nat → Prop} {w : World} {k : IntKind} : ∀ {cs : List AV} {ns : List Int} {us : List Value}, intsOf k cs = some ns → RepL M w cs us → us = ns.map (.int k)
  | [], ns, us, h, hr => by
    simp only [intsOf, Option.some.injEq] at h
    simp only [RepL] at hr
    subst h hr
    rfl
  | .one (.int k' n) :: r, ns, us, h, hr => by
    simp only [intsOf] at h
    split at h
    · rename_i hk
      subst hk
      simp only [Option.map_eq_some_iff] at h
      obtain ⟨ms, h1, rfl⟩ := h
      simp only [RepL, RepV] at hr
      obtain ⟨v, vs, rfl, rfl, h3⟩ := hr
      simp [intsOf_rep h1 h3]
    · cases h
  | .one (.bool _) :: _, _, _, h, _ | .one (.float _ _) :: _, _, _, h, _ | .one (.complex _ _ _) :: _, _, _, h, _ | .one (.string _) :: _, _, _, h, _ | .one (.pointer _) :: _, _, _, h, _
  | .one (.slice _ _ _) :: _, _, _, h, _ | .one (.map _) :: _, _, _, h, _ | .one (.chan _) :: _, _, _, h, _ | .one (.func _ _ _) :: _, _, _, h, _ | .one .nilFunc :: _, _, _, h, _ | .one (.iface _ _) :: _, _, _, h, _
  | .one .nilIface :: _, _, _, h, _ | .one (.agg _) :: _, _, _, h, _ | .one (.tuple _) :: _, _, _, h, _ => by simp [intsOf] at h
  | .ifc _ _ :: _, _, _, h, _ | .any :: _, _, _, h, _ | .bs _ :: _, _, _, h, _ | .sl _ _ :: _, _, _, h, _ | .agg _ :: _, _, _, h, _ | .tup _ :: _, _, _, h, _ => by simp [intsOf] at h

theorem eqItems_ints {P : Program} {w : World} {e : TypeId} {k : IntKind} (he : P.underlying e = some (.int k)) (hs : P.cellsOf e = 1) (d : Nat) (ns ms : List Int) (hl : ns.length = ms.length) : ∀ (l : List Nat), (∀ i ∈ l, i < ns.length) →
    (Op.eqItems (d + 1) e (P.cellsOf e) (ns.map (Value.int k)).toArray (ms.map (Value.int k)).toArray l).run P w = .ok (l.all fun i => ns.getD i 0 == ms.getD i 0) w
  | [], _ => by simp [Op.eqItems]
  | i :: l, h => by
    have hi : i < ns.length := h i (by simp)
    have ih := eqItems_ints (w := w) he hs d ns ms hl l (fun j hj => h j (by simp [hj]))
    have hag : (isAgg e).run P w = .ok false w := by simp [isAgg, run_underlying he]
    simp only [hs] at ih ⊢
    have hm : i < ms.length := by omega
    simp only [Op.eqItems, part, Sem.run_bind, hag, Result.andThen_ok, Bool.false_eq_true, if_false]
    simp [hi, hm, hag, run_equalIn_int w d e k k _ _ he, List.getD, Result.andThen]
    split
    · rename_i hne
      rw [ih]
      simp [hne, List.getD]
    · rename_i hne
      simp [hne]

theorem all_range_eq (ns ms : List Int) (hl : ns.length = ms.length) : ((List.range ns.length).all fun i => ns.getD i 0 == ms.getD i 0) = decide (ns = ms) := by
  rw [Bool.eq_iff_iff]
  simp only [List.all_eq_true, List.mem_range, beq_iff_eq, decide_eq_true_eq]
  constructor
  · intro h
    apply List.ext_getElem hl
    intro i h1 h2
    have := h i h1
    simpa [List.getD, h1, h2] using this
  · rintro rfl i _
    rfl

/-- Numbers of these kinds. -/
def intsK : List IntKind → List AV → Option (List Int)
  | [], cs => if cs.length = 0 then some [] else none
  | k :: ks, c :: r => match c with | .one (.int k' n) => if k' = k then (intsK ks r).map (n :: ·) else none | _ => none
  | _ :: _, [] => none
theorem intsK_rep {M : Nat → Prop} {w : World} : ∀ {ks : List IntKind} {cs : List AV} {ns : List Int} {us : List Value}, intsK ks cs = some ns → RepL M w cs us → us = List.zipWith Value.int ks ns ∧ ns.length = ks.length
  | [], cs, ns, us, h, hr => by
    simp only [intsK] at h
    split at h
    · rename_i h0
      obtain rfl := List.length_eq_zero_iff.1 h0
      simp only [Option.some.injEq] at h
      subst h
      simp only [RepL] at hr
      subst hr
      exact ⟨rfl, rfl⟩
    · cases h
  | k :: ks, c :: r, ns, us, h, hr => by
    simp only [intsK] at h
    split at h
    · split at h
      · rename_i hk
        subst hk
        simp only [Option.map_eq_some_iff] at h
        obtain ⟨ms, h1, rfl⟩ := h
        simp only [RepL, RepV] at hr
        obtain ⟨v, vs, rfl, rfl, h2⟩ := hr
        obtain ⟨h3, h4⟩ := intsK_rep h1 h2
        exact ⟨by simp [h3], by simp [h4]⟩
      · cases h
    · cases h
  | _ :: _, [], _, _, h, _ => by simp [intsK] at h

def binF (tk : TK) : BinOp → AV → AV → Option (Prop × AV)
  | .add, .one (.int k a), .one (.int k' b) => some (k = k', .one (.int k (k.wrap (a + b))))
  | .sub, .one (.int k a), .one (.int k' b) => some (k = k', .one (.int k (k.wrap (a - b))))
  | .mul, .one (.int k a), .one (.int k' b) => some (k = k', .one (.int k (k.wrap (a * b))))
  | .quo, .one (.int k a), .one (.int k' b) => some (k = k' ∧ b ≠ 0, .one (.int k (k.wrap (a.tdiv b))))
  | .rem, .one (.int k a), .one (.int k' b) => some (k = k' ∧ b ≠ 0, .one (.int k (a.tmod b)))
  | .and, .one (.int k a), .one (.int k' b) => some (k = k', .one (.int k (bits .and k a b)))
  | .or, .one (.int k a), .one (.int k' b) => some (k = k', .one (.int k (bits .or k a b)))
  | .xor, .one (.int k a), .one (.int k' b) => some (k = k', .one (.int k (bits .xor k a b)))
  | .shl, .one (.int k a), .one (.int _ b) => some (0 ≤ b ∧ b ≤ k.bits, .one (.int k (k.wrap (a * 2 ^ b.toNat))))
  | .shr, .one (.int k a), .one (.int _ b) => some (0 ≤ b ∧ b ≤ k.bits, .one (.int k (a / 2 ^ b.toNat)))
  | .eql, .one (.int k a), .one (.int k' b) => some (k = k', .one (.bool (decide (a = b))))
  | .neq, .one (.int k a), .one (.int k' b) => some (k = k', .one (.bool (!decide (a = b))))
  | .lss, .one (.int k a), .one (.int k' b) => some (k = k', .one (.bool (decide (a < b))))
  | .leq, .one (.int k a), .one (.int k' b) => some (k = k', .one (.bool (decide (a ≤ b))))
  | .gtr, .one (.int k a), .one (.int k' b) => some (k = k', .one (.bool (decide (b < a))))
  | .geq, .one (.int k a), .one (.int k' b) => some (k = k', .one (.bool (decide (b ≤ a))))
  | .eql, .one (.bool a), .one (.bool b) => match tk with | .bool => some (True, .one (.bool (a == b))) | _ => none
  | .neq, .one (.bool a), .one (.bool b) => match tk with | .bool => some (True, .one (.bool (!(a == b)))) | _ => none
  | .eql, .one (.string a), .one (.string b) => some (True, .one (.bool (a.toList == b.toList)))
  | .neq, .one (.string a), .one (.string b) => some (True, .one (.bool (!(a.toList == b.toList))))
  | .add, .one (.string a), .one (.string b) => some (a.size + b.size ≤ 9223372036854775807, .one (.string (a ++ b)))
  | .eql, .agg cs, .agg ds => match tk with
    | .arr n _ 1 false (some k) => (intsOf k cs).bind fun ns => (intsOf k ds).map fun ms => (ns.length = n ∧ ms.length = n, .one (.bool (decide (ns = ms))))
    | .st _ (k :: ks) => (intsK (k :: ks) cs).bind fun ns => (intsK (k :: ks) ds).map fun ms => (True, .one (.bool (decide (ns = ms))))
    | _ => none
  | .neq, .agg cs, .agg ds => match tk with
    | .arr n _ 1 false (some k) => (intsOf k cs).bind fun ns => (intsOf k ds).map fun ms => (ns.length = n ∧ ms.length = n, .one (.bool (!decide (ns = ms))))
    | .st _ (k :: ks) => (intsK (k :: ks) cs).bind fun ns => (intsK (k :: ks) ds).map fun ms => (True, .one (.bool (!decide (ns = ms))))
    | _ => none
  | .eql, .ifc _ _, .one .nilIface => match tk with | .ifc => some (True, .one (.bool false)) | _ => none
  | .eql, .one .nilIface, .one .nilIface => match tk with | .ifc => some (True, .one (.bool true)) | _ => none
  | _, _, _ => none

theorem eqArr_run {P : Program} {M : Nat → Prop} {w : World} {t : TypeId} {n e : Nat} {k : IntKind} {cs ds : List AV} {ns ms : List Int} {u v : Value} (ht : TKOk P t (.arr n e 1 false (some k)))
    (h1 : intsOf k cs = some ns) (h2 : intsOf k ds = some ms) (hn : ns.length = n) (hm : ms.length = n) (hu : RepV M w (.agg cs) u) (hv : RepV M w (.agg ds) v) :
    ∃ xs ys, u = .agg xs ∧ v = .agg ys ∧ P.eqGuardType P.depth t = false ∧ (Op.equalIn 10000 t (.agg xs) (.agg ys)).run P w = .ok (decide (ns = ms)) w := by
  simp only [RepV] at hu hv
  obtain ⟨us, rfl, hu⟩ := hu
  obtain ⟨vs, rfl, hv⟩ := hv
  obtain rfl := intsOf_rep h1 hu
  obtain rfl := intsOf_rep h2 hv
  obtain ⟨h3, h4, _, h5⟩ := ht
  have he := h5 k rfl
  have hi : ∃ i, P.info? e = some i := by
    cases hi : P.info? e with
    | none => rw [hi] at h4; cases h4
    | some i => exact ⟨i, rfl⟩
  obtain ⟨i, hi⟩ := hi
  have hs : P.cellsOf e = 1 := by rw [Program.cellsOf, h4]; rfl
  refine ⟨_, _, rfl, rfl, ?_, ?_⟩
  · have : P.depth = (2 * (P.types.size + Made.depth)) + 1 + 1 := rfl
    rw [this]
    simp [Program.eqGuardType, h3, he]
  · have h6 := run_equalIn_array (P := P) w 9999 (ns.map (Value.int k)).toArray (ms.map (Value.int k)).toArray h3 hi
    rw [show 10000 = 9999 + 1 from rfl, h6, ← hn, show 9999 = 9998 + 1 from rfl, eqItems_ints he hs _ ns ms (by omega) _ (fun i hi => List.mem_range.1 hi), all_range_eq ns ms (by omega)]

theorem eqSt_run {P : Program} {M : Nat → Prop} {w : World} {t : TypeId} {fs : List (Nat × Nat × Bool)} {k : IntKind} {ks : List IntKind} {cs ds : List AV} {ns ms : List Int} {u v : Value} (ht : TKOk P t (.st fs (k :: ks)))
    (h1 : intsK (k :: ks) cs = some ns) (h2 : intsK (k :: ks) ds = some ms) (hu : RepV M w (.agg cs) u) (hv : RepV M w (.agg ds) v) :
    ∃ xs ys, u = .agg xs ∧ v = .agg ys ∧ P.eqGuardType P.depth t = false ∧ (Op.equalIn 10000 t (.agg xs) (.agg ys)).run P w = .ok (decide (ns = ms)) w := by
  simp only [RepV] at hu hv
  obtain ⟨us, rfl, hu⟩ := hu
  obtain ⟨vs, rfl, hv⟩ := hv
  obtain ⟨rfl, e1⟩ := intsK_rep h1 hu
  obtain ⟨rfl, e2⟩ := intsK_rep h2 hv
  obtain ⟨g1, g2⟩ := ht.2.1 (by simp)
  exact ⟨_, _, rfl, rfl, g1, g2 w ns ms e1 e2⟩

theorem iface_nil {P : Program} {w : World} {t t' : TypeId} {v : Value} (ht : P.underlying t = some (.interface #[])) : (Op.equal t (.iface t' v) .nilIface).run P w = .ok false w := by
  show (Op.equalIn (9999 + 1) t _ _).run P w = _
  rw [Op.equalIn]
  simp [run_underlying ht]
theorem nil_nil {P : Program} {w : World} {t : TypeId} (ht : P.underlying t = some (.interface #[])) : (Op.equal t .nilIface .nilIface).run P w = .ok true w := by
  show (Op.equalIn (9999 + 1) t _ _).run P w = _
  rw [Op.equalIn]
  simp [run_underlying ht]
theorem guard_nil {P : Program} {w : World} {t : TypeId} (ht : P.underlying t = some (.interface #[])) : (Op.eqGuardIn Op.maxDepth t .nilIface .nilIface).run P w = .ok false w := by
  show (Op.eqGuardIn (9999 + 1) t _ _).run P w = _
  rw [Op.eqGuardIn]
  simp [run_underlying ht]
theorem bin_run {P : Program} {M : Nat → Prop} {w : World} {op : BinOp} {tk : TK} {t : TypeId} {x y : Operand} {a b r : AV} {c : Prop} {u v : Value} (ht : TKOk P t tk)
    (h : binF tk op a b = some (c, r)) (hc : c) (hu : RepV M w a u) (hv : RepV M w b v) :
    ∃ z, (do eqGuard op t x y u v; binOp op t u v : Sem Value).run P w = .ok z w ∧ RepV M w r z := by
  unfold binF at h
  split at h <;> try simp only [Option.some.injEq, Prod.mk.injEq, reduceCtorEq] at h
  case h_17 =>
    split at h <;> simp only [Option.some.injEq, Prod.mk.injEq, reduceCtorEq] at h
    obtain ⟨h1, h2⟩ := h; subst h1 h2; rw [RepV.one_iff] at hu hv; subst hu hv
    simp only [TKOk] at ht
    refine ⟨_, ?_, RepV.one_iff.2 rfl⟩
    simp [go_sem, binOp, Op.equal, Op.maxDepth, run_equalIn_bool' w _ t _ _ ht]
  case h_18 =>
    split at h <;> simp only [Option.some.injEq, Prod.mk.injEq, reduceCtorEq] at h
    obtain ⟨h1, h2⟩ := h; subst h1 h2; rw [RepV.one_iff] at hu hv; subst hu hv
    simp only [TKOk] at ht
    refine ⟨_, ?_, RepV.one_iff.2 rfl⟩
    simp [go_sem, binOp, Op.equal, Op.maxDepth, run_equalIn_bool' w _ t _ _ ht]
  case h_22 =>
    split at h
    · simp only [Option.bind_eq_some_iff, Option.map_eq_some_iff, Prod.mk.injEq] at h
      obtain ⟨ns, h1, ms, h2, h3, h4⟩ := h
      subst h3 h4
      obtain ⟨xs, ys, rfl, rfl, h5, h6⟩ := eqArr_run ht h1 h2 hc.1 hc.2 hu hv
      refine ⟨_, ?_, RepV.one_iff.2 rfl⟩
      simp only [Sem.run_bind, run_eqGuard_agg w _ t x y xs ys h5, Result.andThen_ok, run_eql_struct, h6]
    · simp only [Option.bind_eq_some_iff, Option.map_eq_some_iff, Prod.mk.injEq] at h
      obtain ⟨ns, h1, ms, h2, h3, h4⟩ := h
      subst h3 h4
      obtain ⟨xs, ys, rfl, rfl, h5, h6⟩ := eqSt_run ht h1 h2 hu hv
      refine ⟨_, ?_, RepV.one_iff.2 rfl⟩
      simp only [Sem.run_bind, run_eqGuard_agg w _ t x y xs ys h5, Result.andThen_ok, run_eql_struct, h6]
    · cases h
  case h_23 =>
    split at h
    · simp only [Option.bind_eq_some_iff, Option.map_eq_some_iff, Prod.mk.injEq] at h
      obtain ⟨ns, h1, ms, h2, h3, h4⟩ := h
      subst h3 h4
      obtain ⟨xs, ys, rfl, rfl, h5, h6⟩ := eqArr_run ht h1 h2 hc.1 hc.2 hu hv
      refine ⟨_, ?_, RepV.one_iff.2 rfl⟩
      simp only [Sem.run_bind, run_eqGuard_agg w _ t x y xs ys h5, Result.andThen_ok, run_neq_struct, h6]
    · simp only [Option.bind_eq_some_iff, Option.map_eq_some_iff, Prod.mk.injEq] at h
      obtain ⟨ns, h1, ms, h2, h3, h4⟩ := h
      subst h3 h4
      obtain ⟨xs, ys, rfl, rfl, h5, h6⟩ := eqSt_run ht h1 h2 hu hv
      refine ⟨_, ?_, RepV.one_iff.2 rfl⟩
      simp only [Sem.run_bind, run_eqGuard_agg w _ t x y xs ys h5, Result.andThen_ok, run_neq_struct, h6]
    · cases h
  case h_24 =>
    split at h <;> simp only [Option.some.injEq, Prod.mk.injEq, reduceCtorEq] at h
    obtain ⟨h1, h2⟩ := h; subst h1 h2
    simp only [RepV] at hu hv
    obtain ⟨u', rfl, _⟩ := hu
    subst hv
    simp only [TKOk] at ht
    refine ⟨.bool false, ?_, RepV.one_iff.2 rfl⟩
    have e : ∀ t', (Op.equal t (.iface t' u') .nilIface).run P w = .ok false w := fun t' => iface_nil ht
    simp [eqGuard, binOp, e]
  case h_25 =>
    split at h <;> simp only [Option.some.injEq, Prod.mk.injEq, reduceCtorEq] at h
    obtain ⟨h1, h2⟩ := h; subst h1 h2
    simp only [RepV] at hu hv
    subst hu hv
    simp only [TKOk] at ht
    refine ⟨.bool true, ?_, RepV.one_iff.2 rfl⟩
    have e : (Op.equal t .nilIface .nilIface).run P w = .ok true w := nil_nil ht
    have e2 : (Op.eqGuardIn Op.maxDepth t .nilIface .nilIface).run P w = .ok false w := guard_nil ht
    have e3 : (eqGuard .eql t x y .nilIface .nilIface).run P w = .ok () w := by
      unfold eqGuard
      simp
      intro _ _
      rw [e2]
      rfl
    rw [Sem.run_bind, e3, Result.andThen_ok]
    simp only [binOp]
    simp [e]
  all_goals (obtain ⟨h1, h2⟩ := h; subst h1 h2; rw [RepV.one_iff] at hu hv; subst hu hv)
  all_goals (refine ⟨_, ?_, RepV.one_iff.2 rfl⟩)
  all_goals try subst hc
  all_goals try (obtain ⟨hc1, hc2⟩ := hc)
  all_goals try subst hc1
  case h_4 => simp [go_sem, hc2]
  case h_5 => simp [go_sem, hc2]
  case h_9 => simp only [eqGuard_shl, Sem.run_bind, Sem.run_pure, Result.andThen_ok, binOp_shl]; rw [shift_shl _ _ _ _ hc1 hc2]; rfl
  case h_10 => simp only [eqGuard_shr, Sem.run_bind, Sem.run_pure, Result.andThen_ok, binOp_shr]; rw [shift_shr _ _ _ _ hc1 hc2]; rfl
  case h_12 => simp [go_sem]; rfl
  case h_21 =>
    simp only [eqGuard_at_string, Sem.run_bind, Sem.run_pure, Result.andThen_ok]
    exact run_string_add_sum w _ _ hc
  all_goals first | (simp [go_sem]; done) | (simp [go_sem, binOp]; done) | (simp [go_sem]; rfl)

def unF : UnOp → AV → Option (Prop × AV)
  | .not, .one (.bool b) => some (True, .one (.bool (!b)))
  | .neg, .one (.int k n) => some (True, .one (.int k (k.wrap (0 - n))))
  | .xor, .one (.int k n) => some (True, .one (.int k (bits .xor k (if k.signed then -1 else k.max) n)))
  | _, _ => none
theorem un_run {P : Program} {M : Nat → Prop} {w : World} {op : UnOp} {a r : AV} {c : Prop} {u : Value} (h : unF op a = some (c, r)) (hu : RepV M w a u) :
    ∃ z, (Op.unary op u).run P w = .ok z w ∧ RepV M w r z := by
  unfold unF at h
  split at h <;> simp only [Option.some.injEq, Prod.mk.injEq, reduceCtorEq] at h
  all_goals (obtain ⟨h1, h2⟩ := h; subst h1 h2; rw [RepV.one_iff] at hu; subst hu)
  all_goals (refine ⟨_, ?_, RepV.one_iff.2 rfl⟩)
  all_goals first | rfl | (simp [Op.unary]; done)

/-- Conversions: between numbers; of bytes to a string. -/
def convF (ke : Option TK) (kd : TK) : AV → Option (Prop × AV)
  | .one (.int _ n) => match kd with | .int k' => some (True, .one (.int k' (k'.wrap n))) | _ => none
  | .bs l => match ke, kd with | some (.int .u8), .str => some (True, .one (.string (bstr l))) | _, _ => none
  | _ => none
def TK.elemOf (T : Nat → Option TI) : TK → Option TK
  | .slc e _ => (T e).map (·.k)
  | _ => none

end Go.Proofs.Ythjojkkapboonaa
