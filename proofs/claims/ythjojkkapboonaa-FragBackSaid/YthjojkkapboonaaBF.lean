/- Lists of operations, in their order or in any order: what is known behind them. No program in sight. -/
import Derived.Test.YthjojkkapboonaaBE
namespace Go.Proofs.Ythjojkkapboonaa
set_option linter.unusedSimpArgs false
set_option linter.unusedVariables false
open Go.RowKit

def putT (d : Option Tmp) (x : TV) (ts : List (Nat × TV)) : List (Nat × TV) := match d with | some d => (d, x) :: ts | none => ts

/-- A cell that one store fills. -/
def okCell : AV → Bool
  | .one v => v.oneCell'
  | .bs _ => true
  | .sl _ _ => true
  | .ifc _ _ => true
  | _ => false

def isHeap : Op → Bool
  | .box .. => true
  | .alloc _ => true
  | .store .. => true
  | .call ⟨.builtin .copy, _, _⟩ => true
  | .call ⟨.builtin .append, _, _⟩ => true
  | .range .. => true
  | .next .. => true
  | _ => false

/-- The bytes of a list from a place on, as cells. -/
def bytesAt (l : List UInt8) (i : Nat) : Nat → List AV
  | 0 => []
  | n + 1 => .one (.int .u8 ((l.getD i 0).toNat : Int)) :: bytesAt l (i + 1) n

noncomputable def heapF (T : Nat → Option TI) (E : AE) : Op → Option (Prop × TV × List (Bool × List AV))
  | .box _ x => match rd E.h (evT E.t x) with | .v a => (cellsF a).map fun cs => (True, .p E.h.length 0, E.h ++ [(true, cs)]) | _ => none
  | .alloc t => match T t with | some ti => some (True, .p E.h.length 0, E.h ++ [(true, ti.zero)]) | none => none
  | .store t x y => match T t, rd E.h (evT E.t x), rd E.h (evT E.t y) with
    | some ti, .p n off, .v a => match E.h[n]?, cellsF a with
      | some (true, cs), some ds => some (ds.length = ti.size ∧ off + ds.length ≤ cs.length ∧ ds.all okCell = true, .v .any, E.h.set n (true, ovw cs off ds))
      | _, _ => none
    | _, _, _ => none
  | .call ⟨.builtin .copy, ⟨[x, y]⟩, ⟨[dt, _]⟩⟩ => match T dt, rd E.h (evT E.t x), rd E.h (evT E.t y) with
    | some ⟨.slc _ 1, _, _⟩, .s n off len, .v (.bs l) => match E.h[n]? with
      | some (true, cs) => some (len ≤ l.length ∧ off + len ≤ cs.length, .v (.one (.int .i64 (len : Int))), E.h.set n (true, ovw cs off (bytesAt l 0 len)))
      | _ => none
    | _, _, _ => none
  | _ => none

/-- What an append makes of a row: its content. -/
def catA : AV → TV → Option (Prop × AV)
  | .bs l, .v (.bs m) => some (l.length + m.length ≤ 1000000, .bs (l ++ m))
  | .sl k cs, .v (.sl k' ds) => some (k = k' ∧ ds.all okCell = true ∧ cs.length + ds.length ≤ 1000000, .sl k (cs ++ ds))
  | _, _ => none
def neA : AV → Prop
  | .bs l => 0 < l.length
  | .sl _ cs => 0 < cs.length
  | _ => False
/-- Nothing is known any more of what points into block n. -/
def dropV (n : Nat) : TV → TV
  | .p m o => if m = n then .v .any else .p m o
  | .s m o l => if m = n then .v .any else .s m o l
  | .r m e k a => if m = n then .v .any else .r m e k a
  | .it m s p => if m = n then .v .any else .it m s p
  | t => t
def dropT (n : Nat) : List (Nat × TV) → List (Nat × TV)
  | [] => []
  | (i, x) :: r => (i, dropV n x) :: dropT n r
noncomputable def appF (T : Nat → Option TI) (E : AE) (t : TypeId) (X Y : TV) : Option (Prop × TV × AE) :=
  match T t with
  | some ⟨.slc e k, _, _⟩ => match T e with
    | some ⟨_, sz, zs⟩ => match X with
      | .r n e' k' a => match E.h[n]? with | some (true, _) => (catA a Y).map fun r => ((e = e' ∧ k = k' ∧ sz = k ∧ zs.length = k ∧ 0 < k) ∧ r.1, .r n e k r.2, ⟨dropT n E.t, E.h⟩) | _ => none
      | .z => match Y with
        | .v (.bs m) => some (k = 1 ∧ sz = 1 ∧ zs.length = 1 ∧ 0 < m.length ∧ m.length ≤ 1000000, .r E.h.length e k (.bs m), ⟨E.t, E.h ++ [(true, [])]⟩)
        | .v (.sl k' ds) => some (k = k' ∧ sz = k ∧ zs.length = k ∧ 0 < k ∧ ds.all okCell = true ∧ 0 < ds.length ∧ ds.length ≤ 1000000, .r E.h.length e k (.sl k ds), ⟨E.t, E.h ++ [(true, [])]⟩)
        | _ => none
      | _ => none
    | none => none
  | _ => none

/-- A contract whose result is a new row. -/
def ASpecW (P : Program) (f : FuncId) (as : List AV) (e k : Nat) (a : AV) : Prop := CallOk P f ∧
  ∀ (M : Nat → Prop) (w : World) (vs : List Value), (∀ b, M b → b < w.heap.size) → RepL M w as vs →
    Calls P f vs.toArray w fun ex w' => ∃ v us len, ex = .returned v ∧ Grow w w' ∧ w'.ownsRow w.heap.size e k v len us ∧ ∀ M' : Nat → Prop, (∀ x, M' x → M x ∨ v.ownBlock = some x) → contA M' w' k us a
/-- A call: its contract gives what is known of its value. -/
def ACall (wf : Bool) (P : Program) (f : TV) (as : Option (List AV)) (d : Option Tmp) (E : AE) (N : AE → Prop) : Prop :=
  (∃ g x r, f = .v (.one (.func (.func g) #[] #[])) ∧ as = some x ∧ ASpec P g x r ∧ N ⟨putT d (.v r) E.t, E.h⟩) ∨
  (wf = true ∧ ∃ g x e k a, f = .v (.one (.func (.func g) #[] #[])) ∧ as = some x ∧ ASpecW P g x e k a ∧ neA a ∧ N ⟨putT d (.r E.h.length e k a) E.t, E.h ++ [(true, [])]⟩)
theorem ACall.intro {wf : Bool} {P : Program} {g : FuncId} {x : List AV} {r : AV} {d : Option Tmp} {ts : List (Nat × TV)} {h : List (Bool × List AV)} {N : AE → Prop} (hs : ASpec P g x r) (hN : N ⟨putT d (.v r) ts, h⟩) :
    ACall wf P (.v (.one (.func (.func g) #[] #[]))) (some x) d ⟨ts, h⟩ N := .inl ⟨g, x, r, rfl, rfl, hs, hN⟩
theorem ACall.introW {P : Program} {g : FuncId} {x : List AV} {e k : Nat} {a : AV} {d : Option Tmp} {ts : List (Nat × TV)} {h : List (Bool × List AV)} {N : AE → Prop} (hs : ASpecW P g x e k a) (hne : neA a) (hN : N ⟨putT d (.r h.length e k a) ts, h ++ [(true, [])]⟩) :
    ACall true P (.v (.one (.func (.func g) #[] #[]))) (some x) d ⟨ts, h⟩ N := .inr ⟨rfl, g, x, e, k, a, rfl, rfl, hs, hne, hN⟩

/-- Rows that a call is given are not written any more. -/
def frz1 : Nat → List (Bool × List AV) → List (Bool × List AV)
  | _, [] => []
  | 0, b :: r => (false, b.2) :: r
  | n + 1, b :: r => b :: frz1 n r
def frzR (ev : Operand → TV) : List Operand → List (Bool × List AV) → List (Bool × List AV)
  | [], h => h
  | x :: r, h => match ev x with | .r n _ _ _ => frzR ev r (frz1 n h) | .s n _ _ => frzR ev r (frz1 n h) | _ => frzR ev r h
def frzW (wf : Bool) (ev : Operand → TV) (l : List Operand) (h : List (Bool × List AV)) : List (Bool × List AV) := match wf with | true => frzR ev l h | false => h

/-- The iterator of block n goes on; nothing else is known any more of what points there. -/
def goV (n : Nat) (s : ByteArray) (pos : Nat) : TV → TV
  | .it m s' p => if m = n then .it n s pos else .it m s' p
  | t => dropV n t
def goT (n : Nat) (s : ByteArray) (pos : Nat) : List (Nat × TV) → List (Nat × TV)
  | [] => []
  | (i, x) :: r => (i, goV n s pos x) :: goT n s pos r
/-- What a new row of no elements holds. -/
def noneA (tk : TK) (k : Nat) : AV := match tk with | .int .u8 => .bs [] | _ => .sl k []
def okNone (tk : TK) (k : Nat) : Prop := match tk with | .int .u8 => k = 1 | _ => 0 < k
/-- New rows: of no elements yet, with room; of zeros, that are written by index. -/
noncomputable def newF (T : Nat → Option TI) (E : AE) : Op → Option (Prop × TV × List (Bool × List AV))
  | .makeSlice t (.const (.int .i64 0)) y => match T t, rd E.h (evT E.t y) with
    | some ⟨.slc e k, _, _⟩, .v (.one (.int _ m)) => match T e with
      | some ⟨tk, sz, zs⟩ => some (sz = k ∧ zs.length = k ∧ okNone tk k ∧ 0 ≤ m ∧ m ≤ 1000000, .r E.h.length e k (noneA tk k), E.h ++ [(true, [])])
      | none => none
    | _, _ => none
  | .makeSlice t x y => match T t, rd E.h (evT E.t x), rd E.h (evT E.t y) with
    | some ⟨.slc e k, _, _⟩, .v (.one (.int _ n)), .v (.one (.int _ m)) => match T e with
      | some ⟨tk, sz, [zc]⟩ => match tk, zc with
        | .int .u8, .one (.int .u8 z) => some (z = 0 ∧ sz = 1 ∧ k = 1 ∧ n = m ∧ 0 ≤ n ∧ n ≤ 1000000, .s E.h.length 0 n.toNat, E.h ++ [(true, bytesL (List.replicate n.toNat 0))])
        | _, zc => some (sz = 1 ∧ k = 1 ∧ n = m ∧ 0 ≤ n ∧ n ≤ 1000000, .s E.h.length 0 n.toNat, E.h ++ [(true, List.replicate n.toNat zc)])
      | _ => none
    | _, _, _ => none
  | .buildSlice t 0 _ => match T t with
    | some ⟨.slc e k, _, _⟩ => match T e with
      | some ⟨tk, sz, zs⟩ => some (sz = k ∧ zs.length = k ∧ okNone tk k, .r E.h.length e k (noneA tk k), E.h ++ [(true, [])])
      | none => none
    | _ => none
  | _ => none
def isNew : Op → Bool
  | .makeSlice .. => true
  | .buildSlice _ 0 ⟨[]⟩ => true
  | _ => false

def AStep (wf : Bool) (P : Program) (T : Nat → Option TI) (d : Option Tmp) (E : AE) (N : AE → Prop) : Op → Prop
  | .pick c x y => match evT E.t c with
    | .v (.one (.bool t)) => (t = true → N ⟨putT d (evT E.t x) E.t, E.h⟩) ∧ (t = false → N ⟨putT d (evT E.t y) E.t, E.h⟩)
    | _ => False
  | .call ⟨.value f, args, _⟩ => ACall wf P (evT E.t f) (argsF (fun x => rd (frzW wf (evT E.t) args.toList E.h) (evT E.t x)) args.toList) d ⟨E.t, frzW wf (evT E.t) args.toList E.h⟩ N
  | .box t x => match heapF T E (.box t x) with | some (c, tv, h) => c ∧ N ⟨putT d tv E.t, h⟩ | none => False
  | .alloc t => match heapF T E (.alloc t) with | some (c, tv, h) => c ∧ N ⟨putT d tv E.t, h⟩ | none => False
  | .store t x y => match heapF T ⟨E.t, frzW wf (evT E.t) [y] E.h⟩ (.store t x y) with | some (c, tv, h) => c ∧ N ⟨putT d tv E.t, h⟩ | none => False
  | .call ⟨.builtin .copy, args, tys⟩ => match heapF T E (.call ⟨.builtin .copy, args, tys⟩) with | some (c, tv, h) => c ∧ N ⟨putT d tv E.t, h⟩ | none => False
  | .call ⟨.builtin .append, ⟨[x, y]⟩, ⟨[t, t']⟩⟩ => match appF T E t (evT E.t x) (rd E.h (evT E.t y)) with | some (c, tv, E') => (t = t' ∧ c) ∧ N ⟨putT d tv E'.t, E'.h⟩ | none => False
  | .build t ps => match hopF T (evT E.t) (frzW wf (evT E.t) (ps.toList.map (·.2)) E.h) (.build t ps) with | some (c, tv) => c ∧ N ⟨putT d tv E.t, frzW wf (evT E.t) (ps.toList.map (·.2)) E.h⟩ | none => False
  | .makeSlice t x y => match wf with
    | true => (match newF T E (.makeSlice t x y) with | some (c, tv, h) => c ∧ N ⟨putT d tv E.t, h⟩ | none => False)
    | false => (match hopF T (evT E.t) E.h (.makeSlice t x y) with | some (c, tv) => c ∧ N ⟨putT d tv E.t, E.h⟩ | none => False)
  | .buildSlice t len ps => match wf && isNew (.buildSlice t len ps) with
    | true => (match newF T E (.buildSlice t len ps) with | some (c, tv, h) => c ∧ N ⟨putT d tv E.t, h⟩ | none => False)
    | false => (match hopF T (evT E.t) (frzW wf (evT E.t) (ps.toList.map (·.2)) E.h) (.buildSlice t len ps) with | some (c, tv) => c ∧ N ⟨putT d tv E.t, frzW wf (evT E.t) (ps.toList.map (·.2)) E.h⟩ | none => False)
  | .range t x => match T t, evT E.t x with
    | some ⟨.str, _, _⟩, .v (.one (.string s)) => N ⟨putT d (.it E.h.length s 0) E.t, E.h ++ [(true, [])]⟩
    | _, _ => False
  | .next x true => match evT E.t x with
    | .it n s pos => match E.h[n]? with
      | some (true, _) => (pos < s.size → N ⟨putT d (.v (.tup [.one (.bool true), .one (.int .i64 (pos : Int)), .one (.int .i32 ((Utf8.decode s pos).1 : Int))])) (goT n s (pos + (Utf8.decode s pos).2) E.t), E.h⟩) ∧ (¬ pos < s.size → N ⟨putT d (.v (.tup [.one (.bool false)])) E.t, E.h⟩)
      | _ => False
    | _ => False
  | op => match hopF T (evT E.t) E.h op with | some (c, tv) => c ∧ N ⟨putT d tv E.t, E.h⟩ | none => False

/-- What the operation that a guard names yielded. -/
def gval (all : Array Oper) (ts : List (Nat × TV)) (g : Nat) : TV := match (all[g]?).bind (·.dst) with | some d => lk ts d | none => .v .any

/-- Operations in their order; in the first k of them no contract for a new row is used. -/
def aops (P : Program) (T : Nat → Option TI) (all : Array Oper) (K : AE → Prop) : Nat → List Oper → AE → Prop
  | _, [], E => K E
  | k, o :: os, E => match o.guard with
    | none => AStep (k == 0) P T o.dst E (aops P T all K (k - 1) os) o.op
    | some (g, b) => match gval all E.t g with
      | .v (.one (.bool t)) => (t = b → AStep (k == 0) P T o.dst E (aops P T all K (k - 1) os) o.op) ∧ (t = !b → aops P T all K (k - 1) os ⟨putT o.dst (.v (.one (.tuple #[]))) E.t, E.h⟩)
      | .v (.one (.tuple _)) => aops P T all K (k - 1) os ⟨putT o.dst (.v (.one (.tuple #[]))) E.t, E.h⟩
      | _ => False

/-- What an operation of the head makes. -/
inductive Hop (P : Program) (T : Nat → Option TI) (ev : Operand → TV) (H : List (Bool × List AV)) : Op → TV → Prop
  | pick {c x y : Operand} {t : Bool} (h : ev c = .v (.one (.bool t))) : Hop P T ev H (.pick c x y) (if t then ev x else ev y)
  | call {f : Operand} {args : Array Operand} {tys : Array TypeId} {g : FuncId} {x : List AV} {r : AV} (h : ev f = .v (.one (.func (.func g) #[] #[]))) (h2 : argsF (fun x => rd H (ev x)) args.toList = some x) (h3 : ASpec P g x r) : Hop P T ev H (.call ⟨.value f, args, tys⟩) (.v r)
  | pure {o : Op} {c : Prop} {tv : TV} (h : hopF T ev H o = some (c, tv)) (hc : c) : Hop P T ev H o tv

theorem AStep.hop {P : Program} {T : Nat → Option TI} {d : Option Tmp} {E : AE} {N : AE → Prop} {op : Op} (hh : isHeap op = false) (h : AStep false P T d E N op) : ∃ tv, Hop P T (evT E.t) E.h op tv ∧ N ⟨putT d tv E.t, E.h⟩ := by
  unfold AStep at h
  split at h
  · split at h
    · rename_i c x y t hc
      refine ⟨_, .pick hc, ?_⟩
      cases t
      · exact h.2 rfl
      · exact h.1 rfl
    · exact h.elim
  · rcases h with ⟨g, x, r, h1, h2, h3, h4⟩ | ⟨h, _⟩
    · exact ⟨_, .call h1 h2 h3, h4⟩
    · cases h
  · cases hh
  · cases hh
  · cases hh
  · cases hh
  · cases hh
  · split at h
    · rename_i c tv heq
      exact ⟨_, .pure heq h.1, h.2⟩
    · exact h.elim
  · simp only at h
    split at h
    · rename_i c tv heq
      exact ⟨_, .pure heq h.1, h.2⟩
    · exact h.elim
  · simp only [Bool.false_and] at h
    split at h
    · rename_i c tv heq
      exact ⟨_, .pure heq h.1, h.2⟩
    · exact h.elim
  · cases hh
  · cases hh
  · split at h
    · rename_i c tv heq
      exact ⟨_, .pure heq h.1, h.2⟩
    · exact h.elim

section
variable {P : Program} {T : Nat → Option TI} {w0 : World} {M0 : Nat → Prop} {ρ : Nat → Nat} {H : List (Bool × List AV)} {w : World} {ev : Operand → TV}

theorem hop_wp (hT : TOk P T) (hH : HOk w0 M0 ρ H w) {o : Oper} (hq : (∀ b, MM M0 ρ H b → b < w.heap.size) ∨ quiet o.op = true) {tv : TV} {a : Act} {K : Act → World → Prop} {Q : Exit → Act → World → Prop} (h : Hop P T ev H o.op tv) (hev : ∀ x ∈ o.op.operands, RepT ρ H (MM M0 ρ H) w (ev x) (a.eval x))
    (hK : ∀ v w', Grow w w' → RepT ρ H (MM M0 ρ H) w' tv v → K (a.put o.dst v) w') : o.wp P a w K Q := by
  obtain ⟨dst, op, ty, pos, after, guard⟩ := o
  simp only at h hev hK hq
  cases h with
  | pick hc =>
    rename_i c x y t
    have h1 := hev c (by simp [Op.operands])
    have h2 := hev x (by simp [Op.operands])
    have h3 := hev y (by simp [Op.operands])
    rw [hc] at h1
    have h1 : a.eval c = .bool t := h1
    refine wp_value (v := if t then a.eval x else a.eval y) (w' := w) ?_ (hK _ _ (Grow.refl _) ?_)
    · simp only [execOp, Sem.run_bind, h1, asBool, Sem.run_pure, Result.andThen_ok]
    · cases t
      · exact h3
      · exact h2
  | call hf ha hs =>
    rename_i f args tys g x r
    have h1 := hev f (by simp [Op.operands, Call.operands])
    rw [hf] at h1
    have h1 : a.eval f = .func (.func g) #[] #[] := h1
    have h2 := args_rep (ea := a.eval) ha (fun y hy => rd_rep hH (hev y (by simp only [Op.operands, Call.operands]; simp; right; simpa using hy)))
    obtain ⟨⟨fn, f1, f2, f3⟩, hs⟩ := hs
    have hl : ∀ b, MM M0 ρ H b → b < w.heap.size := by
      rcases hq with hl | hq
      · exact hl
      · cases hq
    have hcall := hs (MM M0 ρ H) w _ hl h2
    have hrun : (execOp a.eval ⟨dst, .call ⟨.value f, args, tys⟩, ty, pos, after, guard⟩).run P w = .ok (.enter g (args.toList.map a.eval).toArray) w := by
      simp only [execOp, Sem.run_bind, resolve, h1, Deferred.ofValue, Sem.run_pure, Result.andThen_ok, invoke, callFunc, run_program, f1, f2, f3]
      simp
      apply Array.ext'; simp
    unfold Oper.wp
    rw [hrun]
    refine hcall.mono ?_
    rintro e w' ⟨v, rfl, h4, h5⟩
    exact hK v w' h5 h4
  | pure hp hc =>
    obtain ⟨v, w', h1, h2, h3⟩ := hopF_run (o := ⟨dst, op, ty, pos, after, guard⟩) hT hH hq hp hc hev
    exact wp_value h1 (hK v w' h2 h3)

theorem St.put {N : Nat} {E : AE} {a : Act} (h : St w0 M0 N E a w ρ) {w' : World} (g : Grow w w') {d : Option Tmp} (hd : ∀ t, d = some t → t < N) {tv : TV} {v : Value} (hv : RepT ρ E.h (MM M0 ρ E.h) w' tv v) :
    St w0 M0 N ⟨putT d tv E.t, E.h⟩ (a.put d v) w' ρ := by
  refine ⟨h.heap.grown g, ?_, ?_, fun t => ?_⟩
  · cases d <;> exact h.defers
  · cases d
    · exact h.size
    · simp [Act.put, h.size]
  · have h1 := (h.tmp t).grow g
    cases d with
    | none => exact h1
    | some d =>
      have hdN := hd d rfl
      have hs := h.size
      simp only [putT, lk, Act.put]
      by_cases hdt : d = t
      · subst hdt
        have : (a.tmps.setIfInBounds d v).getD d undef = v := by
          rw [Array.getD_eq_getD_getElem?, Array.getElem?_setIfInBounds_self_of_lt (by rw [hs]; exact hdN)]
          rfl
        rw [if_pos rfl, this]
        exact hv
      · have : (a.tmps.setIfInBounds d v).getD t undef = a.tmps.getD t undef := by
          rw [Array.getD_eq_getD_getElem?, Array.getElem?_setIfInBounds_ne hdt, Array.getD_eq_getD_getElem?]
        rw [if_neg hdt, this]
        exact h1

theorem St.evs {N : Nat} {E : AE} {a : Act} (h : St w0 M0 N E a w ρ) (x : Operand) : RepT ρ E.h (MM M0 ρ E.h) w (evT E.t x) (a.eval x) := by
  cases x with
  | tmp t => exact h.tmp t
  | const v => exact constT_rep v
  | global g => exact repT_one
  | func f => exact repT_one
theorem St.evr {N : Nat} {E : AE} {a : Act} (h : St w0 M0 N E a w ρ) (x : Operand) : RepT ρ E.h (MM M0 ρ E.h) w (rd E.h (evT E.t x)) (a.eval x) := rd_rep h.heap (h.evs x)
end
end Go.Proofs.Ythjojkkapboonaa
