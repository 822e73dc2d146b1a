/- The words by which a text is gone through. No program in sight. -/
import Derived.Test.YthjojkkapboonaaBI
namespace Go.Proofs.Ythjojkkapboonaa
set_option linter.unusedSimpArgs false
set_option linter.unusedVariables false
open Go.RowKit

section
variable {P : Program} {T : Nat → Option TI} {Q : Exit → AE → Prop} {t : List (Nat × TV)} {h : List (Bool × List AV)} {N K : AE → Prop} {d : Option Tmp} {fz : List Nat × List (Nat × Nat)} {wf : Bool}

theorem asB_take (l : List UInt8) (n : Nat) : asB ((bytesL l).take n) = .bs (l.take n) := by
  rw [show (bytesL l).take n = bytesL (l.take n) by simp [bytesL], asB_bytes]
theorem bytesL_set (l : List UInt8) (i : Nat) (v : Int) (h0 : 0 ≤ v) (h1 : v ≤ 255) : (bytesL l).set i (.one (.int .u8 v)) = bytesL (l.set i (u8 v)) := by
  have : byteA (u8 v) = .one (.int .u8 v) := by
    simp only [byteA, AV.one.injEq, Value.int.injEq, true_and]
    rw [u8_toNat]
    omega
  rw [bytesL, bytesL, List.map_set, this]
theorem bytesL_drop (l : List UInt8) (i : Nat) (h : i < l.length) : (bytesL l).drop i = .one (.int .u8 ((l.getD i 0).toNat : Int)) :: (bytesL l).drop (i + 1) := by
  rw [List.drop_eq_getElem_cons (by rw [bytesL_len]; exact h)]
  simp [bytesL, byteA, List.getD, h]
/-- A test that is not decided. -/
def AIf (c : Bool) (E : AE) (A B : AE → Prop) : Prop := (c = true → A E) ∧ (c = false → B E)
theorem AIf.intro {c : Bool} {E : AE} {A B : AE → Prop} (h : c = true → A E) (h' : c = false → B E) : AIf c E A B := ⟨h, h'⟩
theorem if_t (A B : AE → Prop) : AIf true ⟨t, h⟩ A B = A ⟨t, h⟩ := by simp [AIf]
theorem if_f (A B : AE → Prop) : AIf false ⟨t, h⟩ A B = B ⟨t, h⟩ := by simp [AIf]
theorem ac_skip : acode P T fz .skip Q ⟨t, h⟩ = Q .normal ⟨t, h⟩ := rfl
theorem ac_exit (id : Nat) : acode P T fz (.exit id) Q ⟨t, h⟩ = Q (.exit id) ⟨t, h⟩ := rfl
theorem ac_ret : acode P T fz .ret Q ⟨t, h⟩ = Q .ret ⟨t, h⟩ := rfl
theorem ac_seq (x y : Code) : acode P T fz (.seq x y) Q ⟨t, h⟩ = acode P T fz x (AThen (acode P T fz y Q) Q) ⟨t, h⟩ := rfl
theorem ac_block (id : Nat) (c : Code) : acode P T fz (.block id c) Q ⟨t, h⟩ = acode P T fz c (ABlock id Q) ⟨t, h⟩ := rfl
theorem ac_cond (c : Operand) (x y : Code) : acode P T fz (.cond c x y) Q ⟨t, h⟩ = match evT t c with | .v (.one (.bool b)) => AIf b ⟨t, h⟩ (acode P T fz x Q) (acode P T fz y Q) | _ => False := rfl
theorem ac_region (id : Nat) (l : List Oper) (dr : Bool) : acode P T fz (.region id ⟨l⟩ dr) Q ⟨t, h⟩ = aopsD P T ⟨l⟩ (Q .normal) (if dr then tlN fz.2 id l.length else 0) l ⟨t, frz (fz.1.contains id) h⟩ := rfl
theorem ac_loop (c : Code) : acode P T fz (.loop c) Q ⟨t, h⟩ = ALoop (acode P T fz c) Q ⟨t, h⟩ := rfl
theorem at_normal (N : AE → Prop) : AThen N Q .normal ⟨t, h⟩ = N ⟨t, h⟩ := rfl
theorem at_ret (N : AE → Prop) : AThen N Q .ret ⟨t, h⟩ = Q .ret ⟨t, h⟩ := rfl
theorem at_exit (N : AE → Prop) (i : Nat) : AThen N Q (.exit i) ⟨t, h⟩ = Q (.exit i) ⟨t, h⟩ := rfl
theorem ab_normal (id : Nat) : ABlock id Q .normal ⟨t, h⟩ = Q .normal ⟨t, h⟩ := rfl
theorem ab_ret (id : Nat) : ABlock id Q .ret ⟨t, h⟩ = Q .ret ⟨t, h⟩ := rfl
theorem ab_exit (id i : Nat) : ABlock id Q (.exit i) ⟨t, h⟩ = if i = id then Q .normal ⟨t, h⟩ else Q (.exit i) ⟨t, h⟩ := rfl
theorem ae_normal (rs : List ResultVar) (R : AV → Prop) : AEnd T rs R .normal ⟨t, h⟩ = match resL T ⟨t, frz true h⟩ rs with | some (c, [x]) => c ∧ R x | some (c, xs) => c ∧ R (.tup xs) | none => False := rfl
theorem ae_ret (rs : List ResultVar) (R : AV → Prop) : AEnd T rs R .ret ⟨t, h⟩ = match resL T ⟨t, frz true h⟩ rs with | some (c, [x]) => c ∧ R x | some (c, xs) => c ∧ R (.tup xs) | none => False := rfl

theorem aw_normal (rs : List ResultVar) (e k : Nat) (a : AV) : AEndW rs e k a .normal ⟨t, h⟩ = WRes ⟨t, h⟩ e k a rs := rfl
theorem aw_ret (rs : List ResultVar) (e k : Nat) (a : AV) : AEndW rs e k a .ret ⟨t, h⟩ = WRes ⟨t, h⟩ e k a rs := rfl
theorem ao_nil (all : Array Oper) (k : Nat) : aops P T all K k [] ⟨t, h⟩ = K ⟨t, h⟩ := rfl
theorem ao_cons (all : Array Oper) (k : Nat) (op : Op) (ty : TypeId) (pos : String) (af : Array Edge) (os : List Oper) : aops P T all K k (⟨d, op, ty, pos, af, none⟩ :: os) ⟨t, h⟩ = AStep (k == 0) P T d ⟨t, h⟩ (aops P T all K (k - 1) os) op := rfl
def gdst : List Oper → Nat → Option Tmp
  | [], _ => none
  | o :: _, 0 => o.dst
  | _ :: os, n + 1 => gdst os n
theorem gdst_eq : ∀ (l : List Oper) (g : Nat), gdst l g = (l[g]?).bind (·.dst)
  | [], g => by simp [gdst]
  | o :: _, 0 => by simp [gdst]
  | _ :: os, n + 1 => by simpa [gdst] using gdst_eq os n
/-- The value that a guard looks at. -/
def GV (ts : List (Nat × TV)) : Option Tmp → TV | some d => lk ts d | none => .v .any
def stepS (wf : Bool) (P : Program) (T : Nat → Option TI) (d : Option Tmp) (op : Op) (N : AE → Prop) (E : AE) : Prop := AStep wf P T d E N op
def skipS (d : Option Tmp) (N : AE → Prop) (E : AE) : Prop := N ⟨putT d (.v (.one (.tuple #[]))) E.t, E.h⟩
def pickS (d : Option Tmp) (x : Operand) (N : AE → Prop) (E : AE) : Prop := N ⟨putT d (evT E.t x) E.t, E.h⟩
theorem st_at (op : Op) : stepS wf P T d op N ⟨t, h⟩ = AStep wf P T d ⟨t, h⟩ N op := rfl
theorem sk_at : skipS d N ⟨t, h⟩ = N ⟨putT d (.v (.one (.tuple #[]))) t, h⟩ := rfl
theorem pk_at (x : Operand) : pickS d x N ⟨t, h⟩ = N ⟨putT d (evT t x) t, h⟩ := rfl
theorem gv_eq (all : List Oper) (g : Nat) : gval ⟨all⟩ t g = GV t (gdst all g) := by
  unfold gval
  rw [gdst_eq]
  simp only [List.getElem?_toArray]
  cases (all[g]?).bind (·.dst) <;> rfl
theorem ao_guard_t (all : List Oper) (k : Nat) (op : Op) (ty : TypeId) (pos : String) (af : Array Edge) (os : List Oper) (g : Nat) : aops P T ⟨all⟩ K k (⟨d, op, ty, pos, af, some (g, true)⟩ :: os) ⟨t, h⟩ =
    match GV t (gdst all g) with
    | .v (.one (.bool c)) => AIf c ⟨t, h⟩ (stepS (k == 0) P T d op (aops P T ⟨all⟩ K (k - 1) os)) (skipS d (aops P T ⟨all⟩ K (k - 1) os))
    | .v (.one (.tuple _)) => skipS d (aops P T ⟨all⟩ K (k - 1) os) ⟨t, h⟩
    | _ => False := by
  rw [← gv_eq]
  rfl
theorem ao_guard_f (all : List Oper) (k : Nat) (op : Op) (ty : TypeId) (pos : String) (af : Array Edge) (os : List Oper) (g : Nat) : aops P T ⟨all⟩ K k (⟨d, op, ty, pos, af, some (g, false)⟩ :: os) ⟨t, h⟩ =
    match GV t (gdst all g) with
    | .v (.one (.bool c)) => AIf c ⟨t, h⟩ (skipS d (aops P T ⟨all⟩ K (k - 1) os)) (stepS (k == 0) P T d op (aops P T ⟨all⟩ K (k - 1) os))
    | .v (.one (.tuple _)) => skipS d (aops P T ⟨all⟩ K (k - 1) os) ⟨t, h⟩
    | _ => False := by
  rw [← gv_eq]
  show (match gval ⟨all⟩ t g with | .v (.one (.bool c)) => _ | .v (.one (.tuple _)) => _ | _ => False) = _
  cases gval ⟨all⟩ t g with
  | v a => cases a with
    | one v => cases v with
      | bool c => exact propext ⟨fun ⟨h1, h2⟩ => ⟨h2, h1⟩, fun ⟨h1, h2⟩ => ⟨h2, h1⟩⟩
      | _ => rfl
    | _ => rfl
  | _ => rfl

section
variable {NB : List (Bool × List AV) → AE → Prop} {pd : List (Bool × List AV)}
theorem bs_alloc (ty : TypeId) : BStep P T d ⟨t, h⟩ pd NB (.alloc ty) = match T ty with | some ti => NB (pd ++ [(true, ti.zero)]) ⟨putT d (.p (h.length + pd.length) 0) t, h⟩ | none => False := rfl
theorem bs_box (ty : TypeId) (x : Operand) : BStep P T d ⟨t, h⟩ pd NB (.box ty x) = match rd h (evT t x) with | .v a => (match cellsF a with | some cs => NB (pd ++ [(true, cs)]) ⟨putT d (.p (h.length + pd.length) 0) t, h⟩ | none => False) | _ => False := rfl
theorem bs_pick (c x y : Operand) : BStep P T d ⟨t, h⟩ pd NB (.pick c x y) = AStep false P T d ⟨t, h⟩ (NB pd) (.pick c x y) := rfl
theorem bs_call (f : Operand) (args : Array Operand) (tys : Array TypeId) : BStep P T d ⟨t, h⟩ pd NB (.call ⟨.value f, args, tys⟩) = AStep false P T d ⟨t, h⟩ (NB pd) (.call ⟨.value f, args, tys⟩) := rfl
theorem bs_bi (b : Builtin) (args : Array Operand) (tys : Array TypeId) : BStep P T d ⟨t, h⟩ pd NB (.call ⟨.builtin b, args, tys⟩) = AStep false P T d ⟨t, h⟩ (NB pd) (.call ⟨.builtin b, args, tys⟩) := rfl
theorem bs_move (x : Operand) : BStep P T d ⟨t, h⟩ pd NB (.move x) = AStep false P T d ⟨t, h⟩ (NB pd) (.move x) := rfl
theorem bs_assign (x : Operand) : BStep P T d ⟨t, h⟩ pd NB (.assign x) = AStep false P T d ⟨t, h⟩ (NB pd) (.assign x) := rfl
theorem bs_nilCheck (x : Operand) : BStep P T d ⟨t, h⟩ pd NB (.nilCheck x) = AStep false P T d ⟨t, h⟩ (NB pd) (.nilCheck x) := rfl
theorem bs_binOp (op : BinOp) (ty : TypeId) (x y : Operand) (yt : TypeId) : BStep P T d ⟨t, h⟩ pd NB (.binOp op ty x y yt) = AStep false P T d ⟨t, h⟩ (NB pd) (.binOp op ty x y yt) := rfl
theorem bs_unOp (op : UnOp) (ty : TypeId) (x : Operand) : BStep P T d ⟨t, h⟩ pd NB (.unOp op ty x) = AStep false P T d ⟨t, h⟩ (NB pd) (.unOp op ty x) := rfl
theorem bs_convert (s e : TypeId) (x : Operand) : BStep P T d ⟨t, h⟩ pd NB (.convert s e x) = AStep false P T d ⟨t, h⟩ (NB pd) (.convert s e x) := rfl
theorem bs_load (ty : TypeId) (x : Operand) : BStep P T d ⟨t, h⟩ pd NB (.load ty x) = AStep false P T d ⟨t, h⟩ (NB pd) (.load ty x) := rfl
theorem bs_fieldAddr (ty : TypeId) (x : Operand) (f : Nat) : BStep P T d ⟨t, h⟩ pd NB (.fieldAddr ty x f) = AStep false P T d ⟨t, h⟩ (NB pd) (.fieldAddr ty x f) := rfl
theorem bs_field (ty : TypeId) (x : Operand) (f : Nat) : BStep P T d ⟨t, h⟩ pd NB (.field ty x f) = AStep false P T d ⟨t, h⟩ (NB pd) (.field ty x f) := rfl
theorem bs_indexAddr (ty : TypeId) (x i : Operand) : BStep P T d ⟨t, h⟩ pd NB (.indexAddr ty x i) = AStep false P T d ⟨t, h⟩ (NB pd) (.indexAddr ty x i) := rfl
theorem bs_index (ty : TypeId) (x i : Operand) : BStep P T d ⟨t, h⟩ pd NB (.index ty x i) = AStep false P T d ⟨t, h⟩ (NB pd) (.index ty x i) := rfl
theorem bs_extract (x : Operand) (i : Nat) : BStep P T d ⟨t, h⟩ pd NB (.extract x i) = AStep false P T d ⟨t, h⟩ (NB pd) (.extract x i) := rfl
theorem bs_build (ty : TypeId) (ps : Array (Nat × Operand)) : BStep P T d ⟨t, h⟩ pd NB (.build ty ps) = AStep false P T d ⟨t, h⟩ (NB pd) (.build ty ps) := rfl
theorem bs_makeSlice (ty : TypeId) (x y : Operand) : BStep P T d ⟨t, h⟩ pd NB (.makeSlice ty x y) = AStep false P T d ⟨t, h⟩ (NB pd) (.makeSlice ty x y) := rfl
theorem bs_buildSlice (ty : TypeId) (n : Nat) (ps : Array (Nat × Operand)) : BStep P T d ⟨t, h⟩ pd NB (.buildSlice ty n ps) = AStep false P T d ⟨t, h⟩ (NB pd) (.buildSlice ty n ps) := rfl
theorem bs_slice (ty : TypeId) (x : Operand) (lo hi mx : Option Operand) : BStep P T d ⟨t, h⟩ pd NB (.slice ty x lo hi mx) = AStep false P T d ⟨t, h⟩ (NB pd) (.slice ty x lo hi mx) := rfl
theorem bs_makeInterface (ty : TypeId) (x : Operand) : BStep P T d ⟨t, h⟩ pd NB (.makeInterface ty x) = AStep false P T d ⟨t, h⟩ (NB pd) (.makeInterface ty x) := rfl
theorem bs_typeAssert (x : Operand) (s ty : TypeId) (ok : Bool) : BStep P T d ⟨t, h⟩ pd NB (.typeAssert x s ty ok) = AStep false P T d ⟨t, h⟩ (NB pd) (.typeAssert x s ty ok) := rfl
theorem ob_zero (all : Array Oper) (os : List Oper) : aopsB P T all K 0 pd os ⟨t, h⟩ = aops P T all K 0 os ⟨t, h ++ pd⟩ := by cases os <;> rfl
theorem ob_cons (all : Array Oper) (n : Nat) (op : Op) (ty : TypeId) (pos : String) (af : Array Edge) (os : List Oper) : aopsB P T all K (n + 1) pd (⟨d, op, ty, pos, af, none⟩ :: os) ⟨t, h⟩ = BStep P T d ⟨t, h⟩ pd (fun pd => aopsB P T all K n pd os) op := rfl
theorem ob_guard_t (all : List Oper) (n : Nat) (op : Op) (ty : TypeId) (pos : String) (af : Array Edge) (os : List Oper) (g : Nat) : aopsB P T ⟨all⟩ K (n + 1) pd (⟨d, op, ty, pos, af, some (g, true)⟩ :: os) ⟨t, h⟩ =
    match GV t (gdst all g) with
    | .v (.one (.bool c)) => AIf c ⟨t, h⟩ (stepS false P T d op (aopsB P T ⟨all⟩ K n pd os)) (skipS d (aopsB P T ⟨all⟩ K n pd os))
    | .v (.one (.tuple _)) => skipS d (aopsB P T ⟨all⟩ K n pd os) ⟨t, h⟩
    | _ => False := by
  rw [← gv_eq]
  rfl
theorem ob_guard_f (all : List Oper) (n : Nat) (op : Op) (ty : TypeId) (pos : String) (af : Array Edge) (os : List Oper) (g : Nat) : aopsB P T ⟨all⟩ K (n + 1) pd (⟨d, op, ty, pos, af, some (g, false)⟩ :: os) ⟨t, h⟩ =
    match GV t (gdst all g) with
    | .v (.one (.bool c)) => AIf c ⟨t, h⟩ (skipS d (aopsB P T ⟨all⟩ K n pd os)) (stepS false P T d op (aopsB P T ⟨all⟩ K n pd os))
    | .v (.one (.tuple _)) => skipS d (aopsB P T ⟨all⟩ K n pd os) ⟨t, h⟩
    | _ => False := by
  rw [← gv_eq]
  show (match gval ⟨all⟩ t g with | .v (.one (.bool c)) => _ | .v (.one (.tuple _)) => _ | _ => False) = _
  cases gval ⟨all⟩ t g with
  | v a => cases a with
    | one v => cases v with
      | bool c => exact propext ⟨fun ⟨h1, h2⟩ => ⟨h2, h1⟩, fun ⟨h1, h2⟩ => ⟨h2, h1⟩⟩
      | _ => rfl
    | _ => rfl
  | _ => rfl
end
theorem oa_zero (all : Array Oper) (k : Nat) (op : Op) (ty : TypeId) (pos : String) (af : Array Edge) (os : List Oper) : aopsA P T all K 0 k (⟨d, op, ty, pos, af, none⟩ :: os) ⟨t, h⟩ = (rowAt t op ∧ aops P T all K k (⟨d, op, ty, pos, af, none⟩ :: os) ⟨t, h⟩) := rfl
theorem oa_cons (all : Array Oper) (j k : Nat) (op : Op) (ty : TypeId) (pos : String) (af : Array Edge) (os : List Oper) : aopsA P T all K (j + 1) k (⟨d, op, ty, pos, af, none⟩ :: os) ⟨t, h⟩ = AStep false P T d ⟨t, h⟩ (aopsA P T all K j (k - 1) os) op := rfl
theorem as_pick (c x y : Operand) : AStep wf P T d ⟨t, h⟩ N (.pick c x y) = match evT t c with | .v (.one (.bool b)) => AIf b ⟨t, h⟩ (pickS d x N) (pickS d y N) | _ => False := rfl
theorem as_call (f : Operand) (args : List Operand) (tys : Array TypeId) : AStep wf P T d ⟨t, h⟩ N (.call ⟨.value f, ⟨args⟩, tys⟩) = ACall wf P (evT t f) (argsF (fun x => rd (frzW wf (evT t) args h) (evT t x)) args) d ⟨t, frzW wf (evT t) args h⟩ N := rfl
theorem as_box (ty : TypeId) (x : Operand) : AStep wf P T d ⟨t, h⟩ N (.box ty x) = match heapF T ⟨t, h⟩ (.box ty x) with | some (c, tv, h') => c ∧ N ⟨putT d tv t, h'⟩ | none => False := rfl
theorem as_alloc (ty : TypeId) : AStep wf P T d ⟨t, h⟩ N (.alloc ty) = match heapF T ⟨t, h⟩ (.alloc ty) with | some (c, tv, h') => c ∧ N ⟨putT d tv t, h'⟩ | none => False := rfl
theorem as_store (ty : TypeId) (x y : Operand) : AStep wf P T d ⟨t, h⟩ N (.store ty x y) = match heapF T ⟨t, frzW wf (evT t) [y] h⟩ (.store ty x y) with | some (c, tv, h') => c ∧ N ⟨putT d tv t, h'⟩ | none => False := rfl
/-- The others. -/
def HK (N : AE → Prop) (d : Option Tmp) (t : List (Nat × TV)) (h : List (Bool × List AV)) : Option (Prop × TV) → Prop
  | some (c, tv) => c ∧ N ⟨putT d tv t, h⟩
  | none => False
theorem hk_some (c : Prop) (tv : TV) : HK N d t h (some (c, tv)) = (c ∧ N ⟨putT d tv t, h⟩) := rfl
theorem as_move (x : Operand) : AStep wf P T d ⟨t, h⟩ N (.move x) = N ⟨putT d (evT t x) t, h⟩ := by simp [AStep, hopF]
theorem as_assign (x : Operand) : AStep wf P T d ⟨t, h⟩ N (.assign x) = N ⟨putT d (evT t x) t, h⟩ := by simp [AStep, hopF]
theorem as_nilCheck (x : Operand) : AStep wf P T d ⟨t, h⟩ N (.nilCheck x) = HK N d t h (hopG T (fun x => rd h (evT t x)) h (.nilCheck x)) := by unfold HK; rfl
theorem as_binOp (op : BinOp) (ty : TypeId) (x y : Operand) (yt : TypeId) : AStep wf P T d ⟨t, h⟩ N (.binOp op ty x y yt) = HK N d t h (hopG T (fun x => rd h (evT t x)) h (.binOp op ty x y yt)) := by unfold HK; rfl
theorem as_unOp (op : UnOp) (ty : TypeId) (x : Operand) : AStep wf P T d ⟨t, h⟩ N (.unOp op ty x) = HK N d t h (hopG T (fun x => rd h (evT t x)) h (.unOp op ty x)) := by unfold HK; rfl
theorem as_convert (s e : TypeId) (x : Operand) : AStep wf P T d ⟨t, h⟩ N (.convert s e x) = HK N d t h (hopG T (fun x => rd h (evT t x)) h (.convert s e x)) := by unfold HK; rfl
theorem as_copy (args : Array Operand) (tys : Array TypeId) : AStep wf P T d ⟨t, h⟩ N (.call ⟨.builtin .copy, args, tys⟩) = match heapF T ⟨t, h⟩ (.call ⟨.builtin .copy, args, tys⟩) with | some (c, tv, h') => c ∧ N ⟨putT d tv t, h'⟩ | none => False := rfl
theorem as_load (ty : TypeId) (x : Operand) : AStep wf P T d ⟨t, h⟩ N (.load ty x) = HK N d t h (hopG T (fun x => rd h (evT t x)) h (.load ty x)) := by unfold HK; rfl
theorem as_fieldAddr (ty : TypeId) (x : Operand) (f : Nat) : AStep wf P T d ⟨t, h⟩ N (.fieldAddr ty x f) = HK N d t h (hopG T (fun x => rd h (evT t x)) h (.fieldAddr ty x f)) := by unfold HK; rfl
theorem as_field (ty : TypeId) (x : Operand) (f : Nat) : AStep wf P T d ⟨t, h⟩ N (.field ty x f) = HK N d t h (hopG T (fun x => rd h (evT t x)) h (.field ty x f)) := by unfold HK; rfl
theorem as_indexAddr (ty : TypeId) (x i : Operand) : AStep wf P T d ⟨t, h⟩ N (.indexAddr ty x i) = HK N d t h (hopG T (fun x => rd h (evT t x)) h (.indexAddr ty x i)) := by unfold HK; rfl
theorem as_index (ty : TypeId) (x i : Operand) : AStep wf P T d ⟨t, h⟩ N (.index ty x i) = HK N d t h (hopG T (fun x => rd h (evT t x)) h (.index ty x i)) := by unfold HK; rfl
theorem as_extract (x : Operand) (i : Nat) : AStep wf P T d ⟨t, h⟩ N (.extract x i) = HK N d t h (hopG T (fun x => rd h (evT t x)) h (.extract x i)) := by unfold HK; rfl
theorem as_build (ty : TypeId) (ps : List (Nat × Operand)) : AStep wf P T d ⟨t, h⟩ N (.build ty ⟨ps⟩) = HK N d t (frzW wf (evT t) (ps.map (·.2)) h) (hopG T (fun x => rd (frzW wf (evT t) (ps.map (·.2)) h) (evT t x)) (frzW wf (evT t) (ps.map (·.2)) h) (.build ty ⟨ps⟩)) := by unfold HK; rfl
theorem as_makeSlice_f (ty : TypeId) (x y : Operand) : AStep false P T d ⟨t, h⟩ N (.makeSlice ty x y) = HK N d t h (hopG T (fun x => rd h (evT t x)) h (.makeSlice ty x y)) := by unfold HK; rfl
theorem as_makeSlice (ty : TypeId) (x y : Operand) : AStep true P T d ⟨t, h⟩ N (.makeSlice ty x y) = match newF T ⟨t, h⟩ (.makeSlice ty x y) with | some (c, tv, h') => c ∧ N ⟨putT d tv t, h'⟩ | none => False := rfl
theorem as_buildSlice0 (ty : TypeId) : AStep true P T d ⟨t, h⟩ N (.buildSlice ty 0 ⟨[]⟩) = match newF T ⟨t, h⟩ (.buildSlice ty 0 ⟨[]⟩) with | some (c, tv, h') => c ∧ N ⟨putT d tv t, h'⟩ | none => False := rfl
theorem as_buildSlice0_f (ty : TypeId) : AStep false P T d ⟨t, h⟩ N (.buildSlice ty 0 ⟨[]⟩) = HK N d t h (hopG T (fun x => rd h (evT t x)) h (.buildSlice ty 0 ⟨[]⟩)) := by unfold HK; rfl
theorem as_buildSlice (ty : TypeId) (n : Nat) (p : Nat × Operand) (ps : List (Nat × Operand)) : AStep wf P T d ⟨t, h⟩ N (.buildSlice ty n ⟨p :: ps⟩) = HK N d t (frzW wf (evT t) ((p :: ps).map (·.2)) h) (hopG T (fun x => rd (frzW wf (evT t) ((p :: ps).map (·.2)) h) (evT t x)) (frzW wf (evT t) ((p :: ps).map (·.2)) h) (.buildSlice ty n ⟨p :: ps⟩)) := by
  have : (wf && isNew (.buildSlice ty n ⟨p :: ps⟩)) = false := by cases wf <;> cases n <;> rfl
  simp only [AStep, this]
  unfold HK
  rfl
theorem as_slice (ty : TypeId) (x : Operand) (lo hi mx : Option Operand) : AStep wf P T d ⟨t, h⟩ N (.slice ty x lo hi mx) = HK N d t h (hopG T (fun x => rd h (evT t x)) h (.slice ty x lo hi mx)) := by unfold HK; rfl
theorem as_append (x y : Operand) (ty ty' : TypeId) : AStep wf P T d ⟨t, h⟩ N (.call ⟨.builtin .append, ⟨[x, y]⟩, ⟨[ty, ty']⟩⟩) = match appF T ⟨t, h⟩ ty (evT t x) (rd h (evT t y)) with | some (c, tv, E') => (ty = ty' ∧ c) ∧ N ⟨putT d tv E'.t, E'.h⟩ | none => False := rfl
theorem as_makeInterface (ty : TypeId) (x : Operand) : AStep wf P T d ⟨t, h⟩ N (.makeInterface ty x) = HK N d t h (hopG T (fun x => rd h (evT t x)) h (.makeInterface ty x)) := by unfold HK; rfl
theorem as_typeAssert (x : Operand) (s ty : TypeId) (ok : Bool) : AStep wf P T d ⟨t, h⟩ N (.typeAssert x s ty ok) = HK N d t h (hopG T (fun x => rd h (evT t x)) h (.typeAssert x s ty ok)) := by unfold HK; rfl
theorem as_len (args : Array Operand) (tys : Array TypeId) : AStep wf P T d ⟨t, h⟩ N (.call ⟨.builtin .len, args, tys⟩) = HK N d t h (hopF T (evT t) h (.call ⟨.builtin .len, args, tys⟩)) := by unfold HK; rfl
theorem as_min (args : Array Operand) (tys : Array TypeId) : AStep wf P T d ⟨t, h⟩ N (.call ⟨.builtin .min, args, tys⟩) = HK N d t h (hopG T (fun x => rd h (evT t x)) h (.call ⟨.builtin .min, args, tys⟩)) := by unfold HK; rfl
theorem as_max (args : Array Operand) (tys : Array TypeId) : AStep wf P T d ⟨t, h⟩ N (.call ⟨.builtin .max, args, tys⟩) = HK N d t h (hopG T (fun x => rd h (evT t x)) h (.call ⟨.builtin .max, args, tys⟩)) := by unfold HK; rfl
theorem an_const (ty : TypeId) (y : Operand) : newF T ⟨t, h⟩ (.makeSlice ty (.const (.int .i64 0)) y) = match T ty, rd h (evT t y) with
    | some ⟨.slc e k, _, _⟩, .v (.one (.int _ m)) => (match T e with
      | some ⟨tk, sz, zs⟩ => some (sz = k ∧ zs.length = k ∧ okNone tk k ∧ 0 ≤ m ∧ m ≤ 1000000, .r h.length e k (noneA tk k), h ++ [(true, [])])
      | none => none)
    | _, _ => none := rfl
theorem an_tmp (ty : TypeId) (x : Nat) (y : Operand) : newF T ⟨t, h⟩ (.makeSlice ty (.tmp x) y) = match T ty, rd h (evT t (.tmp x)), rd h (evT t y) with
    | some ⟨.slc e k, _, _⟩, .v (.one (.int _ n)), .v (.one (.int _ m)) => (match T e with
      | some ⟨tk, sz, [zc]⟩ => (match tk, zc with
        | .int .u8, .one (.int .u8 z) => some (z = 0 ∧ sz = 1 ∧ k = 1 ∧ n = m ∧ 0 ≤ n ∧ n ≤ 1000000, .s h.length 0 n.toNat, h ++ [(true, bytesL (List.replicate n.toNat 0))])
        | _, zc => some (sz = 1 ∧ k = 1 ∧ n = m ∧ 0 ≤ n ∧ n ≤ 1000000, .s h.length 0 n.toNat, h ++ [(true, List.replicate n.toNat zc)]))
      | _ => none)
    | _, _, _ => none := by
  rfl
theorem an_none (ty : TypeId) : newF T ⟨t, h⟩ (.buildSlice ty 0 ⟨[]⟩) = match T ty with
    | some ⟨.slc e k, _, _⟩ => (match T e with
      | some ⟨tk, sz, zs⟩ => some (sz = k ∧ zs.length = k ∧ okNone tk k, .r h.length e k (noneA tk k), h ++ [(true, [])])
      | none => none)
    | _ => none := rfl
/-- Orders by a tree. -/
def NStep (wf : Bool) (P : Program) (T : Nat → Option TI) (l : List Oper) (N : AE → Prop) (E : AE) : Option Oper → Prop
  | some o => GStep wf P T ⟨l⟩ o E N
  | none => False
def FStep (P : Program) (T : Nat → Option TI) (l : List Oper) (N : AE → Prop) (E : AE) : Option Oper → Prop
  | some o => freeF (evT E.t) o.op ∧ GStep false P T ⟨l⟩ o E N
  | none => False
theorem af_nil (l : List Oper) : aopsO P T K l .nil true ⟨t, h⟩ = K ⟨t, h⟩ := by simp [aopsO]
theorem af_nil_f (l : List Oper) : aopsO P T K l .nil false ⟨t, h⟩ = True := by simp [aopsO]
theorem af_node (l : List Oper) (i : Nat) (c s : OF) (b : Bool) : aopsO P T K l (.node i c s) b ⟨t, h⟩ = (NStep true P T l (aopsO P T K l c true) ⟨t, h⟩ l[i]? ∧ aopsO P T K l s false ⟨t, h⟩) := by
  simp only [aopsO]
  cases l[i]? <;> rfl
theorem af_first (l : List Oper) (i : Nat) (c : OF) (b : Bool) : aopsO P T K l (.first i c) b ⟨t, h⟩ = FStep P T l (aopsO P T K l c true) ⟨t, h⟩ l[i]? := by
  simp only [aopsO]
  cases l[i]? <;> rfl
theorem an_step (l : List Oper) (op : Op) (ty : TypeId) (pos : String) (af : Array Edge) : NStep wf P T l N ⟨t, h⟩ (some ⟨d, op, ty, pos, af, none⟩) = AStep wf P T d ⟨t, h⟩ N op := rfl
theorem af_step (l : List Oper) (op : Op) (ty : TypeId) (pos : String) (af : Array Edge) : FStep P T l N ⟨t, h⟩ (some ⟨d, op, ty, pos, af, none⟩) = (freeF (evT t) op ∧ AStep false P T d ⟨t, h⟩ N op) := rfl
theorem gs_eq (l : List Oper) (op : Op) (ty : TypeId) (pos : String) (af : Array Edge) (g : Nat) (b : Bool) : GStep wf P T ⟨l⟩ ⟨d, op, ty, pos, af, some (g, b)⟩ ⟨t, h⟩ N =
    match GV t (gdst l g) with
    | .v (.one (.bool c)) => AIf (c == b) ⟨t, h⟩ (stepS wf P T d op N) (skipS d N)
    | .v (.one (.tuple _)) => skipS d N ⟨t, h⟩
    | _ => False := by
  rw [← gv_eq]
  unfold GStep
  simp only
  cases gval ⟨l⟩ t g with
  | v a => cases a with
    | one v => cases v with
      | bool c => cases c <;> cases b <;> simp [AIf, stepS, skipS]
      | _ => rfl
    | _ => rfl
  | _ => rfl
theorem an_step_g (l : List Oper) (op : Op) (ty : TypeId) (pos : String) (af : Array Edge) (g : Nat) (b : Bool) : NStep wf P T l N ⟨t, h⟩ (some ⟨d, op, ty, pos, af, some (g, b)⟩) =
    match GV t (gdst l g) with
    | .v (.one (.bool c)) => AIf (c == b) ⟨t, h⟩ (stepS wf P T d op N) (skipS d N)
    | .v (.one (.tuple _)) => skipS d N ⟨t, h⟩
    | _ => False := gs_eq l op ty pos af g b
theorem af_step_g (l : List Oper) (op : Op) (ty : TypeId) (pos : String) (af : Array Edge) (g : Nat) (b : Bool) : FStep P T l N ⟨t, h⟩ (some ⟨d, op, ty, pos, af, some (g, b)⟩) = (freeF (evT t) op ∧
    match GV t (gdst l g) with
    | .v (.one (.bool c)) => AIf (c == b) ⟨t, h⟩ (stepS false P T d op N) (skipS d N)
    | .v (.one (.tuple _)) => skipS d N ⟨t, h⟩
    | _ => False) := by
  show (_ ∧ _) = _
  rw [gs_eq]
theorem as_range (ty : TypeId) (x : Operand) : AStep wf P T d ⟨t, h⟩ N (.range ty x) = match T ty, evT t x with
    | some ⟨.str, _, _⟩, .v (.one (.string s)) => N ⟨putT d (.it h.length s 0) t, h ++ [(true, [])]⟩
    | _, _ => False := rfl
/-- The iterator at its end, or not. -/
def INext (d : Option Tmp) (n : Nat) (s : ByteArray) (pos : Nat) (E : AE) (N : AE → Prop) : Prop :=
  (pos < s.size → N ⟨putT d (.v (.tup [.one (.bool true), .one (.int .i64 (pos : Int)), .one (.int .i32 ((Utf8.decode s pos).1 : Int))])) (goT n s (pos + (Utf8.decode s pos).2) E.t), E.h⟩) ∧ (¬ pos < s.size → N ⟨putT d (.v (.tup [.one (.bool false)])) E.t, E.h⟩)
theorem as_next (x : Operand) : AStep wf P T d ⟨t, h⟩ N (.next x true) = match evT t x with
    | .it n s pos => (match h[n]? with
      | some (true, _) => INext d n s pos ⟨t, h⟩ N
      | _ => False)
    | _ => False := rfl
theorem in_some {n : Nat} {s : ByteArray} {pos : Nat} (hp : pos < s.size) (hN : N ⟨putT d (.v (.tup [.one (.bool true), .one (.int .i64 (pos : Int)), .one (.int .i32 ((Utf8.decode s pos).1 : Int))])) (goT n s (pos + (Utf8.decode s pos).2) t), h⟩) : INext d n s pos ⟨t, h⟩ N := ⟨fun _ => hN, fun h => absurd hp h⟩
theorem in_end {n : Nat} {s : ByteArray} {pos : Nat} (hp : ¬ pos < s.size) (hN : N ⟨putT d (.v (.tup [.one (.bool false)])) t, h⟩) : INext d n s pos ⟨t, h⟩ N := ⟨fun h => absurd h hp, fun _ => hN⟩
theorem fr_false : frz false h = h := by cases h <;> rfl
theorem fr_nil : frz true [] = [] := rfl
theorem fr_cons (b : Bool × List AV) : frz true (b :: h) = (false, b.2) :: frz true h := rfl
theorem argE_nil (i : Nat) : argE i [] = [] := rfl
theorem argE_cons (i : Nat) (a : AV) (as : List AV) : argE i (a :: as) = (i, .v a) :: argE (i + 1) as := rfl
end
end Go.Proofs.Ythjojkkapboonaa
