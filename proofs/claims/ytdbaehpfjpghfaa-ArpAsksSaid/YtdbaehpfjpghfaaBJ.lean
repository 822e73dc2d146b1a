/- The words by which a text is gone through. No program in sight. -/
import Derived.Test.YtdbaehpfjpghfaaBI
namespace Go.Proofs.Ytdbaehpfjpghfaa
set_option linter.unusedSimpArgs false
set_option linter.unusedVariables false
open Go.RowKit

section
variable {P : Program} {T : Nat → Option TI} {Q : Exit → AE → Prop} {t : List (Nat × TV)} {h : List (Bool × List AV)} {N K : AE → Prop} {d : Option Tmp} {fz : List Nat}

/-- A test that is not decided. -/
def AIf (c : Bool) (E : AE) (A B : AE → Prop) : Prop := (c = true → A E) ∧ (c = false → B E)
theorem AIf.intro {c : Bool} {E : AE} {A B : AE → Prop} (h : c = true → A E) (h' : c = false → B E) : AIf c E A B := ⟨h, h'⟩
theorem if_t (A B : AE → Prop) : AIf true ⟨t, h⟩ A B = A ⟨t, h⟩ := by simp [AIf]
theorem if_f (A B : AE → Prop) : AIf false ⟨t, h⟩ A B = B ⟨t, h⟩ := by simp [AIf]
theorem ac_skip : acode P T fz .skip Q ⟨t, h⟩ = Q .normal ⟨t, h⟩ := rfl
theorem ac_exit (id : Nat) : acode P T fz (.exit id) Q ⟨t, h⟩ = Q (.exit id) ⟨t, h⟩ := rfl
theorem ac_ret : acode P T fz .ret Q ⟨t, h⟩ = Q .ret ⟨t, h⟩ := rfl
theorem ac_seq (x y : Code) : acode P T fz (.seq x y) Q ⟨t, h⟩ = acode P T fz x (AThen (acode P T fz y Q) Q) ⟨t, h⟩ := rfl
theorem ac_block (id : Nat) (c : Code) : acode P T fz (.block id c) Q ⟨t, h⟩ = acode P T fz c (ABlock id Q) ⟨t, h⟩ := rfl
theorem ac_cond (c : Operand) (x y : Code) : acode P T fz (.cond c x y) Q ⟨t, h⟩ = match evT t c with | .v (.one (.bool b)) => AIf b ⟨t, h⟩ (acode P T fz x Q) (acode P T fz y Q) | _ => False := rfl
theorem ac_region (id : Nat) (l : List Oper) (dr : Bool) : acode P T fz (.region id ⟨l⟩ dr) Q ⟨t, h⟩ = aops P T ⟨l⟩ (Q .normal) l ⟨t, frz (fz.contains id) h⟩ := rfl
theorem ac_loop (c : Code) : acode P T fz (.loop c) Q ⟨t, h⟩ = ALoop (acode P T fz c) Q ⟨t, h⟩ := rfl
theorem at_normal (N : AE → Prop) : AThen N Q .normal ⟨t, h⟩ = N ⟨t, h⟩ := rfl
theorem at_ret (N : AE → Prop) : AThen N Q .ret ⟨t, h⟩ = Q .ret ⟨t, h⟩ := rfl
theorem at_exit (N : AE → Prop) (i : Nat) : AThen N Q (.exit i) ⟨t, h⟩ = Q (.exit i) ⟨t, h⟩ := rfl
theorem ab_normal (id : Nat) : ABlock id Q .normal ⟨t, h⟩ = Q .normal ⟨t, h⟩ := rfl
theorem ab_ret (id : Nat) : ABlock id Q .ret ⟨t, h⟩ = Q .ret ⟨t, h⟩ := rfl
theorem ab_exit (id i : Nat) : ABlock id Q (.exit i) ⟨t, h⟩ = if i = id then Q .normal ⟨t, h⟩ else Q (.exit i) ⟨t, h⟩ := rfl
theorem ae_normal (rs : List ResultVar) (R : AV → Prop) : AEnd T rs R .normal ⟨t, h⟩ = match resL T ⟨t, h⟩ rs with | some (c, [x]) => c ∧ R x | some (c, xs) => c ∧ R (.tup xs) | none => False := rfl
theorem ae_ret (rs : List ResultVar) (R : AV → Prop) : AEnd T rs R .ret ⟨t, h⟩ = match resL T ⟨t, h⟩ rs with | some (c, [x]) => c ∧ R x | some (c, xs) => c ∧ R (.tup xs) | none => False := rfl

theorem ao_nil (all : Array Oper) : aops P T all K [] ⟨t, h⟩ = K ⟨t, h⟩ := rfl
theorem ao_cons (all : Array Oper) (op : Op) (ty : TypeId) (pos : String) (af : Array Edge) (os : List Oper) : aops P T all K (⟨d, op, ty, pos, af, none⟩ :: os) ⟨t, h⟩ = AStep P T d ⟨t, h⟩ (aops P T all K os) op := rfl
def gdst : List Oper → Nat → Option Tmp
  | [], _ => none
  | o :: _, 0 => o.dst
  | _ :: os, n + 1 => gdst os n
theorem gdst_eq : ∀ (l : List Oper) (g : Nat), gdst l g = (l[g]?).bind (·.dst)
  | [], g => by simp [gdst]
  | o :: _, 0 => by simp [gdst]
  | _ :: os, n + 1 => by simpa [gdst] using gdst_eq os n
/-- The value that a guard looks at. -/
def GV (ts : List (Nat × TV)) : Option Tmp → TV | some d => lk ts d | none => .v .any
def stepS (P : Program) (T : Nat → Option TI) (d : Option Tmp) (op : Op) (N : AE → Prop) (E : AE) : Prop := AStep P T d E N op
def skipS (d : Option Tmp) (N : AE → Prop) (E : AE) : Prop := N ⟨putT d (.v .any) E.t, E.h⟩
def pickS (d : Option Tmp) (x : Operand) (N : AE → Prop) (E : AE) : Prop := N ⟨putT d (evT E.t x) E.t, E.h⟩
theorem st_at (op : Op) : stepS P T d op N ⟨t, h⟩ = AStep P T d ⟨t, h⟩ N op := rfl
theorem sk_at : skipS d N ⟨t, h⟩ = N ⟨putT d (.v .any) t, h⟩ := rfl
theorem pk_at (x : Operand) : pickS d x N ⟨t, h⟩ = N ⟨putT d (evT t x) t, h⟩ := rfl
theorem gv_eq (all : List Oper) (g : Nat) : gval ⟨all⟩ t g = GV t (gdst all g) := by
  unfold gval
  rw [gdst_eq]
  simp only [List.getElem?_toArray]
  cases (all[g]?).bind (·.dst) <;> rfl
theorem ao_guard_t (all : List Oper) (op : Op) (ty : TypeId) (pos : String) (af : Array Edge) (os : List Oper) (g : Nat) : aops P T ⟨all⟩ K (⟨d, op, ty, pos, af, some (g, true)⟩ :: os) ⟨t, h⟩ =
    match GV t (gdst all g) with
    | .v (.one (.bool c)) => AIf c ⟨t, h⟩ (stepS P T d op (aops P T ⟨all⟩ K os)) (skipS d (aops P T ⟨all⟩ K os))
    | _ => False := by
  rw [← gv_eq]
  rfl
theorem ao_guard_f (all : List Oper) (op : Op) (ty : TypeId) (pos : String) (af : Array Edge) (os : List Oper) (g : Nat) : aops P T ⟨all⟩ K (⟨d, op, ty, pos, af, some (g, false)⟩ :: os) ⟨t, h⟩ =
    match GV t (gdst all g) with
    | .v (.one (.bool c)) => AIf c ⟨t, h⟩ (skipS d (aops P T ⟨all⟩ K os)) (stepS P T d op (aops P T ⟨all⟩ K os))
    | _ => False := by
  rw [← gv_eq]
  show (match gval ⟨all⟩ t g with | .v (.one (.bool c)) => _ | _ => False) = _
  cases gval ⟨all⟩ t g with
  | v a => cases a with
    | one v => cases v with
      | bool c => exact propext ⟨fun ⟨h1, h2⟩ => ⟨h2, h1⟩, fun ⟨h1, h2⟩ => ⟨h2, h1⟩⟩
      | _ => rfl
    | _ => rfl
  | _ => rfl

theorem as_pick (c x y : Operand) : AStep P T d ⟨t, h⟩ N (.pick c x y) = match evT t c with | .v (.one (.bool b)) => AIf b ⟨t, h⟩ (pickS d x N) (pickS d y N) | _ => False := rfl
theorem as_call (f : Operand) (args : List Operand) (tys : Array TypeId) : AStep P T d ⟨t, h⟩ N (.call ⟨.value f, ⟨args⟩, tys⟩) = ACall P (evT t f) (argsF (evT t) args) d ⟨t, h⟩ N := rfl
theorem as_box (ty : TypeId) (x : Operand) : AStep P T d ⟨t, h⟩ N (.box ty x) = match heapF T ⟨t, h⟩ (.box ty x) with | some (c, tv, h') => c ∧ N ⟨putT d tv t, h'⟩ | none => False := rfl
theorem as_alloc (ty : TypeId) : AStep P T d ⟨t, h⟩ N (.alloc ty) = match heapF T ⟨t, h⟩ (.alloc ty) with | some (c, tv, h') => c ∧ N ⟨putT d tv t, h'⟩ | none => False := rfl
theorem as_store (ty : TypeId) (x y : Operand) : AStep P T d ⟨t, h⟩ N (.store ty x y) = match heapF T ⟨t, h⟩ (.store ty x y) with | some (c, tv, h') => c ∧ N ⟨putT d tv t, h'⟩ | none => False := rfl
/-- The others. -/
def HK (N : AE → Prop) (d : Option Tmp) (t : List (Nat × TV)) (h : List (Bool × List AV)) : Option (Prop × TV) → Prop
  | some (c, tv) => c ∧ N ⟨putT d tv t, h⟩
  | none => False
theorem hk_some (c : Prop) (tv : TV) : HK N d t h (some (c, tv)) = (c ∧ N ⟨putT d tv t, h⟩) := rfl
theorem as_move (x : Operand) : AStep P T d ⟨t, h⟩ N (.move x) = N ⟨putT d (evT t x) t, h⟩ := by simp [AStep, hopF]
theorem as_assign (x : Operand) : AStep P T d ⟨t, h⟩ N (.assign x) = N ⟨putT d (evT t x) t, h⟩ := by simp [AStep, hopF]
theorem as_nilCheck (x : Operand) : AStep P T d ⟨t, h⟩ N (.nilCheck x) = HK N d t h (hopF T (evT t) h (.nilCheck x)) := by unfold HK; rfl
theorem as_binOp (op : BinOp) (ty : TypeId) (x y : Operand) (yt : TypeId) : AStep P T d ⟨t, h⟩ N (.binOp op ty x y yt) = HK N d t h (hopF T (evT t) h (.binOp op ty x y yt)) := by unfold HK; rfl
theorem as_unOp (op : UnOp) (ty : TypeId) (x : Operand) : AStep P T d ⟨t, h⟩ N (.unOp op ty x) = HK N d t h (hopF T (evT t) h (.unOp op ty x)) := by unfold HK; rfl
theorem as_convert (s e : TypeId) (x : Operand) : AStep P T d ⟨t, h⟩ N (.convert s e x) = HK N d t h (hopF T (evT t) h (.convert s e x)) := by unfold HK; rfl
theorem as_copy (args : Array Operand) (tys : Array TypeId) : AStep P T d ⟨t, h⟩ N (.call ⟨.builtin .copy, args, tys⟩) = match heapF T ⟨t, h⟩ (.call ⟨.builtin .copy, args, tys⟩) with | some (c, tv, h') => c ∧ N ⟨putT d tv t, h'⟩ | none => False := rfl
theorem as_load (ty : TypeId) (x : Operand) : AStep P T d ⟨t, h⟩ N (.load ty x) = HK N d t h (hopF T (evT t) h (.load ty x)) := by unfold HK; rfl
theorem as_fieldAddr (ty : TypeId) (x : Operand) (f : Nat) : AStep P T d ⟨t, h⟩ N (.fieldAddr ty x f) = HK N d t h (hopF T (evT t) h (.fieldAddr ty x f)) := by unfold HK; rfl
theorem as_field (ty : TypeId) (x : Operand) (f : Nat) : AStep P T d ⟨t, h⟩ N (.field ty x f) = HK N d t h (hopF T (evT t) h (.field ty x f)) := by unfold HK; rfl
theorem as_indexAddr (ty : TypeId) (x i : Operand) : AStep P T d ⟨t, h⟩ N (.indexAddr ty x i) = HK N d t h (hopF T (evT t) h (.indexAddr ty x i)) := by unfold HK; rfl
theorem as_index (ty : TypeId) (x i : Operand) : AStep P T d ⟨t, h⟩ N (.index ty x i) = HK N d t h (hopF T (evT t) h (.index ty x i)) := by unfold HK; rfl
theorem as_extract (x : Operand) (i : Nat) : AStep P T d ⟨t, h⟩ N (.extract x i) = HK N d t h (hopF T (evT t) h (.extract x i)) := by unfold HK; rfl
theorem as_build (ty : TypeId) (ps : Array (Nat × Operand)) : AStep P T d ⟨t, h⟩ N (.build ty ps) = HK N d t h (hopF T (evT t) h (.build ty ps)) := by unfold HK; rfl
theorem as_makeSlice (ty : TypeId) (x y : Operand) : AStep P T d ⟨t, h⟩ N (.makeSlice ty x y) = HK N d t h (hopF T (evT t) h (.makeSlice ty x y)) := by unfold HK; rfl
theorem as_buildSlice (ty : TypeId) (n : Nat) (ps : Array (Nat × Operand)) : AStep P T d ⟨t, h⟩ N (.buildSlice ty n ps) = HK N d t h (hopF T (evT t) h (.buildSlice ty n ps)) := by unfold HK; rfl
theorem as_slice (ty : TypeId) (x : Operand) (lo hi mx : Option Operand) : AStep P T d ⟨t, h⟩ N (.slice ty x lo hi mx) = HK N d t h (hopF T (evT t) h (.slice ty x lo hi mx)) := by unfold HK; rfl
theorem as_len (args : Array Operand) (tys : Array TypeId) : AStep P T d ⟨t, h⟩ N (.call ⟨.builtin .len, args, tys⟩) = HK N d t h (hopF T (evT t) h (.call ⟨.builtin .len, args, tys⟩)) := by unfold HK; rfl
theorem as_min (args : Array Operand) (tys : Array TypeId) : AStep P T d ⟨t, h⟩ N (.call ⟨.builtin .min, args, tys⟩) = HK N d t h (hopF T (evT t) h (.call ⟨.builtin .min, args, tys⟩)) := by unfold HK; rfl
theorem as_max (args : Array Operand) (tys : Array TypeId) : AStep P T d ⟨t, h⟩ N (.call ⟨.builtin .max, args, tys⟩) = HK N d t h (hopF T (evT t) h (.call ⟨.builtin .max, args, tys⟩)) := by unfold HK; rfl
theorem fr_false : frz false h = h := by cases h <;> rfl
theorem fr_nil : frz true [] = [] := rfl
theorem fr_cons (b : Bool × List AV) : frz true (b :: h) = (false, b.2) :: frz true h := rfl
theorem argE_nil (i : Nat) : argE i [] = [] := rfl
theorem argE_cons (i : Nat) (a : AV) (as : List AV) : argE i (a :: as) = (i, .v a) :: argE (i + 1) as := rfl
end
end Go.Proofs.Ytdbaehpfjpghfaa
