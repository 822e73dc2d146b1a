/- octet and the first functions of the reference, through their own texts. -/
import Derived.Test.YthjojkkapboonaaCC
namespace Go.Proofs.Ythjojkkapboonaa
set_option linter.unusedSimpArgs false
set_option linter.unusedVariables false
open Go.RowKit

theorem dT {p : Prop} [Decidable p] : decide p = true ↔ p := decide_eq_true_iff
theorem dF {p : Prop} [Decidable p] : decide p = false ↔ ¬ p := decide_eq_false_iff_not
theorem u8w (x : Int) : u8 (IntKind.u8.wrap x) = u8 x := by rw [IntKind.wrap_u8]; unfold u8; congr 2; omega
theorem u8m (x : Int) : u8 (x % 256) = u8 x := by unfold u8; congr 2; omega
theorem u8bd (x : Int) : (0 ≤ IntKind.u8.wrap x ∧ IntKind.u8.wrap x ≤ 255) = True := by rw [IntKind.wrap_u8]; simp; omega
theorem tdivN {a b : Int} (h : 0 ≤ a) : a.tdiv b = a / b := Int.tdiv_eq_ediv_of_nonneg h
theorem tmodN {a b : Int} (h : 0 ≤ a) : a.tmod b = a % b := Int.tmod_eq_emod_of_nonneg h
theorem mEq_list (a b : Nat → Int) : decide ([a 0, a 1, a 2, a 3, a 4, a 5] = [b 0, b 1, b 2, b 3, b 4, b 5]) = mEq a b := by simp [mEq]

set_option maxRecDepth 100000 in
theorem few_a (l : List UInt8) (n : Nat) : ASpec Try.prog 24 [.bs l, i64 n] (.bs (l.take n)) := by
  refine ASpec.of_body TT_ok Try.mixed _ [.tmp 4] ([], []) Try.func24 (by kernel_rfl) rfl rfl (by simp only [Try.ntmps24, List.length_cons, List.length_nil]; omega) rfl (by kernel_rfl) ?_
  simp only [argE_cons, argE_nil, ac_seq, ac_cond, ac_region, at_normal, ao_nil, ao_cons, as_move, as_assign, as_binOp, as_len, i64, fr_false, List.contains_nil, beq_self_eq_true, hk_some, hopG, hopF, rd, aopsD, constT, evT, lk, putT, lenF, binF, Option.map_some, Nat.reduceAdd, Nat.reduceSub, Nat.reduceEqDiff, Nat.reduceLeDiff, Nat.succ_ne_zero, true_and, eq_self, reduceCtorEq, Bool.false_eq_true, ↓reduceIte, Nat.zero_add, TT3, TT38]
  refine AIf.intro (fun h => ?_) (fun h => ?_)
  · simp only [h, ac_ret, ac_seq, ac_region, at_normal, at_ret, ae_ret, ao_nil, ao_cons, as_move, as_assign, as_slice, fr_false, List.contains_nil, beq_self_eq_true, hk_some, hopG, rd, aopsD, constT, evT, lk, putT, bndF, cutF, resF, resL, constA, cellA, List.getElem?_nil, List.drop_zero, Option.map_some, Option.map_none, Option.bind_some, Nat.reduceSub, Nat.reduceEqDiff, Nat.reduceLeDiff, Nat.succ_ne_zero, true_and, and_true, eq_self, reduceCtorEq, Bool.false_eq_true, ↓reduceIte, Int.toNat_zero, Int.reduceLE, TT38]
    rw [dT] at h
    exact ⟨by omega, by simp⟩
  · simp only [h, ac_skip, ac_ret, ac_seq, ac_region, at_normal, ae_ret, ao_nil, ao_cons, as_move, as_assign, fr_false, List.contains_nil, beq_self_eq_true, rd, aopsD, evT, lk, putT, resF, resL, Option.map_some, Option.bind_some, Nat.reduceSub, Nat.reduceLeDiff, Nat.succ_ne_zero, true_and, and_true, eq_self, Bool.false_eq_true, ↓reduceIte]
    rw [dF] at h
    rw [List.take_of_length_le (by omega)]



































end Go.Proofs.Ythjojkkapboonaa
