/- octet and the first functions of the reference, through their own texts. -/
import Derived.Test.YtafajmnlknmfiaaCC
namespace Go.Proofs.Ytafajmnlknmfiaa
set_option linter.unusedSimpArgs false
set_option linter.unusedVariables false
open Go.RowKit

theorem dT {p : Prop} [Decidable p] : decide p = true ↔ p := decide_eq_true_iff
theorem dF {p : Prop} [Decidable p] : decide p = false ↔ ¬ p := decide_eq_false_iff_not
theorem u8w (x : Int) : u8 (IntKind.u8.wrap x) = u8 x := by rw [IntKind.wrap_u8]; unfold u8; congr 2; omega
theorem u8m (x : Int) : u8 (x % 256) = u8 x := by unfold u8; congr 2; omega
theorem u8bd (x : Int) : (0 ≤ IntKind.u8.wrap x ∧ IntKind.u8.wrap x ≤ 255) = True := by rw [IntKind.wrap_u8]; simp; omega
theorem tdivN {a b : Int} (h : 0 ≤ a) : a.tdiv b = a / b := Int.tdiv_eq_ediv_of_nonneg h
theorem tmodN {a b : Int} (h : 0 ≤ a) : a.tmod b = a % b := Int.tmod_eq_emod_of_nonneg h
theorem mEq_list (a b : Nat → Int) : decide ([a 0, a 1, a 2, a 3, a 4, a 5] = [b 0, b 1, b 2, b 3, b 4, b 5]) = mEq a b := by simp [mEq]

set_option maxRecDepth 100000 in
theorem few_a (l : List UInt8) (n : Nat) : ASpec Try.prog 47 [.bs l, i64 n] (.bs (l.take n)) := by
  refine ASpec.of_body TT_ok Try.mixed _ [.tmp 4] ([], []) Try.func47 (by kernel_rfl) rfl rfl (by simp only [Try.ntmps47, List.length_cons, List.length_nil]; omega) rfl (by kernel_rfl) ?_
  simp only [argE_cons, argE_nil, ac_seq, ac_cond, ac_region, at_normal, ao_nil, ao_cons, as_move, as_assign, as_binOp, as_len, i64, fr_false, List.contains_nil, beq_self_eq_true, hk_some, hopG, hopF, rd, aopsD, constT, evT, lk, putT, lenF, binF, Option.map_some, Nat.reduceAdd, Nat.reduceSub, Nat.reduceEqDiff, Nat.reduceLeDiff, Nat.succ_ne_zero, true_and, eq_self, reduceCtorEq, Bool.false_eq_true, ↓reduceIte, Nat.zero_add, TT3, TT38]
  refine AIf.intro (fun h => ?_) (fun h => ?_)
  · simp only [h, ac_ret, ac_seq, ac_region, at_normal, at_ret, ae_ret, ao_nil, ao_cons, as_move, as_assign, as_slice, fr_false, List.contains_nil, beq_self_eq_true, hk_some, hopG, rd, aopsD, constT, evT, lk, putT, bndF, cutF, resF, resL, constA, cellA, List.getElem?_nil, List.drop_zero, Option.map_some, Option.map_none, Option.bind_some, Nat.reduceSub, Nat.reduceEqDiff, Nat.reduceLeDiff, Nat.succ_ne_zero, true_and, and_true, eq_self, reduceCtorEq, Bool.false_eq_true, ↓reduceIte, Int.toNat_zero, Int.reduceLE, TT38]
    rw [dT] at h
    exact ⟨by omega, by simp⟩
  · simp only [h, ac_skip, ac_ret, ac_seq, ac_region, at_normal, ae_ret, ao_nil, ao_cons, as_move, as_assign, fr_false, List.contains_nil, beq_self_eq_true, rd, aopsD, evT, lk, putT, resF, resL, Option.map_some, Option.bind_some, Nat.reduceSub, Nat.reduceLeDiff, Nat.succ_ne_zero, true_and, and_true, eq_self, Bool.false_eq_true, ↓reduceIte]
    rw [dF] at h
    rw [List.take_of_length_le (by omega)]

set_option maxRecDepth 100000 in
theorem all_a : ASpec Try.prog 44 [] (macA m255) := by
  refine ASpec.of_body TT_ok Try.mixed _ [.cell 0 29] ([], []) Try.func44 (by kernel_rfl) rfl rfl (by simp only [Try.ntmps44, List.length_nil]; omega) rfl (by kernel_rfl) ?_
  simp only [argE_nil, ac_ret, ac_seq, ac_region, at_normal, ae_ret, ao_nil, ao_cons, as_alloc, as_store, as_build, macL, macA, u8A, fr_false, fr_nil, fr_cons, List.contains_nil, beq_self_eq_true, Bool.and_self, hk_some, hopG, rd, aopsD, heapF, constT, evT, lk, putT, loadF, cellsF, ovw, fillF, buildF, partsF, okCell, resF, resL, constA, cellA, TK.isAgg, Value.oneCell', List.length_cons, List.length_nil, List.getElem?_cons_zero, List.drop_zero, List.take_succ_cons, List.take_nil, List.set_cons_zero, List.set_cons_succ, List.nil_append, List.all_cons, List.all_nil, Option.map_some, Option.bind_some, Nat.reduceAdd, Nat.reduceSub, Nat.reduceLeDiff, Nat.succ_ne_zero, true_and, and_true, and_self, eq_self, Bool.false_eq_true, ↓reduceIte, Nat.mul_one, Nat.zero_add, Nat.le_refl, TT29]
  rfl
set_option maxRecDepth 100000 in
theorem group_a (m : Nat → Int) (hm : macOk m) : ASpec Try.prog 42 [macA m] (boA (decide (m 0 % 2 = 1))) := by
  refine ASpec.of_body TT_ok Try.mixed _ [.tmp 2] ([], []) Try.func42 (by kernel_rfl) rfl rfl (by simp only [Try.ntmps42, List.length_cons, List.length_nil]; omega) rfl (by kernel_rfl) ?_
  simp only [argE_cons, argE_nil, ac_ret, ac_seq, ac_region, at_normal, ae_ret, ao_nil, ao_cons, as_box, as_assign, as_binOp, as_load, as_indexAddr, macL, macA, u8A, boA, fr_false, List.contains_nil, beq_self_eq_true, Int.cast_ofNat_Int, hk_some, hopG, rd, aopsD, heapF, constT, evT, lk, putT, binF, loadF, cellsF, resF, resL, constA, cellA, TK.isAgg, List.length_nil, List.getElem?_cons_zero, List.drop_zero, List.nil_append, Option.map_some, Option.bind_some, Nat.reduceSub, Nat.reduceEqDiff, Nat.reduceLeDiff, true_and, and_true, and_self, eq_self, Bool.false_eq_true, ↓reduceIte, Int.toNat_zero, Int.reduceLT, Int.reduceLE, Nat.mul_one, Nat.zero_add, Nat.add_zero, TT5, TT29]
  rw [bits_1 (hm 0 (by omega))]
set_option maxRecDepth 100000 in
theorem unicast_a (m : Nat → Int) (hm : macOk m) : ASpec Try.prog 43 [macA m] (boA (!decide (m 0 % 2 = 1) && !mEq m m0)) := by
  refine ASpec.of_body TT_ok Try.mixed _ [.tmp 2] ([], []) Try.func43 (by kernel_rfl) rfl rfl (by simp only [Try.ntmps43, List.length_cons, List.length_nil]; omega) rfl (by kernel_rfl) ?_
  simp only [argE_cons, argE_nil, ac_seq, ac_region, at_normal, ao_nil, ao_cons, as_call, as_box, as_assign, as_load, macL, macA, u8A, boA, fr_false, List.contains_nil, beq_self_eq_true, hk_some, hopG, rd, aopsD, heapF, frzW, frzR, constT, evT, lk, putT, loadF, cellsF, argsF, constA, cellA, TK.isAgg, List.length_cons, List.length_nil, List.getElem?_cons_zero, List.drop_zero, List.take_succ_cons, List.take_nil, List.nil_append, Option.map_some, Nat.reduceAdd, Nat.reduceSub, Nat.reduceEqDiff, Nat.reduceLeDiff, true_and, eq_self, Bool.false_eq_true, ↓reduceIte, Nat.zero_add, Nat.le_refl, TT29]
  refine ACall.intro (group_a m hm) ?_
  simp only [ao_cons, ao_guard_t, as_move, as_unOp, boA, beq_self_eq_true, hk_some, hopG, rd, evT, lk, putT, GV, gdst, unF, Option.map_some, Nat.reduceSub, true_and, eq_self, ↓reduceIte]
  refine AIf.intro (fun h => ?_) (fun h => ?_)
  · simp only [h, ac_ret, at_normal, ae_ret, ao_nil, ao_cons, ao_guard_t, st_at, pk_at, if_t, as_pick, as_assign, as_binOp, as_load, as_build, beq_self_eq_true, Bool.true_and, hk_some, hopG, rd, evT, lk, putT, GV, gdst, binF, loadF, fillF, buildF, partsF, intsOf, resF, resL, TK.isAgg, List.length_cons, List.length_nil, List.getElem?_cons_zero, List.drop_zero, List.take_succ_cons, List.take_nil, Option.map_some, Option.bind_some, Nat.reduceAdd, Nat.reduceSub, Nat.reduceEqDiff, true_and, and_true, eq_self, ↓reduceIte, Nat.zero_add, Nat.le_refl, TT29]
    exact congrArg (fun b => AV.one (.bool (!b))) (mEq_list m m0)
  · simp only [h, ac_ret, at_normal, ae_ret, ao_nil, ao_cons, ao_guard_t, sk_at, pk_at, if_f, as_pick, as_assign, beq_self_eq_true, Bool.false_and, rd, constT, evT, lk, putT, GV, gdst, resF, resL, constA, cellA, Option.map_some, Option.bind_some, Nat.reduceSub, Nat.reduceEqDiff, and_true, and_self, eq_self, ↓reduceIte]
set_option maxRecDepth 100000 in
theorem mine_a (d s m : Nat → Int) (t : Int) (l : List UInt8) : ASpec Try.prog 45 [frameA d s t l, macA m] (boA (mEq d m || mEq d m255)) := by
  refine ASpec.of_body TT_ok Try.mixed _ [.tmp 4] ([], []) Try.func45 (by kernel_rfl) rfl rfl (by simp only [Try.ntmps45, List.length_cons, List.length_nil]; omega) rfl (by kernel_rfl) ?_
  simp only [mEq_list, argE_cons, argE_nil, ac_seq, ac_region, at_normal, ao_nil, ao_cons, ao_guard_f, as_box, as_move, as_assign, as_binOp, as_load, as_fieldAddr, macL, macA, frameA, u8A, u16A, boA, fr_false, List.contains_nil, Nat.reduceBEq, beq_self_eq_true, hk_some, hopG, rd, aopsD, heapF, tlN, constT, evT, lk, putT, GV, gdst, binF, loadF, cellsF, intsOf, constA, cellA, TK.isAgg, List.length_cons, List.length_nil, List.getElem?_cons_zero, List.getElem?_cons_succ, List.drop_zero, List.take_zero, List.take_succ_cons, List.take_nil, List.nil_append, List.cons_append, Option.map_some, Option.bind_some, Nat.reduceAdd, Nat.reduceSub, Nat.reduceEqDiff, Nat.reduceLeDiff, Nat.succ_ne_zero, ne_eq, not_false_eq_true, true_and, and_true, eq_self, reduceCtorEq, Bool.false_eq_true, ↓reduceIte, Nat.zero_add, Nat.add_zero, Nat.le_refl, TT29, TT56]
  refine AIf.intro (fun h => ?_) (fun h => ?_)
  · simp only [h, ac_ret, at_normal, ae_ret, ao_nil, ao_cons, ao_guard_f, sk_at, pk_at, if_t, as_pick, as_assign, Bool.true_or, Nat.reduceBEq, rd, constT, evT, lk, putT, GV, gdst, resF, resL, constA, cellA, Option.map_some, Option.bind_some, Nat.reduceSub, Nat.reduceEqDiff, and_true, and_self, eq_self, ↓reduceIte]
  · simp only [h, ao_guard_f, st_at, if_f, as_call, as_load, as_fieldAddr, Bool.false_or, Nat.reduceBEq, hk_some, hopG, rd, frzW, evT, lk, putT, GV, gdst, loadF, argsF, TK.isAgg, List.length_cons, List.length_nil, List.getElem?_cons_zero, List.drop_zero, List.take_zero, List.take_succ_cons, Option.map_some, Nat.reduceAdd, Nat.reduceSub, Nat.reduceEqDiff, Nat.reduceLeDiff, Nat.succ_ne_zero, ne_eq, not_false_eq_true, true_and, eq_self, ↓reduceIte, Nat.zero_add, Nat.add_zero, TT29, TT56]
    refine ACall.intro all_a ?_
    simp only [mEq_list, ac_ret, at_normal, ae_ret, ao_nil, ao_cons, ao_guard_f, st_at, pk_at, if_f, as_pick, as_assign, as_binOp, macL, macA, u8A, Nat.reduceBEq, hk_some, hopG, rd, evT, lk, putT, GV, gdst, binF, intsOf, resF, resL, List.length_cons, List.length_nil, Option.map_some, Option.bind_some, Nat.reduceAdd, Nat.reduceSub, Nat.reduceEqDiff, and_true, and_self, eq_self, ↓reduceIte, Nat.zero_add, TT29]
set_option maxRecDepth 100000 in
theorem mac_a (l : List UInt8) (hl : 6 ≤ l.length) : ASpec Try.prog 178 [.bs l] (macA (macAt l 0)) := by
  refine ASpec.of_body TT_ok Try.mixed _ [.cell 2 29] ([], []) Try.func178 (by kernel_rfl) rfl rfl (by simp only [Try.ntmps178, List.length_cons, List.length_nil]; omega) rfl (by kernel_rfl) ?_
  simp only [argE_cons, argE_nil, ac_ret, ac_seq, ac_region, at_normal, ae_ret, ao_nil, ao_cons, as_alloc, as_store, as_move, as_load, as_slice, as_copy, bytesAt, macL, macA, u8A, fr_false, fr_nil, fr_cons, List.contains_nil, beq_self_eq_true, Int.cast_ofNat_Int, Bool.and_self, hk_some, hopG, rd, aopsD, heapF, evT, lk, putT, loadF, cellsF, ovw, okCell, resF, resL, TK.isAgg, Value.oneCell', List.length_cons, List.length_nil, List.getElem?_cons_zero, List.getElem?_cons_succ, List.drop_zero, List.take_succ_cons, List.take_nil, List.set_cons_zero, List.set_cons_succ, List.nil_append, List.cons_append, List.all_cons, List.all_nil, Option.map_some, Option.bind_some, Nat.reduceAdd, Nat.reduceSub, Nat.reduceEqDiff, Nat.reduceLeDiff, Nat.succ_ne_zero, true_and, and_true, and_self, eq_self, Bool.false_eq_true, ↓reduceIte, Nat.zero_add, Nat.le_refl, TT29, TT38]
  exact ⟨hl, rfl⟩
end Go.Proofs.Ytafajmnlknmfiaa
