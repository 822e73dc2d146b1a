/- What becomes of any segment. -/
import Derived.Test.YthjojkkapboonaaWB
namespace Go.Proofs.Ythjojkkapboonaa
set_option linter.unusedSimpArgs false
set_option linter.unusedVariables false
open Go.RowKit

set_option maxRecDepth 100000 in
theorem spliceApplies_a (e : EntN) (c : CfgN) (to_ port : Int) (s : SegN) (he : e.ok) (hs : s.ok) : ASpec Try.prog 3 [entA e, cfgA c, u32A to_, u16A port, segA s] (boA true) := by
  obtain ⟨z, hz⟩ : ∃ z : SegN, z = { s with opts := s.opts.take 50, data := s.data.take 200 } := ⟨_, rfl⟩
  have hzo : z.ok := by subst hz; obtain ⟨k1, k2, k3, k4, k5, k6, k7, k8⟩ := hs; constructor <;> assumption
  have l1 : z.opts.length ≤ 50 := by subst hz; simp; omega
  have l2 : z.data.length ≤ 200 := by subst hz; simp; omega
  refine ASpec.of_body TT_ok Try.mixed _ [.tmp 10] ([], [(2, 1009)]) Try.func3 (by kernel_rfl) rfl rfl (by simp only [Try.ntmps3, List.length_cons, List.length_nil]; omega) rfl (by kernel_rfl) ?_
  simp only [argE_cons, argE_nil, ac_seq, ac_region, at_normal, ao_nil, ao_cons, as_call, as_box, as_assign, as_load, segL, segA, cfgL, cfgA, entL, entA, u8A, u16A, u32A, i64, boA, fr_false, List.contains_nil, beq_self_eq_true, hk_some, hopG, rd, aopsD, heapF, frzW, frzR, constT, evT, lk, putT, loadF, cellsF, argsF, constA, cellA, TK.isAgg, List.length_cons, List.length_nil, List.getElem?_cons_zero, List.getElem?_cons_succ, List.drop_zero, List.take_succ_cons, List.take_nil, List.nil_append, List.cons_append, Option.map_some, Nat.reduceAdd, Nat.reduceSub, Nat.reduceEqDiff, Nat.reduceLeDiff, true_and, eq_self, reduceCtorEq, Bool.false_eq_true, ↓reduceIte, Nat.zero_add, Nat.le_refl, TT40]
  refine ACall.intro (refFew09_a s) ?_
  rw [← hz]
  clear hz
  simp only [ac_seq, ac_region, at_normal, ao_nil, ao_cons, as_call, as_store, as_move, as_load, segL, segA, u8A, u16A, u32A, fr_false, List.contains_nil, beq_self_eq_true, Bool.and_self, hk_some, hopG, rd, bs_call, bs_move, bs_load, ob_cons, aopsD, heapF, frzW, tlN, evT, lk, putT, loadF, cellsF, ovw, argsF, okCell, TK.isAgg, Value.oneCell', List.length_cons, List.length_nil, List.getElem?_cons_zero, List.getElem?_cons_succ, List.drop_zero, List.take_succ_cons, List.take_nil, List.set_cons_zero, List.set_cons_succ, List.all_cons, List.all_nil, Option.map_some, Nat.reduceAdd, Nat.reduceSub, Nat.reduceEqDiff, Nat.reduceLeDiff, true_and, and_self, eq_self, reduceCtorEq, ↓reduceIte, Nat.zero_add, Nat.le_refl, TT27, TT37, TT40]
  refine ACall.intro (there_a e c to_ port) ?_
  simp only [thereT, as_call, as_load, turnL, turnA, u16A, u32A, hk_some, hopG, rd, bs_call, bs_load, ob_cons, frzW, evT, lk, putT, loadF, argsF, TK.isAgg, List.length_cons, List.length_nil, List.getElem?_cons_zero, List.drop_zero, List.take_succ_cons, List.take_nil, Option.map_some, Nat.reduceAdd, Nat.reduceEqDiff, true_and, eq_self, ↓reduceIte, Nat.zero_add, Nat.le_refl, TT27]
  refine ACall.intro (here_a e) ?_
  simp -implicitDefEqProofs only [hereT, ac_skip, ac_seq, ac_cond, ac_region, at_normal, ao_nil, ao_cons, if_f, as_call, as_store, as_move, as_binOp, as_load, as_fieldAddr, as_indexAddr, as_build, turnL, turnA, u16A, u32A, fr_false, List.contains_nil, Nat.reduceBEq, beq_self_eq_true, Int.cast_ofNat_Int, decide_true, Bool.and_self, hk_some, hopG, rd, bs_alloc, ob_zero, ob_cons, aopsD, heapF, frzW, tlN, constT, evT, lk, putT, binF, loadF, cellsF, ovw, fillF, buildF, intsK, partsF, argsF, okCell, constA, cellA, TK.isAgg, Value.oneCell', List.length_cons, List.length_nil, List.getElem?_cons_zero, List.getElem?_cons_succ, List.drop_zero, List.drop_succ_cons, List.take_succ_cons, List.take_nil, List.set_cons_zero, List.set_cons_succ, List.nil_append, List.cons_append, List.all_cons, List.all_nil, Option.map_some, Option.bind_some, Nat.reduceAdd, Nat.reduceSub, Nat.reduceEqDiff, Nat.reduceLeDiff, Nat.succ_ne_zero, ne_eq, not_false_eq_true, true_and, and_self, eq_self, reduceCtorEq, Bool.false_eq_true, Bool.not_true, ↓reduceIte, Int.reduceToNat, Int.reduceLT, Int.reduceLE, Nat.mul_one, Nat.zero_add, Nat.add_zero, Nat.le_refl, TT22, TT23, TT25, TT27, TT31, TT37, TT43]
  refine ACall.intro (opposite_a e.shift he.shift) ?_
  simp only [ac_skip, ac_seq, ac_cond, ac_region, at_normal, ao_nil, ao_cons, if_f, as_call, as_binOp, as_load, as_build, u32A, fr_false, List.contains_nil, Nat.reduceBEq, decide_true, hk_some, hopG, rd, aopsD, frzW, tlN, evT, lk, putT, binF, loadF, cellsF, ovw, fillF, buildF, intsK, partsF, argsF, TK.isAgg, Value.oneCell', List.length_cons, List.length_nil, List.getElem?_cons_zero, List.getElem?_cons_succ, List.drop_zero, List.take_succ_cons, List.take_nil, List.set_cons_zero, List.set_cons_succ, Option.map_some, Option.bind_some, Nat.reduceAdd, Nat.reduceSub, Nat.reduceEqDiff, Nat.reduceLeDiff, true_and, and_self, eq_self, Bool.not_true, ↓reduceIte, Nat.zero_add, Nat.le_refl, TT40, TT43]
  refine ACall.intro (spliceApply_a (thereT e c to_ port) z (by omega) (by omega)) ?_
  simp only [thereT, ao_cons, as_call, as_move, as_load, as_fieldAddr, segL, segA, u8A, u16A, u32A, Nat.reduceBEq, hk_some, hopG, rd, frzW, constT, evT, lk, putT, loadF, argsF, constA, cellA, TK.isAgg, List.length_cons, List.length_nil, List.getElem?_cons_zero, List.getElem?_cons_succ, List.drop_zero, List.drop_succ_cons, List.take_succ_cons, List.take_nil, Option.map_some, Nat.reduceAdd, Nat.reduceSub, Nat.reduceEqDiff, Nat.succ_ne_zero, ne_eq, not_false_eq_true, true_and, eq_self, reduceCtorEq, Bool.false_eq_true, ↓reduceIte, Nat.zero_add, Nat.le_refl, TT22, TT23, TT27, TT40]
  refine ACall.intro (ref28Apply_a e.port port 0 e.shift z hzo) ?_
  simp only [ao_cons, as_call, segL, segA, u8A, u16A, u32A, Nat.reduceBEq, rd, frzW, evT, lk, putT, argsF, Option.map_some, Nat.reduceSub, Nat.reduceEqDiff, eq_self, ↓reduceIte]
  refine ACall.intro (refSame09_self (shiftS e.port port 0 e.shift z)) ?_
  simp only [ao_cons, ao_guard_t, st_at, if_t, as_call, as_move, as_load, boA, Nat.reduceBEq, hk_some, hopG, rd, frzW, evT, lk, putT, GV, gdst, loadF, argsF, TK.isAgg, List.length_cons, List.length_nil, List.getElem?_cons_zero, List.getElem?_cons_succ, List.drop_zero, List.take_succ_cons, List.take_nil, Option.map_some, Nat.reduceAdd, Nat.reduceSub, Nat.reduceEqDiff, true_and, eq_self, ↓reduceIte, Nat.zero_add, Nat.le_refl, TT40, TT43]
  refine ACall.intro (spliceApply_a (hereT e) z (by omega) (by omega)) ?_
  simp only [hereT, ao_guard_t, st_at, if_t, as_call, as_load, as_fieldAddr, segL, segA, u8A, u16A, u32A, Nat.reduceBEq, hk_some, hopG, rd, frzW, evT, lk, putT, GV, gdst, loadF, argsF, TK.isAgg, List.getElem?_cons_zero, List.getElem?_cons_succ, List.drop_zero, List.drop_succ_cons, Option.map_some, Nat.reduceSub, Nat.reduceEqDiff, Nat.succ_ne_zero, ne_eq, not_false_eq_true, true_and, eq_self, Bool.false_eq_true, ↓reduceIte, Nat.zero_add, Nat.add_zero, TT22, TT23, TT25, TT27]
  refine ACall.intro (opposite_a e.shift he.shift) ?_
  simp only [ao_guard_t, st_at, if_t, as_call, as_load, u32A, Nat.reduceBEq, hk_some, hopG, rd, frzW, constT, evT, lk, putT, GV, gdst, loadF, argsF, constA, cellA, TK.isAgg, List.length_cons, List.length_nil, List.getElem?_cons_zero, List.getElem?_cons_succ, List.drop_zero, List.take_succ_cons, List.take_nil, Option.map_some, Nat.reduceAdd, Nat.reduceSub, Nat.reduceEqDiff, true_and, eq_self, ↓reduceIte, Nat.zero_add, Nat.le_refl, TT40]
  refine ACall.intro (ref28Apply_a e.f.dp e.f.sp (opp e.shift) 0 z hzo) ?_
  simp only [ao_guard_t, st_at, if_t, as_call, segL, segA, u8A, u16A, u32A, Nat.reduceBEq, rd, frzW, evT, lk, putT, GV, gdst, argsF, Option.map_some, Nat.reduceSub, Nat.reduceEqDiff, eq_self, ↓reduceIte]
  refine ACall.intro (refSame09_self (shiftS e.f.dp e.f.sp (opp e.shift) 0 z)) ?_
  simp only [ao_cons, ao_guard_t, st_at, pk_at, if_t, as_pick, as_call, as_move, boA, Nat.reduceBEq, frzW, evT, lk, putT, GV, gdst, argsF, Nat.reduceSub, Nat.reduceEqDiff, eq_self, ↓reduceIte]
  refine ACall.intro lives28_a ?_
  simp only [ac_ret, at_normal, ae_ret, ao_nil, ao_cons, pk_at, if_t, as_pick, as_assign, boA, Nat.reduceBEq, rd, evT, lk, putT, resF, resL, Option.map_some, Option.bind_some, Nat.reduceSub, Nat.reduceEqDiff, and_true, and_self, eq_self, ↓reduceIte]
end Go.Proofs.Ythjojkkapboonaa
