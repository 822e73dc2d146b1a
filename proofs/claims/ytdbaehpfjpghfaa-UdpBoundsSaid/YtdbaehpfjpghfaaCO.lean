/- UdpBounds. -/
import Derived.Test.YtdbaehpfjpghfaaCK
namespace Go.Proofs.Ytdbaehpfjpghfaa
set_option linter.unusedSimpArgs false
set_option linter.unusedVariables false
open Go.RowKit

set_option maxRecDepth 100000 in
theorem udpBounds_a (n : Int) : ASpec Try.prog 12 [i64 n] (boA true) := by
  have hb := inF_bd n 65520 65530 (by omega)
  refine ASpec.of_body TT_ok Try.mixed _ [.tmp 2] [] Try.func12 (by kernel_rfl) rfl rfl (by simp only [Try.ntmps12, List.length_cons, List.length_nil]; omega) rfl (by kernel_rfl) ?_
  simp only [argE_cons, argE_nil, ac_seq, ac_region, at_normal, ao_nil, ao_cons, as_call, as_move, as_assign, i64, boA, fr_false, List.contains_nil, evT, lk, putT, argsF, constA, cellA, Option.map_some, Nat.succ_ne_zero, eq_self, ↓reduceIte, Nat.zero_add]
  refine ACall.intro (in_a n 65520 65530) ?_
  generalize inF n 65520 65530 = k at *
  simp only [ac_seq, ac_region, at_normal, ao_nil, ao_cons, as_call, as_move, as_assign, as_build, as_makeSlice, i64, fr_false, List.contains_nil, hk_some, hopF, evT, lk, putT, cellsF, ovw, fillF, buildF, zerosF, partsF, argsF, constA, cellA, Value.oneCell', List.length_cons, List.length_nil, List.getElem?_cons_zero, List.getElem?_cons_succ, List.set_cons_zero, List.set_cons_succ, Option.map_some, Nat.reduceAdd, Nat.reduceLeDiff, true_and, and_self, eq_self, ↓reduceIte, Nat.zero_add, Nat.le_refl, TT5, TT38, TT93]
  refine ⟨by omega, ?_⟩
  have hl : (List.replicate k.toNat (0 : UInt8)).length = k.toNat := by simp
  by_cases hk : k ≤ 65527
  · refine ACall.intro (udpPut_a 1 2 0 0 true (List.replicate k.toNat 0) (by omega) (by omega) (by omega) (by omega) (by omega)) ?_
    simp only [decide_eq_true hk, ac_seq, ac_region, at_normal, ao_nil, ao_cons, ao_guard_t, ao_guard_f, st_at, sk_at, pk_at, if_t, as_pick, as_call, as_move, as_assign, as_binOp, as_extract, i64, fr_false, List.contains_nil, beq_self_eq_true, decide_true, hk_some, hopF, evT, lk, putT, GV, gdst, binF, argsF, constA, cellA, List.getElem?_cons_zero, List.getElem?_cons_succ, Option.map_some, Nat.reduceEqDiff, Nat.succ_ne_zero, true_and, eq_self, ↓reduceIte, TT3, TT4, TT61]
    refine ACall.intro lives08_a ?_
    simp only [ac_ret, at_normal, ae_ret, ao_nil, ao_cons, pk_at, if_t, as_pick, as_assign, boA, evT, lk, putT, resF, resL, Option.map_some, Option.bind_some, Nat.reduceEqDiff, and_true, and_self, eq_self, ↓reduceIte]
  · refine ACall.intro (udpPut_no 1 2 0 0 true (List.replicate k.toNat 0) (by omega)) ?_
    simp only [decide_eq_false hk, ac_seq, ac_region, at_normal, ao_nil, ao_cons, ao_guard_t, ao_guard_f, st_at, pk_at, if_t, if_f, as_pick, as_call, as_move, as_assign, as_binOp, as_extract, i64, fr_false, List.contains_nil, beq_self_eq_true, decide_true, decide_false, Int.reduceEq, hk_some, hopF, evT, lk, putT, GV, gdst, binF, argsF, constA, cellA, List.getElem?_cons_zero, List.getElem?_cons_succ, Option.map_some, Nat.reduceEqDiff, Nat.succ_ne_zero, true_and, eq_self, ↓reduceIte, TT3, TT4, TT61]
    refine ACall.intro lives08_a ?_
    simp only [ac_ret, at_normal, ae_ret, ao_nil, ao_cons, pk_at, if_t, as_pick, as_assign, boA, evT, lk, putT, resF, resL, Option.map_some, Option.bind_some, Nat.reduceEqDiff, and_true, and_self, eq_self, ↓reduceIte]
end Go.Proofs.Ytdbaehpfjpghfaa
