/- lives of 43. -/
import Derived.Test.YthjojkkapboonaaFC
import Derived.Test.YthjojkkapboonaaFJ
namespace Go.Proofs.Ythjojkkapboonaa
set_option linter.unusedSimpArgs false
set_option linter.unusedVariables false
open Go.RowKit

def lvP : PktN := { pktZ with data := List.replicate 100 0 }
theorem lv_ok : lvP.ok := ⟨by decide, by decide, by decide, by decide, by decide, by decide, by decide⟩
theorem lv_e : (splitP lvP 68).2 = 0 := by kernel_rfl
theorem lv_l : (splitP lvP 68).1 = [pieceAt lvP 48 0, pieceAt lvP 48 48, pieceAt lvP 48 96] := by kernel_rfl
theorem new100 (t : List (Nat × TV)) (h : List (Bool × List AV)) : newF TT ⟨t, h⟩ (.makeSlice 38 (.const (.int .i64 100)) (.const (.int .i64 100))) = some (((0 : Int) = 0 ∧ (1 : Nat) = 1 ∧ (1 : Nat) = 1 ∧ (100 : Int) = 100 ∧ (0 : Int) ≤ 100 ∧ (100 : Int) ≤ 1000000), .s h.length 0 100, h ++ [(true, bytesL (List.replicate 100 0))]) := rfl
set_option maxRecDepth 100000 in
theorem lives43_a : ASpec Try.prog 45 [] (boA true) := by
  obtain ⟨l, hl⟩ : ∃ l, l = (splitP lvP 68).1 := ⟨_, rfl⟩
  have hlen : l.length = 3 := by rw [hl, lv_l]; rfl
  have hpd := pkts_div l
  have hpl := pktsL_len l
  rw [hlen] at hpd hpl
  have hat1 := pkts_at l 1 (by omega)
  have hat2 := pkts_at l 2 (by omega)
  obtain ⟨p, hp⟩ : ∃ p, p = l.getD 1 pktZ := ⟨_, rfl⟩
  obtain ⟨q, hq⟩ : ∃ q, q = l.getD 2 pktZ := ⟨_, rfl⟩
  rw [← hp] at hat1
  rw [← hq] at hat2
  have p1 : p.data.length = 48 := by rw [hp, hl, lv_l]; kernel_rfl
  have p2 : p.mf = true := by rw [hp, hl, lv_l]; kernel_rfl
  have q1 : q.off = 12 := by rw [hq, hl, lv_l]; kernel_rfl
  have q2 : q.mf = false := by rw [hq, hl, lv_l]; kernel_rfl
  have r1 : (List.replicate 100 (0 : UInt8)).length ≤ 1000000 := by decide
  have r2 : (List.replicate 100 (0 : UInt8)).length = 100 := by decide
  have r3 : (List.replicate 100 (0 : UInt8)).take 100 = List.replicate 100 0 := by decide
  have i1 : ((0 : Int) ≤ 100) = True := by simp
  have i2 : ((100 : Int) ≤ 1000000) = True := by simp
  refine ASpec.of_body TT_ok Try.mixed _ [.tmp 0] ([], []) Try.func45 (by kernel_rfl) rfl rfl (by simp only [Try.ntmps45, List.length_nil]; omega) rfl (by kernel_rfl) ?_
  simp only [new100, i1, i2, argE_nil, ac_seq, ac_region, at_normal, ao_nil, ao_cons, as_call, as_assign, as_build, as_makeSlice, bytesL_len, asB_take, boA, fr_false, List.contains_nil, beq_self_eq_true, hk_some, hopG, rd, aopsD, frzW, frzR, frz1, constT, evT, lk, putT, cellsF, ovw, fillF, buildF, partsF, argsF, constA, cellA, List.length_cons, List.length_nil, List.map_cons, List.map_nil, List.getElem?_cons_zero, List.getElem?_cons_succ, List.drop_zero, List.take_succ_cons, List.take_nil, List.set_cons_zero, List.set_cons_succ, List.nil_append, List.replicate_succ, List.replicate_zero, Option.map_some, Nat.reduceAdd, Nat.reduceSub, Nat.reduceLeDiff, true_and, and_self, eq_self, Bool.false_eq_true, ↓reduceIte, Nat.zero_add, Nat.le_refl, TT87]
  refine ACall.intro (fgSplit_a lvP 68 lv_ok (by omega) (by decide) (by show (List.replicate 100 (0 : UInt8)).length ≤ 1000000; exact r1)) ?_
  rw [← hl, lv_e]
  simp only [hpd, hat1, hat2, p1, p2, q1, q2, ac_ret, ac_seq, ac_region, at_normal, ae_ret, ao_nil, ao_cons, ao_guard_t, st_at, pk_at, if_t, as_pick, as_move, as_assign, as_binOp, as_unOp, as_load, as_fieldAddr, as_indexAddr, as_extract, as_len, pktL, u8A, u16A, u32A, i64, boA, fr_false, List.contains_nil, beq_self_eq_true, Int.cast_ofNat_Int, decide_true, hk_some, hopG, hopF, rd, aopsD, constT, evT, lk, putT, GV, gdst, lenF, binF, unF, loadF, resF, resL, constA, cellA, TK.isAgg, List.length_cons, List.length_nil, List.getElem?_cons_zero, List.getElem?_cons_succ, List.drop_zero, List.drop_succ_cons, Option.map_some, Option.bind_some, Nat.reduceAdd, Nat.reduceMul, Nat.reduceSub, Nat.reduceEqDiff, Nat.reduceLT, Nat.reduceLeDiff, Nat.succ_ne_zero, ne_eq, not_false_eq_true, true_and, and_true, and_self, eq_self, Bool.false_eq_true, Bool.not_false, ↓reduceIte, Int.reduceToNat, Int.reduceLE, Nat.zero_add, Nat.zero_lt_succ, TT3, TT4, TT23, TT38, TT56, TT84, TT87]
  exact ⟨by omega, by omega, by omega, by omega⟩
set_option maxRecDepth 100000 in
theorem fragJoins_a (l : List PktN) (hl : ∀ p ∈ l, p.ok) (hn : l.length ≤ 9223372036854775807) : ASpec Try.prog 9 [.sl 11 (pktsL l)] (boA true) := by
  refine ASpec.of_body TT_ok Try.mixed _ [.tmp 2] ([], []) Try.func9 (by kernel_rfl) rfl rfl (by simp only [Try.ntmps9, List.length_cons, List.length_nil]; omega) rfl (by kernel_rfl) ?_
  simp only [argE_cons, argE_nil, ac_seq, ac_region, at_normal, ao_nil, ao_cons, as_call, as_move, as_assign, boA, fr_false, List.contains_nil, beq_self_eq_true, rd, aopsD, frzW, frzR, constT, evT, lk, putT, argsF, constA, cellA, Option.map_some, Nat.reduceSub, Nat.reduceLeDiff, Nat.succ_ne_zero, eq_self, Bool.false_eq_true, ↓reduceIte, Nat.zero_add]
  refine ACall.intro (refFew43_a l hn hl) ?_
  simp only [ac_seq, ac_region, at_normal, ao_nil, ao_cons, as_call, as_move, as_assign, fr_false, List.contains_nil, beq_self_eq_true, rd, aopsD, frzW, frzR, evT, lk, putT, argsF, Option.map_some, Nat.reduceSub, Nat.reduceLeDiff, eq_self, Bool.false_eq_true, ↓reduceIte]
  refine ACall.intro (fgJoin_a (fewP l) (fewP_ok hl)) ?_
  simp only [ac_seq, ac_region, at_normal, ao_nil, ao_cons, as_call, as_alloc, as_store, as_move, as_assign, as_extract, pktL, pktA, u8A, u16A, u32A, i64, boA, fr_false, List.contains_nil, beq_self_eq_true, Bool.and_self, hk_some, hopG, rd, aopsD, heapF, frzW, frzR, evT, lk, putT, cellsF, ovw, argsF, okCell, Value.oneCell', List.length_cons, List.length_nil, List.getElem?_cons_zero, List.getElem?_cons_succ, List.set_cons_zero, List.set_cons_succ, List.nil_append, List.all_cons, List.all_nil, Option.map_some, Nat.reduceAdd, Nat.reduceSub, Nat.reduceEqDiff, Nat.reduceLeDiff, Nat.succ_ne_zero, true_and, and_self, eq_self, Bool.false_eq_true, ↓reduceIte, Nat.zero_add, Nat.le_refl, TT87]
  refine ACall.intro (refJoin43_a (fewP l) (fewP_ok hl)) ?_
  simp only [ac_seq, ac_region, at_normal, ao_nil, ao_cons, as_call, as_alloc, as_store, as_move, as_assign, as_load, as_extract, pktL, pktA, u8A, u16A, u32A, i64, boA, fr_false, List.contains_nil, beq_self_eq_true, Bool.and_self, hk_some, hopG, rd, aopsD, heapF, frzW, frzR, evT, lk, putT, loadF, cellsF, ovw, argsF, okCell, TK.isAgg, Value.oneCell', List.length_cons, List.length_nil, List.getElem?_cons_zero, List.getElem?_cons_succ, List.drop_zero, List.take_succ_cons, List.take_nil, List.set_cons_zero, List.set_cons_succ, List.nil_append, List.cons_append, List.all_cons, List.all_nil, Option.map_some, Nat.reduceAdd, Nat.reduceSub, Nat.reduceEqDiff, Nat.reduceLeDiff, true_and, and_self, eq_self, Bool.false_eq_true, ↓reduceIte, Nat.zero_add, Nat.le_refl, TT87]
  refine ACall.intro (refSame06_self (joinP (fewP l)).1) ?_
  simp only [ao_cons, ao_guard_t, st_at, pk_at, if_t, as_pick, as_call, as_move, as_binOp, boA, beq_self_eq_true, decide_true, hk_some, hopG, rd, frzW, frzR, evT, lk, putT, GV, gdst, binF, argsF, Option.map_some, Nat.reduceSub, Nat.reduceEqDiff, true_and, eq_self, ↓reduceIte, TT3]
  refine ACall.intro lives43_a ?_
  simp only [ac_ret, at_normal, ae_ret, ao_nil, ao_cons, pk_at, if_t, as_pick, as_assign, boA, beq_self_eq_true, rd, evT, lk, putT, resF, resL, Option.map_some, Option.bind_some, Nat.reduceSub, Nat.reduceEqDiff, and_true, and_self, eq_self, ↓reduceIte]
end Go.Proofs.Ythjojkkapboonaa
