/- A file with a record more is its bytes, and the record's. -/
import Derived.Test.YthjojkkapboonaaPH
namespace Go.Proofs.Ythjojkkapboonaa
set_option linter.unusedSimpArgs false
set_option linter.unusedVariables false
open Go.RowKit

set_option maxRecDepth 100000 in
set_option maxHeartbeats 2000000 in
theorem pcapBehind_a (l : List RecN) (r : RecN) (hl : ∀ r ∈ l, r.ok) (hr : r.ok) (hn : l.length ≤ 9223372036854775807) : ASpec Try.prog 6 [.sl 3 (recsL l), .agg (recL r)] (boA true) := by
  have hfo := fewR_ok l hl
  have hfb := fewR_body l
  have hfl := fewR_len l
  have hfew := few46_a l hn
  obtain ⟨k, hk⟩ : ∃ k, k = fewR l := ⟨_, rfl⟩
  rw [← hk] at hfo hfb hfl hfew
  have hput := pcPut_a k hfo (by omega) (by omega)
  obtain ⟨z, hz⟩ : ∃ z, z = cutR r := ⟨_, rfl⟩
  have hzo : z.ok := by rw [hz]; exact ⟨hr.sec, hr.usec⟩
  have z1 : z.sec = r.sec := by rw [hz]; rfl
  have z2 : z.usec = r.usec := by rw [hz]; rfl
  have z3 : z.data = r.data.take 100 := by rw [hz]; rfl
  have hzl : z.data.length ≤ 100 := by rw [z3]; simp; omega
  have hbz : (bodyB (k ++ [z])).length = (bodyB k).length + (oneB z).length := by rw [body_snoc, List.length_append]
  have hoz := oneB_len z
  have hput2 := pcPut_a (k ++ [z]) (fun x hx => by rcases List.mem_append.1 hx with hx | hx; exact hfo x hx; rw [List.mem_singleton.1 hx]; exact hzo) (by omega) (by simp; omega)
  rw [recs_snoc] at hput2
  have hok := recs_ok k
  have hkl := recsL_len k
  have q1 : (recsL k).length ≤ 1000000 := by omega
  have q2 : (recsL k).length + 3 ≤ 1000000 := by omega
  have htl : topP.length = 24 := by decide
  refine ASpec.of_body TT_ok Try.mixed _ [.tmp 4] ([], [(4, 4000)]) Try.func6 (by kernel_rfl) rfl rfl (by simp only [Try.ntmps6, List.length_cons, List.length_nil]; omega) rfl (by kernel_rfl) ?_
  simp only [argE_cons, argE_nil, ac_seq, ac_region, at_normal, ao_nil, ao_cons, as_call, as_box, as_move, as_assign, boA, fr_false, List.contains_nil, beq_self_eq_true, rd, aopsD, heapF, frzW, frzR, constT, evT, lk, putT, cellsF, argsF, constA, cellA, List.length_nil, List.nil_append, Option.map_some, Nat.reduceAdd, Nat.reduceSub, Nat.reduceLeDiff, Nat.succ_ne_zero, true_and, eq_self, reduceCtorEq, Bool.false_eq_true, ↓reduceIte, Nat.zero_add]
  refine ACall.intro hfew ?_
  simp only [ac_seq, ac_region, at_normal, ao_nil, ao_cons, as_call, as_move, as_assign, as_load, as_fieldAddr, as_extract, u32A, fr_false, List.contains_nil, beq_self_eq_true, hk_some, hopG, rd, aopsD, frzW, frzR, constT, evT, lk, putT, loadF, argsF, constA, cellA, TK.isAgg, List.getElem?_cons_zero, List.getElem?_cons_succ, List.drop_zero, List.drop_succ_cons, Option.map_some, Nat.reduceSub, Nat.reduceEqDiff, Nat.reduceLeDiff, Nat.succ_ne_zero, ne_eq, not_false_eq_true, true_and, eq_self, reduceCtorEq, Bool.false_eq_true, ↓reduceIte, Nat.zero_add, TT38, TT65]
  refine ACall.intro (few_a r.data 100) ?_
  rw [show r.data.take 100 = z.data from z3.symm]
  simp only [ac_seq, ac_region, at_normal, ao_nil, ao_cons, as_call, as_store, as_move, as_fieldAddr, u32A, fr_false, List.contains_nil, beq_self_eq_true, Bool.and_self, hk_some, hopG, rd, aopsD, heapF, frzW, frzR, evT, lk, putT, cellsF, ovw, argsF, okCell, List.length_cons, List.length_nil, List.getElem?_cons_zero, List.getElem?_cons_succ, List.set_cons_zero, List.set_cons_succ, List.all_cons, List.all_nil, Option.map_some, Nat.reduceAdd, Nat.reduceSub, Nat.reduceEqDiff, Nat.reduceLeDiff, Nat.succ_ne_zero, ne_eq, not_false_eq_true, true_and, and_self, eq_self, reduceCtorEq, Bool.false_eq_true, ↓reduceIte, Nat.zero_add, Nat.le_refl, TT38, TT65]
  refine ACall.intro hput ?_
  rw [← z1, ← z2]
  clear z1 z2 z3 hz hk
  simp only [ac_seq, ac_region, at_normal, ao_nil, ao_cons, as_move, as_assign, as_extract, i64, fr_false, List.contains_nil, beq_self_eq_true, hk_some, hopG, rd, aopsD, tlN, evT, lk, putT, List.getElem?_cons_zero, List.getElem?_cons_succ, Option.map_some, Nat.reduceSub, Nat.reduceEqDiff, true_and, eq_self, ↓reduceIte, Nat.le_refl]
  refine ⟨(.first 1 (.node 0 (.node 2 (.node 3 (.node 4 (.node 5 (.node 6 (.first 7 (.first 8 (.first 10 (.first 9 (.first 11 .nil))))) .nil) .nil) .nil) .nil) (.node 3 (.node 2 (.node 4 (.node 5 (.node 6 (.first 7 (.first 8 (.first 10 (.first 9 (.first 11 .nil))))) .nil) .nil) .nil) (.node 4 (.node 2 (.node 5 (.node 6 (.first 7 (.first 8 (.first 10 (.first 9 (.first 11 .nil))))) .nil) .nil) .nil) .nil)) .nil)) (.node 3 (.node 0 (.node 2 (.node 4 (.node 5 (.node 6 (.first 7 (.first 8 (.first 10 (.first 9 (.first 11 .nil))))) .nil) .nil) .nil) (.node 4 (.node 2 (.node 5 (.node 6 (.first 7 (.first 8 (.first 10 (.first 9 (.first 11 .nil))))) .nil) .nil) .nil) .nil)) (.node 4 (.node 0 (.node 2 (.node 5 (.node 6 (.first 7 (.first 8 (.first 10 (.first 9 (.first 11 .nil))))) .nil) .nil) .nil) .nil) .nil)) .nil))), by kernel_rfl, ?_⟩
  simp only [hok, q1, q2, Nat.zero_add, as_call, as_move, as_load, as_buildSlice, as_buildSlice0, an_none, noneA, okNone, af_nil_f, af_node, af_first, an_step, af_step, freeF, Bool.and_self, hk_some, hopG, rd, as_append, appF, catA, dropT, dropV, frzW, frzR, frz1, evT, lk, putT, loadF, cellsF, ovw, fillF, makeSF, partsF, argsF, okCell, TK.isAgg, Value.oneCell', List.length_cons, List.length_nil, List.map_cons, List.map_nil, List.getElem?_cons_zero, List.getElem?_cons_succ, List.drop_zero, List.take_succ_cons, List.take_nil, List.set_cons_zero, List.set_cons_succ, List.nil_append, List.cons_append, List.replicate_succ, List.replicate_zero, List.flatten_cons, List.flatten_nil, List.append_nil, List.all_cons, List.all_nil, Option.map_some, Nat.reduceAdd, Nat.reduceMul, Nat.reduceEqDiff, Nat.reduceLeDiff, Nat.succ_ne_zero, true_and, and_true, and_self, eq_self, reduceCtorEq, ↓reduceIte, Nat.zero_mul, Nat.zero_add, Nat.zero_lt_succ, Nat.le_refl, TT63, TT65]
  have hAl : (putR k).1.length ≤ 10000 := by
    unfold putR
    split
    · simp only [List.length_append]; omega
    · simp
  have fin : (putR k).2 = 0 → (putR (k ++ [z])).2 = 0 → ((putR (k ++ [z])).1 == (putR k).1 ++ oneB z) = true := by
    intro h1 h2
    unfold putR at h1 h2 ⊢
    split at h1
    · split at h2
      · rename_i g1 g2
        rw [if_pos g1, if_pos g2, body_snoc, List.append_assoc]
        simp
      · cases h2
    · cases h1
  repeat' with_reducible refine And.intro ?_ ?_
  all_goals
    refine ACall.intro hput2 ?_
    simp only [ac_seq, ac_region, at_normal, ao_cons, ao_guard_f, as_move, as_assign, as_binOp, as_extract, af_nil, af_first, af_step, freeF, i64, fr_false, List.contains_nil, beq_self_eq_true, hk_some, hopG, rd, aopsD, constT, evT, lk, putT, GV, gdst, binF, constA, cellA, List.getElem?_cons_zero, List.getElem?_cons_succ, Option.map_some, Nat.reduceSub, Nat.reduceEqDiff, Nat.reduceLeDiff, true_and, eq_self, Bool.false_eq_true, ↓reduceIte, TT56]
    cases c1 : decide ((putR k).2 = 0)
    · simp only [ac_seq, ac_cond, ac_region, at_normal, ao_nil, ao_cons, ao_guard_f, sk_at, pk_at, if_t, as_pick, as_call, fr_false, List.contains_nil, beq_self_eq_true, aopsD, frzW, frzR, constT, evT, lk, putT, GV, gdst, argsF, constA, cellA, Nat.reduceSub, Nat.reduceEqDiff, Nat.reduceLeDiff, eq_self, Bool.false_eq_true, Bool.not_false, ↓reduceIte]
      refine ACall.intro lives46_a ?_
      simp only [ac_ret, at_normal, at_ret, ae_ret, ao_nil, ao_cons, as_assign, boA, beq_self_eq_true, rd, evT, lk, putT, resF, resL, Option.map_some, Option.bind_some, Nat.reduceSub, and_true, and_self, eq_self, ↓reduceIte]
    · cases c2 : decide ((putR (k ++ [z])).2 = 0)
      · simp only [c2, ac_seq, ac_cond, ac_region, at_normal, ao_nil, ao_cons, ao_guard_f, st_at, pk_at, if_t, if_f, as_pick, as_call, as_move, as_binOp, fr_false, List.contains_nil, beq_self_eq_true, hk_some, hopG, rd, aopsD, frzW, frzR, constT, evT, lk, putT, GV, gdst, binF, argsF, constA, cellA, Option.map_some, Nat.reduceSub, Nat.reduceEqDiff, Nat.reduceLeDiff, true_and, eq_self, Bool.false_eq_true, Bool.not_true, Bool.not_false, ↓reduceIte, TT56]
        refine ACall.intro lives46_a ?_
        simp only [ac_ret, at_normal, at_ret, ae_ret, ao_nil, ao_cons, as_assign, boA, beq_self_eq_true, rd, evT, lk, putT, resF, resL, Option.map_some, Option.bind_some, Nat.reduceSub, and_true, and_self, eq_self, ↓reduceIte]
      · simp only [c2, ac_skip, ac_seq, ac_cond, ac_region, at_normal, ao_nil, ao_cons, ao_guard_f, st_at, pk_at, if_f, as_pick, as_call, as_move, as_binOp, as_load, as_fieldAddr, as_build, fr_false, List.contains_nil, beq_self_eq_true, hk_some, hopG, rd, aopsD, frzW, frzR, constT, evT, lk, putT, GV, gdst, binF, loadF, cellsF, ovw, fillF, buildF, partsF, argsF, constA, cellA, TK.isAgg, Value.oneCell', List.length_cons, List.length_nil, List.map_cons, List.map_nil, List.getElem?_cons_zero, List.getElem?_cons_succ, List.drop_zero, List.drop_succ_cons, List.set_cons_zero, List.set_cons_succ, Option.map_some, Nat.reduceAdd, Nat.reduceSub, Nat.reduceEqDiff, Nat.reduceLeDiff, Nat.succ_ne_zero, ne_eq, not_false_eq_true, true_and, and_self, eq_self, reduceCtorEq, Bool.false_eq_true, Bool.not_true, ↓reduceIte, Nat.zero_add, Nat.add_zero, Nat.le_refl, TT22, TT38, TT56, TT65, TT72]
        refine ACall.intro (refOne46_a z hzo (by omega)) ?_
        simp only [ao_cons, as_call, beq_self_eq_true, rd, frzW, frzR, evT, lk, putT, argsF, Option.map_some, Nat.reduceSub, Nat.reduceEqDiff, eq_self, ↓reduceIte]
        refine ACall.intro (add_a (putR k).1 (oneB z) (by omega)) ?_
        simp only [ao_cons, as_call, beq_self_eq_true, rd, frzW, frzR, evT, lk, putT, argsF, Option.map_some, Nat.reduceSub, Nat.reduceEqDiff, eq_self, ↓reduceIte]
        refine ACall.intro (refSame_a (putR (k ++ [z])).1 ((putR k).1 ++ oneB z)) ?_
        rw [fin (of_decide_eq_true c1) (of_decide_eq_true c2)]
        simp only [ao_cons, ao_guard_t, st_at, if_t, as_call, as_move, boA, beq_self_eq_true, frzW, frzR, evT, lk, putT, GV, gdst, argsF, Nat.reduceSub, eq_self, ↓reduceIte]
        refine ACall.intro lives46_a ?_
        simp only [ac_ret, at_normal, ae_ret, ao_nil, ao_cons, pk_at, if_t, as_pick, as_assign, boA, beq_self_eq_true, rd, evT, lk, putT, resF, resL, Option.map_some, Option.bind_some, Nat.reduceSub, Nat.reduceEqDiff, and_true, and_self, eq_self, ↓reduceIte]
end Go.Proofs.Ythjojkkapboonaa
