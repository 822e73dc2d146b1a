/- The statements of chapter 46: which file records are, which records bytes are a file of, and a record more. -/
import Derived.Test.YthjojkkapboonaaPG
namespace Go.Proofs.Ythjojkkapboonaa
set_option linter.unusedSimpArgs false
set_option linter.unusedVariables false
open Go.RowKit

theorem putR_e (l : List RecN) : IntKind.i64.wrap (putR l).2 = (putR l).2 := by
  unfold putR
  split
  · show IntKind.i64.wrap 0 = 0
    decide
  · show IntKind.i64.wrap 2 = 2
    decide
theorem parseP_e (b : List UInt8) : IntKind.i64.wrap (parseP b).2 = (parseP b).2 := by
  have key : ∀ (f : Nat) (b : List UInt8), 0 ≤ (recsP f b).2 ∧ (recsP f b).2 ≤ 4 := by
    intro f
    induction f with
    | zero => intro b; simp [recsP]
    | succ f ih =>
      intro b
      simp only [recsP]
      split
      · simp
      · split
        · exact oneP_err b
        · split
          · exact ih _
          · simp
  have : 0 ≤ (parseP b).2 ∧ (parseP b).2 ≤ 4 := by
    unfold parseP
    split
    · simp
    split
    · simp
    exact key _ _
  exact i64_in (by omega) (by omega)
set_option maxRecDepth 100000 in
set_option maxHeartbeats 1000000 in
theorem pcapPuts_a (l : List RecN) (hl : ∀ r ∈ l, r.ok) (hn : l.length ≤ 9223372036854775807) : ASpec Try.prog 7 [.sl 3 (recsL l)] (boA true) := by
  have hfo := fewR_ok l hl
  have hfb := fewR_body l
  have hfl := fewR_len l
  have hfew := few46_a l hn
  obtain ⟨k, hk⟩ : ∃ k, k = fewR l := ⟨_, rfl⟩
  rw [← hk] at hfo hfb hfl hfew
  have hput := pcPut_a k hfo (by omega) (by omega)
  have hput2 := refPut46_a k hfo (by omega) (by omega)
  have hsize := pcSize_a k hfo (by omega) (by omega)
  have he := putR_e k
  have htl : topP.length = 24 := by decide
  by_cases ha : k.all okR = true
  · have hp : putR k = (topP ++ bodyB k, 0) := by rw [putR, if_pos ha]
    rw [hp] at hput hput2 hsize he
    obtain ⟨B, hB⟩ : ∃ B, B = topP ++ bodyB k := ⟨_, rfl⟩
    have hpar := pcParse_a B (by rw [hB, List.length_append]; omega)
    have hpp : parseP B = (k, 0) := by rw [hB]; exact parseP_put k fun r hr => ⟨hfo r hr, List.all_eq_true.1 ha r hr⟩
    rw [hpp] at hpar
    rw [← hB] at hput hput2 hsize
    refine ASpec.of_body TT_ok Try.mixed _ [.tmp 2] ([], []) Try.func7 (by kernel_rfl) rfl rfl (by simp only [Try.ntmps7, List.length_cons, List.length_nil]; omega) rfl (by kernel_rfl) ?_
    simp only [argE_cons, argE_nil, ac_seq, ac_region, at_normal, ao_nil, ao_cons, as_call, as_move, as_assign, boA, fr_false, List.contains_nil, beq_self_eq_true, rd, aopsD, frzW, frzR, constT, evT, lk, putT, argsF, constA, cellA, Option.map_some, Nat.reduceSub, Nat.reduceLeDiff, Nat.succ_ne_zero, eq_self, Bool.false_eq_true, ↓reduceIte, Nat.zero_add]
    refine ACall.intro hfew ?_
    simp only [ac_seq, ac_region, at_normal, ao_nil, ao_cons, as_call, as_move, as_assign, as_extract, fr_false, List.contains_nil, beq_self_eq_true, hk_some, hopG, rd, aopsD, frzW, frzR, evT, lk, putT, argsF, List.getElem?_cons_zero, List.getElem?_cons_succ, Option.map_some, Nat.reduceSub, Nat.reduceEqDiff, Nat.reduceLeDiff, Nat.succ_ne_zero, true_and, eq_self, reduceCtorEq, Bool.false_eq_true, ↓reduceIte]
    refine ACall.intro hput ?_
    simp only [ac_seq, ac_region, at_normal, ao_nil, ao_cons, as_call, as_move, as_assign, as_extract, i64, fr_false, List.contains_nil, beq_self_eq_true, hk_some, hopG, rd, aopsD, frzW, frzR, evT, lk, putT, argsF, List.getElem?_cons_zero, List.getElem?_cons_succ, Option.map_some, Nat.reduceSub, Nat.reduceEqDiff, Nat.reduceLeDiff, true_and, eq_self, Bool.false_eq_true, ↓reduceIte]
    refine ACall.intro hput2 ?_
    simp only [ac_seq, ac_region, at_normal, ao_nil, ao_cons, as_call, as_move, as_assign, as_extract, i64, fr_false, List.contains_nil, beq_self_eq_true, hk_some, hopG, rd, aopsD, frzW, frzR, evT, lk, putT, argsF, List.getElem?_cons_zero, List.getElem?_cons_succ, Option.map_some, Nat.reduceSub, Nat.reduceEqDiff, Nat.reduceLeDiff, true_and, eq_self, Bool.false_eq_true, ↓reduceIte]
    refine ACall.intro (refSame_a B B) ?_
    simp only [ao_cons, ao_guard_f, st_at, pk_at, if_f, as_pick, as_call, as_move, as_binOp, as_unOp, boA, beq_self_eq_true, decide_true, hk_some, hopG, rd, frzW, frzR, evT, lk, putT, GV, gdst, binF, unF, argsF, Option.map_some, Nat.reduceSub, Nat.reduceEqDiff, Nat.succ_ne_zero, true_and, eq_self, Bool.not_true, ↓reduceIte, TT3]
    refine ACall.intro hsize ?_
    simp only [ac_skip, ac_seq, ac_cond, ac_region, at_normal, ao_nil, ao_cons, ao_guard_f, st_at, pk_at, if_f, as_pick, as_call, as_move, as_binOp, as_len, i64, fr_false, List.contains_nil, beq_self_eq_true, decide_true, hk_some, hopG, hopF, rd, aopsD, frzW, frzR, evT, lk, putT, GV, gdst, lenF, binF, argsF, Option.map_some, Nat.reduceSub, Nat.reduceEqDiff, Nat.reduceLeDiff, true_and, eq_self, Bool.false_eq_true, Bool.not_true, ↓reduceIte, TT3, TT38]
    refine ACall.intro hpar ?_
    simp only [ac_skip, ac_seq, ac_cond, ac_region, at_normal, ao_nil, ao_cons, ao_guard_t, st_at, if_t, if_f, as_call, as_move, as_assign, as_binOp, as_extract, i64, fr_false, List.contains_nil, beq_self_eq_true, decide_true, hk_some, hopG, rd, aopsD, frzW, frzR, constT, evT, lk, putT, GV, gdst, binF, argsF, constA, cellA, List.getElem?_cons_zero, List.getElem?_cons_succ, Option.map_some, Nat.reduceSub, Nat.reduceEqDiff, Nat.reduceLeDiff, true_and, eq_self, Bool.false_eq_true, Bool.not_true, ↓reduceIte, TT56]
    refine ACall.intro (same46_self k (by omega)) ?_
    simp only [ao_cons, ao_guard_t, st_at, pk_at, if_t, as_pick, as_call, as_move, boA, beq_self_eq_true, frzW, frzR, evT, lk, putT, GV, gdst, argsF, Nat.reduceSub, Nat.reduceEqDiff, eq_self, ↓reduceIte]
    refine ACall.intro lives46_a ?_
    simp only [ac_ret, at_normal, ae_ret, ao_nil, ao_cons, pk_at, if_t, as_pick, as_assign, boA, beq_self_eq_true, rd, evT, lk, putT, resF, resL, Option.map_some, Option.bind_some, Nat.reduceSub, Nat.reduceEqDiff, and_true, and_self, eq_self, ↓reduceIte]
  · have hp : putR k = ([], 2) := by rw [putR, if_neg ha]
    rw [hp] at hput hput2 hsize he
    have hpar := pcParse_a [] (by simp)
    have hpp : parseP [] = ([], 4) := by rw [parseP, if_pos (by simp)]
    rw [hpp] at hpar
    have w2 : IntKind.i64.wrap 2 = 2 := by decide
    refine ASpec.of_body TT_ok Try.mixed _ [.tmp 2] ([], []) Try.func7 (by kernel_rfl) rfl rfl (by simp only [Try.ntmps7, List.length_cons, List.length_nil]; omega) rfl (by kernel_rfl) ?_
    simp only [argE_cons, argE_nil, ac_seq, ac_region, at_normal, ao_nil, ao_cons, as_call, as_move, as_assign, boA, fr_false, List.contains_nil, beq_self_eq_true, rd, aopsD, frzW, frzR, constT, evT, lk, putT, argsF, constA, cellA, Option.map_some, Nat.reduceSub, Nat.reduceLeDiff, Nat.succ_ne_zero, eq_self, Bool.false_eq_true, ↓reduceIte, Nat.zero_add]
    refine ACall.intro hfew ?_
    simp only [ac_seq, ac_region, at_normal, ao_nil, ao_cons, as_call, as_move, as_assign, as_extract, fr_false, List.contains_nil, beq_self_eq_true, hk_some, hopG, rd, aopsD, frzW, frzR, evT, lk, putT, argsF, List.getElem?_cons_zero, List.getElem?_cons_succ, Option.map_some, Nat.reduceSub, Nat.reduceEqDiff, Nat.reduceLeDiff, Nat.succ_ne_zero, true_and, eq_self, reduceCtorEq, Bool.false_eq_true, ↓reduceIte]
    refine ACall.intro hput ?_
    simp only [ac_seq, ac_region, at_normal, ao_nil, ao_cons, as_call, as_move, as_assign, as_extract, i64, fr_false, List.contains_nil, beq_self_eq_true, hk_some, hopG, rd, aopsD, frzW, frzR, evT, lk, putT, argsF, List.getElem?_cons_zero, List.getElem?_cons_succ, Option.map_some, Nat.reduceSub, Nat.reduceEqDiff, Nat.reduceLeDiff, true_and, eq_self, Bool.false_eq_true, ↓reduceIte]
    refine ACall.intro hput2 ?_
    simp only [ac_seq, ac_region, at_normal, ao_nil, ao_cons, as_call, as_move, as_assign, as_extract, i64, fr_false, List.contains_nil, beq_self_eq_true, hk_some, hopG, rd, aopsD, frzW, frzR, evT, lk, putT, argsF, List.getElem?_cons_zero, List.getElem?_cons_succ, Option.map_some, Nat.reduceSub, Nat.reduceEqDiff, Nat.reduceLeDiff, true_and, eq_self, Bool.false_eq_true, ↓reduceIte]
    refine ACall.intro (refSame_a [] []) ?_
    simp only [ao_cons, ao_guard_f, st_at, pk_at, if_f, as_pick, as_call, as_move, as_binOp, as_unOp, boA, beq_self_eq_true, decide_true, hk_some, hopG, rd, frzW, frzR, evT, lk, putT, GV, gdst, binF, unF, argsF, Option.map_some, Nat.reduceSub, Nat.reduceEqDiff, Nat.succ_ne_zero, true_and, eq_self, Bool.not_true, ↓reduceIte, TT3]
    refine ACall.intro hsize ?_
    simp only [ac_skip, ac_seq, ac_cond, ac_region, at_normal, ao_nil, ao_cons, ao_guard_f, st_at, pk_at, if_f, as_pick, as_call, as_move, as_binOp, as_len, i64, fr_false, List.contains_nil, beq_self_eq_true, Int.cast_ofNat_Int, decide_true, hk_some, hopG, hopF, rd, aopsD, frzW, frzR, evT, lk, putT, GV, gdst, lenF, binF, argsF, List.length_nil, Option.map_some, Nat.reduceSub, Nat.reduceEqDiff, Nat.reduceLeDiff, true_and, eq_self, Bool.false_eq_true, Bool.not_true, ↓reduceIte, TT3, TT38]
    refine ACall.intro hpar ?_
    simp only [ac_seq, ac_cond, ac_region, at_normal, ao_nil, ao_cons, ao_guard_t, st_at, if_t, as_call, as_move, as_assign, as_binOp, as_extract, i64, fr_false, List.contains_nil, beq_self_eq_true, decide_true, decide_false, Int.reduceEq, hk_some, hopG, rd, aopsD, frzW, frzR, constT, evT, lk, putT, GV, gdst, binF, argsF, constA, cellA, List.getElem?_cons_zero, List.getElem?_cons_succ, Option.map_some, Nat.reduceSub, Nat.reduceEqDiff, Nat.reduceLeDiff, true_and, eq_self, Bool.false_eq_true, Bool.not_false, ↓reduceIte, TT56]
    refine ACall.intro lives46_a ?_
    simp only [ac_ret, at_normal, at_ret, ae_ret, ao_nil, ao_cons, pk_at, if_t, as_pick, as_assign, boA, beq_self_eq_true, rd, evT, lk, putT, resF, resL, Option.map_some, Option.bind_some, Nat.reduceSub, Nat.reduceEqDiff, and_true, and_self, eq_self, ↓reduceIte]
set_option maxRecDepth 100000 in
set_option maxHeartbeats 1000000 in
theorem pcapParses_a (l : List UInt8) (n : Int) : ASpec Try.prog 8 [.bs l, i64 n] (boA true) := by
  have h3 : (l.take 600).length ≤ 600 := by simp; omega
  refine ASpec.of_body TT_ok Try.mixed _ [.tmp 4] ([], []) Try.func8 (by kernel_rfl) rfl rfl (by simp only [Try.ntmps8, List.length_cons, List.length_nil]; omega) rfl (by kernel_rfl) ?_
  simp only [argE_cons, argE_nil, ac_seq, ac_region, at_normal, ao_nil, ao_cons, as_call, as_move, as_assign, i64, boA, fr_false, List.contains_nil, beq_self_eq_true, rd, aopsD, frzW, frzR, constT, evT, lk, putT, argsF, constA, cellA, Option.map_some, Nat.reduceAdd, Nat.reduceSub, Nat.reduceLeDiff, Nat.succ_ne_zero, eq_self, Bool.false_eq_true, ↓reduceIte, Nat.zero_add]
  refine ACall.intro (few_a l 600) ?_
  generalize l.take 600 = b at *
  have he := parseP_e b
  have hpl := parseP_len b
  simp only [ac_seq, ac_region, at_normal, ao_nil, ao_cons, as_call, as_move, as_assign, fr_false, List.contains_nil, beq_self_eq_true, rd, aopsD, frzW, frzR, evT, lk, putT, argsF, Option.map_some, Nat.reduceSub, Nat.reduceLeDiff, eq_self, Bool.false_eq_true, ↓reduceIte]
  refine ACall.intro (pcParse_a b (by omega)) ?_
  simp only [ac_seq, ac_region, at_normal, ao_nil, ao_cons, as_call, as_move, as_assign, as_extract, i64, fr_false, List.contains_nil, beq_self_eq_true, hk_some, hopG, rd, aopsD, frzW, frzR, evT, lk, putT, argsF, List.getElem?_cons_zero, List.getElem?_cons_succ, Option.map_some, Nat.reduceSub, Nat.reduceEqDiff, Nat.reduceLeDiff, Nat.succ_ne_zero, true_and, eq_self, Bool.false_eq_true, ↓reduceIte]
  refine ACall.intro (refParse46_a b (by omega)) ?_
  simp only [ac_seq, ac_region, at_normal, ao_nil, ao_cons, as_call, as_move, as_assign, as_extract, i64, fr_false, List.contains_nil, beq_self_eq_true, hk_some, hopG, rd, aopsD, frzW, frzR, evT, lk, putT, argsF, List.getElem?_cons_zero, List.getElem?_cons_succ, Option.map_some, Nat.reduceSub, Nat.reduceEqDiff, Nat.reduceLeDiff, true_and, eq_self, Bool.false_eq_true, ↓reduceIte]
  refine ACall.intro (same46_self (parseP b).1 (by omega)) ?_
  simp only [ac_skip, ac_seq, ac_cond, ac_region, at_normal, ao_nil, ao_cons, ao_guard_f, st_at, pk_at, if_f, as_pick, as_call, as_move, as_binOp, as_unOp, boA, fr_false, List.contains_nil, beq_self_eq_true, decide_true, hk_some, hopG, rd, aopsD, frzW, frzR, evT, lk, putT, GV, gdst, binF, unF, argsF, Option.map_some, Nat.reduceSub, Nat.reduceEqDiff, Nat.reduceLeDiff, Nat.succ_ne_zero, true_and, eq_self, reduceCtorEq, Bool.false_eq_true, Bool.not_true, ↓reduceIte, TT3]
  refine ACall.intro (pcCut_a b n (by omega)) ?_
  cases c1 : decide ((parseP b).2 = 0)
  · rw [dF] at c1
    have hc : cutP b n = ([], (parseP b).2) := by rw [cutP, if_pos c1]
    rw [hc]
    simp only [decide_eq_false c1, ac_seq, ac_cond, ac_region, at_normal, ao_nil, ao_cons, ao_guard_t, st_at, pk_at, if_t, as_pick, as_call, as_move, as_assign, as_binOp, as_extract, as_len, i64, fr_false, List.contains_nil, beq_self_eq_true, Int.cast_ofNat_Int, decide_true, hk_some, hopG, hopF, rd, aopsD, frzW, frzR, constT, evT, lk, putT, GV, gdst, lenF, binF, argsF, constA, cellA, List.length_nil, List.getElem?_cons_zero, List.getElem?_cons_succ, Option.map_some, Nat.reduceSub, Nat.reduceEqDiff, Nat.reduceLeDiff, true_and, eq_self, Bool.false_eq_true, Bool.not_false, ↓reduceIte, TT3, TT38, TT56]
    refine ACall.intro lives46_a ?_
    simp only [ac_ret, at_normal, at_ret, ae_ret, ao_nil, ao_cons, pk_at, if_t, as_pick, as_assign, boA, beq_self_eq_true, rd, evT, lk, putT, resF, resL, Option.map_some, Option.bind_some, Nat.reduceSub, Nat.reduceEqDiff, and_true, and_self, eq_self, ↓reduceIte]
  · rw [dT] at c1
    obtain ⟨k1, k2⟩ := parseP_back b c1
    cases c2 : decide (n < 0)
    · rw [dF] at c2
      cases c3 : decide (((parseP b).1.length : Int) < n)
      · rw [dF] at c3
        obtain ⟨m, rfl⟩ := Int.eq_ofNat_of_zero_le (show 0 ≤ n by omega)
        have hc : cutP b (m : Int) = (topP ++ bodyB ((parseP b).1.take m), 0) := by rw [cutP, if_neg (by simpa using c1), if_neg (by omega), Int.toNat_natCast]
        have q : (m : Int) ≤ ((parseP b).1.length : Int) := by omega
        have q0 : (0 : Int) ≤ (m : Int) := by omega
        have hz : ((m : Int) - 0).toNat = m := by omega
        have hbl := body_take_le (parseP b).1 m
        have htl : topP.length = 24 := by decide
        have hbb : b.length = topP.length + (bodyB (parseP b).1).length := by have := congrArg List.length k1; simpa using this
        have hput2 := refPut46_a ((parseP b).1.take m) (fun r hr => (k2 r (List.mem_of_mem_take hr)).1) (by omega) (by simp; omega)
        have hp : putR ((parseP b).1.take m) = (topP ++ bodyB ((parseP b).1.take m), 0) := by
          rw [putR, if_pos (List.all_eq_true.2 fun r hr => (k2 r (List.mem_of_mem_take hr)).2)]
        rw [hp] at hput2
        rw [hc]
        simp only [decide_eq_true c1, decide_eq_false c2, decide_eq_false c3, recs_div, q, q0, hz, recs_take, ac_skip, ac_seq, ac_cond, ac_region, at_normal, ao_nil, ao_cons, ao_guard_f, st_at, pk_at, if_f, as_pick, as_call, as_move, as_assign, as_binOp, as_extract, as_slice, as_len, i64, fr_false, List.contains_nil, beq_self_eq_true, hk_some, hopG, hopF, rd, aopsD, frzW, frzR, constT, evT, lk, putT, GV, gdst, lenF, binF, bndF, cutF, argsF, constA, cellA, List.getElem?_cons_zero, List.getElem?_cons_succ, List.getElem?_nil, List.drop_zero, Option.map_some, Option.map_none, Option.bind_some, Nat.reduceSub, Nat.reduceEqDiff, Nat.reduceLeDiff, true_and, and_true, and_self, eq_self, reduceCtorEq, Bool.false_eq_true, Bool.not_true, ↓reduceIte, Int.toNat_zero, Int.reduceLE, Nat.zero_mul, Nat.zero_lt_succ, TT3, TT66]
        refine ACall.intro hput2 ?_
        simp only [ac_seq, ac_region, at_normal, ao_nil, ao_cons, ao_guard_t, st_at, if_t, as_call, as_move, as_assign, as_binOp, as_extract, i64, fr_false, List.contains_nil, beq_self_eq_true, decide_true, hk_some, hopG, rd, aopsD, frzW, frzR, constT, evT, lk, putT, GV, gdst, binF, argsF, constA, cellA, List.getElem?_cons_zero, List.getElem?_cons_succ, Option.map_some, Nat.reduceSub, Nat.reduceEqDiff, Nat.reduceLeDiff, true_and, eq_self, Bool.false_eq_true, ↓reduceIte, TT56]
        refine ACall.intro (refSame_a _ _) ?_
        simp only [recs_div, ao_cons, ao_guard_t, ao_guard_f, st_at, pk_at, if_t, as_pick, as_move, as_binOp, as_len, boA, beq_self_eq_true, hk_some, hopG, hopF, rd, evT, lk, putT, GV, gdst, lenF, binF, Option.map_some, Nat.reduceSub, Nat.reduceEqDiff, true_and, eq_self, reduceCtorEq, ↓reduceIte, Nat.zero_lt_succ, TT3, TT66]
        cases c4 : decide ((m : Int) < ((parseP b).1.length : Int))
        · rw [dF] at c4
          simp only [ao_guard_f, st_at, if_f, as_call, as_move, beq_self_eq_true, rd, frzW, frzR, evT, lk, putT, GV, gdst, argsF, Option.map_some, Nat.reduceSub, Nat.reduceEqDiff, Nat.succ_ne_zero, eq_self, ↓reduceIte]
          refine ACall.intro (refSame_a _ _) ?_
          have hm : m = (parseP b).1.length := by omega
          have heq : (topP ++ bodyB ((parseP b).1.take m) == b) = true := by
            rw [hm, List.take_length, ← k1]
            simp
          rw [heq]
          simp only [ao_cons, ao_guard_t, st_at, pk_at, if_t, if_f, as_pick, as_call, as_move, boA, beq_self_eq_true, frzW, frzR, evT, lk, putT, GV, gdst, argsF, Nat.reduceSub, Nat.reduceEqDiff, eq_self, ↓reduceIte]
          refine ACall.intro lives46_a ?_
          simp only [ac_ret, at_normal, ae_ret, ao_nil, ao_cons, pk_at, if_t, as_pick, as_assign, boA, beq_self_eq_true, rd, evT, lk, putT, resF, resL, Option.map_some, Option.bind_some, Nat.reduceSub, Nat.reduceEqDiff, and_true, and_self, eq_self, ↓reduceIte]
        · simp only [ao_cons, ao_guard_t, ao_guard_f, st_at, sk_at, pk_at, if_t, as_pick, as_call, as_move, beq_self_eq_true, frzW, frzR, constT, evT, lk, putT, GV, gdst, argsF, constA, cellA, Nat.reduceSub, Nat.reduceEqDiff, eq_self, ↓reduceIte]
          refine ACall.intro lives46_a ?_
          simp only [ac_ret, at_normal, ae_ret, ao_nil, ao_cons, pk_at, if_t, as_pick, as_assign, boA, beq_self_eq_true, rd, evT, lk, putT, resF, resL, Option.map_some, Option.bind_some, Nat.reduceSub, Nat.reduceEqDiff, and_true, and_self, eq_self, ↓reduceIte]
      · rw [dT] at c3
        have hc : cutP b n = ([], 11) := by rw [cutP, if_neg (by simpa using c1), if_pos (.inr c3)]
        rw [hc]
        simp only [decide_eq_true c1, decide_eq_false c2, decide_eq_true c3, recs_div, ac_skip, ac_seq, ac_cond, ac_region, at_normal, ao_nil, ao_cons, ao_guard_t, ao_guard_f, st_at, pk_at, if_t, if_f, as_pick, as_call, as_move, as_assign, as_binOp, as_extract, as_len, i64, fr_false, List.contains_nil, beq_self_eq_true, Int.cast_ofNat_Int, decide_true, hk_some, hopG, hopF, rd, aopsD, frzW, frzR, constT, evT, lk, putT, GV, gdst, lenF, binF, argsF, constA, cellA, List.length_nil, List.getElem?_cons_zero, List.getElem?_cons_succ, Option.map_some, Nat.reduceSub, Nat.reduceEqDiff, Nat.reduceLeDiff, true_and, eq_self, reduceCtorEq, Bool.false_eq_true, Bool.not_true, ↓reduceIte, Nat.zero_lt_succ, TT3, TT38, TT56, TT66]
        refine ACall.intro lives46_a ?_
        simp only [ac_ret, at_normal, at_ret, ae_ret, ao_nil, ao_cons, pk_at, if_t, as_pick, as_assign, boA, beq_self_eq_true, rd, evT, lk, putT, resF, resL, Option.map_some, Option.bind_some, Nat.reduceSub, Nat.reduceEqDiff, and_true, and_self, eq_self, ↓reduceIte]
    · rw [dT] at c2
      have hc : cutP b n = ([], 11) := by rw [cutP, if_neg (by simpa using c1), if_pos (.inl c2)]
      rw [hc]
      simp only [decide_eq_true c1, decide_eq_true c2, ac_skip, ac_seq, ac_cond, ac_region, at_normal, ao_nil, ao_cons, ao_guard_t, ao_guard_f, st_at, sk_at, pk_at, if_t, if_f, as_pick, as_call, as_move, as_assign, as_binOp, as_extract, as_len, i64, fr_false, List.contains_nil, beq_self_eq_true, Int.cast_ofNat_Int, decide_true, hk_some, hopG, hopF, rd, aopsD, frzW, frzR, constT, evT, lk, putT, GV, gdst, lenF, binF, argsF, constA, cellA, List.length_nil, List.getElem?_cons_zero, List.getElem?_cons_succ, Option.map_some, Nat.reduceSub, Nat.reduceEqDiff, Nat.reduceLeDiff, true_and, eq_self, reduceCtorEq, Bool.false_eq_true, Bool.not_true, ↓reduceIte, TT3, TT38, TT56]
      refine ACall.intro lives46_a ?_
      simp only [ac_ret, at_normal, at_ret, ae_ret, ao_nil, ao_cons, pk_at, if_t, as_pick, as_assign, boA, beq_self_eq_true, rd, evT, lk, putT, resF, resL, Option.map_some, Option.bind_some, Nat.reduceSub, Nat.reduceEqDiff, and_true, and_self, eq_self, ↓reduceIte]
end Go.Proofs.Ythjojkkapboonaa
