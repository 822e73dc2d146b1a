/- pcap.Cut; the statements of chapter 46. -/
import Derived.Test.YthjojkkapboonaaPF
namespace Go.Proofs.Ythjojkkapboonaa
set_option linter.unusedSimpArgs false
set_option linter.unusedVariables false
open Go.RowKit

/-- The file of the first records. -/
def cutP (b : List UInt8) (n : Int) : List UInt8 × Int := if ¬ (parseP b).2 = 0 then ([], (parseP b).2) else if n < 0 ∨ ((parseP b).1.length : Int) < n then ([], 11) else (topP ++ bodyB ((parseP b).1.take n.toNat), 0)
theorem recs_cut (l : List RecN) (n : Nat) : ((recsL l).drop (0 * 3)).take (n * 3) = recsL (l.take n) := by
  rw [Nat.zero_mul, List.drop_zero, recs_take]
set_option maxRecDepth 100000 in
theorem pcCut_a (b : List UInt8) (n : Int) (hl : b.length ≤ 100000) : ASpec Try.prog 40 [.bs b, i64 n] (.tup [.bs (cutP b n).1, i64 (cutP b n).2]) := by
  have hpl := parseP_len b
  refine ASpec.of_body TT_ok Try.mixed _ [.tmp 4, .tmp 5] ([], []) Try.func40 (by kernel_rfl) rfl rfl (by simp only [Try.ntmps40, List.length_cons, List.length_nil]; omega) rfl (by kernel_rfl) ?_
  simp only [argE_cons, argE_nil, ac_seq, ac_region, at_normal, ao_nil, ao_cons, as_call, as_move, as_assign, i64, fr_false, List.contains_nil, beq_self_eq_true, rd, aopsD, frzW, frzR, constT, evT, lk, putT, argsF, constA, cellA, Option.map_some, Nat.reduceAdd, Nat.reduceSub, Nat.reduceLeDiff, Nat.succ_ne_zero, eq_self, Bool.false_eq_true, ↓reduceIte, Nat.zero_add]
  refine ACall.intro (pcParse_a b hl) ?_
  simp only [ac_seq, ac_block, ac_cond, ac_region, at_normal, ao_nil, ao_cons, as_move, as_assign, as_binOp, as_extract, i64, fr_false, List.contains_nil, beq_self_eq_true, hk_some, hopG, rd, aopsD, constT, evT, lk, putT, binF, constA, cellA, List.getElem?_cons_zero, List.getElem?_cons_succ, Option.map_some, Nat.reduceSub, Nat.reduceEqDiff, Nat.reduceLeDiff, true_and, eq_self, Bool.false_eq_true, ↓reduceIte, TT56]
  cases c1 : decide ((parseP b).2 = 0)
  · rw [dF] at c1
    simp only [ac_ret, ac_seq, ac_region, at_normal, at_ret, ab_ret, ae_ret, ao_nil, ao_cons, if_t, as_move, as_assign, fr_false, List.contains_nil, beq_self_eq_true, rd, aopsD, constT, evT, lk, putT, resF, resL, Option.map_some, Option.bind_some, Nat.reduceSub, Nat.reduceEqDiff, Nat.reduceLeDiff, true_and, and_true, eq_self, Bool.false_eq_true, Bool.not_false, ↓reduceIte]
    rw [cutP, if_pos c1]
  · rw [dT] at c1
    obtain ⟨k1, k2⟩ := parseP_back b c1
    simp only [ac_seq, ac_region, ao_cons, ao_guard_f, if_f, as_move, as_binOp, fr_false, List.contains_nil, beq_self_eq_true, hk_some, hopG, rd, aopsD, constT, evT, lk, putT, GV, gdst, binF, constA, cellA, Option.map_some, Nat.reduceSub, Nat.reduceEqDiff, Nat.reduceLeDiff, true_and, eq_self, reduceCtorEq, Bool.false_eq_true, Bool.not_true, ↓reduceIte, TT3]
    cases c2 : decide (n < 0)
    · rw [dF] at c2
      simp only [recs_div, ac_cond, at_normal, ao_nil, ao_cons, ao_guard_f, st_at, pk_at, if_f, as_pick, as_move, as_assign, as_binOp, as_len, beq_self_eq_true, hk_some, hopG, hopF, rd, evT, lk, putT, GV, gdst, lenF, binF, Option.map_some, Nat.reduceSub, Nat.reduceEqDiff, true_and, eq_self, reduceCtorEq, ↓reduceIte, Nat.zero_lt_succ, TT3, TT63]
      cases c3 : decide (((parseP b).1.length : Int) < n)
      · rw [dF] at c3
        obtain ⟨m, rfl⟩ := Int.eq_ofNat_of_zero_le (show 0 ≤ n by omega)
        have q : (m : Int) ≤ ((parseP b).1.length : Int) := by omega
        have q0 : (0 : Int) ≤ (m : Int) := by omega
        have hz : ((m : Int) - 0).toNat = m := by omega
        have hbl := body_take_le (parseP b).1 m
        have hbb : b.length = topP.length + (bodyB (parseP b).1).length := by have := congrArg List.length k1; simpa using this
        simp only [q, q0, hz, recs_div, recs_take, ac_skip, ac_seq, ac_region, at_normal, ab_normal, ao_cons, if_f, as_call, as_move, as_slice, fr_false, List.contains_nil, beq_self_eq_true, hk_some, hopG, rd, aopsD, frzW, frzR, constT, evT, lk, putT, bndF, cutF, argsF, constA, cellA, List.getElem?_nil, List.drop_zero, Option.map_some, Option.map_none, Option.bind_some, Nat.reduceSub, Nat.reduceEqDiff, Nat.reduceLeDiff, true_and, and_true, and_self, eq_self, reduceCtorEq, Bool.false_eq_true, ↓reduceIte, Int.toNat_zero, Int.reduceLE, Nat.zero_mul, Nat.zero_lt_succ, TT63]
        refine ACall.intro (pcPut_a ((parseP b).1.take m) (fun r hr => (k2 r (List.mem_of_mem_take hr)).1) (by omega) (by simp; omega)) ?_
        have hp : putR ((parseP b).1.take m) = (topP ++ bodyB ((parseP b).1.take m), 0) := by
          rw [putR, if_pos (List.all_eq_true.2 fun r hr => (k2 r (List.mem_of_mem_take hr)).2)]
        rw [hp]
        simp only [ac_ret, at_normal, ae_ret, ao_nil, ao_cons, as_assign, as_extract, i64, beq_self_eq_true, hk_some, hopG, rd, evT, lk, putT, resF, resL, List.getElem?_cons_zero, List.getElem?_cons_succ, Option.map_some, Option.bind_some, Nat.reduceSub, Nat.reduceEqDiff, true_and, and_true, eq_self, ↓reduceIte]
        rw [cutP, if_neg (by simpa using c1), if_neg (by omega), Int.toNat_natCast]
      · rw [dT] at c3
        simp only [ac_ret, ac_seq, ac_region, at_normal, at_ret, ab_ret, ae_ret, ao_nil, ao_cons, if_t, as_assign, fr_false, List.contains_nil, beq_self_eq_true, rd, aopsD, constT, evT, lk, putT, resF, resL, constA, cellA, Option.map_some, Option.bind_some, Nat.reduceSub, Nat.reduceEqDiff, Nat.reduceLeDiff, true_and, and_true, eq_self, Bool.false_eq_true, ↓reduceIte]
        rw [cutP, if_neg (by simpa using c1), if_pos (.inr c3)]
    · rw [dT] at c2
      simp only [ac_ret, ac_seq, ac_cond, ac_region, at_normal, at_ret, ab_ret, ae_ret, ao_nil, ao_cons, ao_guard_f, sk_at, pk_at, if_t, as_pick, as_assign, fr_false, List.contains_nil, beq_self_eq_true, rd, aopsD, constT, evT, lk, putT, GV, gdst, resF, resL, constA, cellA, Option.map_some, Option.bind_some, Nat.reduceSub, Nat.reduceEqDiff, Nat.reduceLeDiff, true_and, and_true, eq_self, Bool.false_eq_true, ↓reduceIte]
      rw [cutP, if_neg (by simpa using c1), if_pos (.inl c2)]

def fewI (l : List RecN) (k : Nat) : AE := match k with
  | 0 => ⟨[(6, .v (i64 0)), (0, .v (.sl 3 (recsL l))), (4, .z), (5, .z)], []⟩
  | k + 1 => ⟨[(6, .v (i64 (k + 1 : Nat))), (0, .v (.sl 3 (recsL l))), (4, .r 1 65 3 (.sl 3 (recsL ((l.take (k + 1)).map cutR)))), (5, .r 2 72 3 (.sl 3 (recsL ((l.take (k + 1)).map cutR))))], [(true, recL (cutR (l.getD 0 rec0))), (true, []), (true, [])]⟩
theorem fewR_min (l : List RecN) : (fewR l).length = min 20 l.length := by simp [fewR]
structure FewK (l : List RecN) where
  k : Nat
  h : k ≤ l.length
  h20 : k ≤ 20
set_option maxRecDepth 100000 in
set_option maxHeartbeats 2000000 in
theorem few46_n (l : List RecN) (hn : l.length ≤ 9223372036854775807) : ASpec Try.prog 30 [.sl 3 (recsL l)] (.tup [recsV (fewR l), recsV (fewR l)]) := by
  refine ASpec.of_body TT_ok Try.mixed _ [.tmp 2, .tmp 3] ([], []) Try.func30 (by kernel_rfl) rfl rfl (by simp only [Try.ntmps30, List.length_cons, List.length_nil]; omega) rfl (by kernel_rfl) ?_
  simp only [argE_cons, argE_nil, ac_seq, ac_block, ac_region, ac_loop, at_normal, ao_nil, ao_cons, as_assign, fr_false, List.contains_nil, beq_self_eq_true, aopsD, constT, evT, putT, constA, cellA, Nat.reduceSub, Nat.reduceLeDiff, Bool.false_eq_true, ↓reduceIte, Nat.zero_add]
  refine .inr ⟨FewK l, fun x => fewI l x.k, fun x => 20 - x.k, ⟨0, by omega, by omega⟩, ⟨rfl, le4 rfl rfl rfl rfl trivial trivial trivial trivial⟩, ?_⟩
  rintro ⟨k, hk, h20⟩
  have h0k : (0 : Int) ≤ (k : Int) := by omega
  have w1 : IntKind.i64.wrap ((k : Int) + 1) = ((k + 1 : Nat) : Int) := by rw [i64_in (by omega) (by omega)]; omega
  by_cases hkl : k < l.length
  · have c0 : decide ((k : Int) < (l.length : Int)) = true := by simpa using hkl
    obtain ⟨r, hr⟩ : ∃ r, r = l.getD k rec0 := ⟨_, rfl⟩
    have hat := recs_at l k hkl
    have hd3 : (k + 1) * 3 ≤ (recsL l).length := by rw [recsL_len]; omega
    have htk : l.take (k + 1) = l.take k ++ [r] := by rw [hr, List.take_succ_eq_append_getElem hkl]; simp [List.getD, hkl]
    rw [← hr] at hat
    by_cases hk20 : k < 20
    · have c1 : decide ((k : Int) < 20) = true := by simp; omega
      cases k with
      | zero =>
        have c0 : decide ((0 : Int) < (l.length : Int)) = true := by simpa using hkl
        have hat0 : (recsL l).take 3 = recL r := by simpa using hat
        have hd0 : 3 ≤ (recsL l).length := by omega
        simp only [fewI, c0, recs_div, hat0, hd0, ac_skip, ac_seq, ac_block, ac_cond, ac_region, at_normal, ao_nil, ao_cons, ao_guard_t, st_at, pk_at, if_t, as_pick, as_call, as_alloc, as_store, as_move, as_binOp, as_load, as_fieldAddr, as_indexAddr, as_len, u32A, i64, fr_false, List.contains_nil, beq_self_eq_true, decide_true, Bool.and_self, hk_some, hopG, hopF, rd, aopsD, heapF, frzW, frzR, constT, evT, lk, putT, GV, gdst, lenF, binF, loadF, cellsF, ovw, argsF, okCell, constA, cellA, TK.isAgg, Value.oneCell', List.length_cons, List.length_nil, List.getElem?_cons_zero, List.getElem?_cons_succ, List.drop_zero, List.drop_succ_cons, List.take_succ_cons, List.take_nil, List.set_cons_zero, List.set_cons_succ, List.nil_append, List.all_cons, List.all_nil, Option.map_some, Nat.reduceAdd, Nat.reduceMul, Nat.reduceSub, Nat.reduceEqDiff, Nat.reduceLeDiff, Nat.succ_ne_zero, ne_eq, not_false_eq_true, true_and, and_self, eq_self, Bool.false_eq_true, ↓reduceIte, Int.toNat_zero, Int.reduceLT, Int.reduceLE, Nat.zero_mul, Nat.zero_add, Nat.zero_lt_succ, Nat.le_refl, TT3, TT38, TT63, TT65]
        refine ACall.intro (few_a r.data 100) ?_
        simp only [ac_seq, ac_region, at_normal, ab_normal, ao_nil, ao_cons, as_store, as_move, as_assign, as_binOp, as_load, as_fieldAddr, as_build, as_buildSlice, fr_false, List.contains_nil, beq_self_eq_true, Bool.and_self, hk_some, hopG, rd, aopsD, heapF, as_append, appF, frzW, frzR, constT, evT, lk, putT, binF, loadF, cellsF, ovw, fillF, buildF, makeSF, partsF, okCell, constA, cellA, TK.isAgg, Value.oneCell', List.length_cons, List.length_nil, List.map_cons, List.map_nil, List.getElem?_cons_zero, List.getElem?_cons_succ, List.drop_zero, List.drop_succ_cons, List.take_succ_cons, List.take_nil, List.set_cons_zero, List.set_cons_succ, List.nil_append, List.cons_append, List.replicate_succ, List.replicate_zero, List.flatten_cons, List.flatten_nil, List.append_nil, List.all_cons, List.all_nil, Option.map_some, Nat.reduceAdd, Nat.reduceMul, Nat.reduceSub, Nat.reduceEqDiff, Nat.reduceLeDiff, Nat.succ_ne_zero, ne_eq, not_false_eq_true, true_and, and_self, eq_self, reduceCtorEq, Bool.false_eq_true, ↓reduceIte, Int.reduceAdd, Nat.zero_mul, Nat.zero_add, Nat.add_zero, Nat.zero_lt_succ, Nat.le_refl, TT3, TT22, TT38, TT63, TT65, TT66, TT72]
        have e : [u32A r.sec, u32A r.usec, .bs (r.data.take 100)] = recsL ((l.take (0 + 1)).map cutR) := by rw [htk]; rfl
        have e2 : (true, [u32A r.sec, u32A r.usec, .bs (r.data.take 100)]) = (true, recL (cutR (l.getD 0 rec0))) := by rw [← hr]; rfl
        exact ⟨⟨1, by omega, by omega⟩, ⟨congrArg (fun z => [z, (true, []), (true, [])]) e2, le4 rfl rfl (congrArg (fun z => TV.r 1 65 3 (.sl 3 z)) e) (congrArg (fun z => TV.r 2 72 3 (.sl 3 z)) e) trivial trivial (by show (1 : Nat) < 3; decide) (by show (2 : Nat) < 3; decide)⟩, by show 20 - 1 < 20 - 0; omega⟩
      | succ k =>
        have hrl : (recsL ((l.take (k + 1)).map cutR)).length = (k + 1) * 3 := by rw [recsL_len]; simp; omega
        have q : (recsL ((l.take (k + 1)).map cutR)).length + 3 ≤ 1000000 := by omega
        simp only [fewI, c0, c1, recs_div, Int.toNat_natCast, hat, hd3, h0k, ac_skip, ac_seq, ac_block, ac_cond, ac_region, at_normal, ao_nil, ao_cons, ao_guard_t, st_at, pk_at, if_t, as_pick, as_call, as_alloc, as_store, as_move, as_binOp, as_load, as_fieldAddr, as_indexAddr, as_len, u32A, i64, fr_false, List.contains_nil, beq_self_eq_true, Bool.and_self, hk_some, hopG, hopF, rd, aopsD, heapF, frzW, frzR, constT, evT, lk, putT, GV, gdst, lenF, binF, loadF, cellsF, ovw, argsF, okCell, constA, cellA, TK.isAgg, Value.oneCell', List.length_cons, List.length_nil, List.getElem?_cons_zero, List.getElem?_cons_succ, List.drop_zero, List.drop_succ_cons, List.take_succ_cons, List.take_nil, List.set_cons_zero, List.set_cons_succ, List.nil_append, List.cons_append, List.all_cons, List.all_nil, Option.map_some, Nat.reduceAdd, Nat.reduceSub, Nat.reduceEqDiff, Nat.reduceLeDiff, Nat.succ_ne_zero, ne_eq, not_false_eq_true, true_and, and_self, eq_self, Bool.false_eq_true, ↓reduceIte, Nat.zero_add, Nat.zero_lt_succ, Nat.le_refl, TT3, TT38, TT63, TT65]
        refine ACall.intro (few_a r.data 100) ?_
        simp only [w1, q, ac_seq, ac_region, at_normal, ab_normal, ao_nil, ao_cons, as_store, as_move, as_assign, as_binOp, as_load, as_fieldAddr, as_build, as_buildSlice, fr_false, List.contains_nil, beq_self_eq_true, Bool.and_self, hk_some, hopG, rd, aopsD, heapF, as_append, appF, catA, dropT, dropV, frzW, frzR, constT, evT, lk, putT, binF, loadF, cellsF, ovw, fillF, buildF, makeSF, partsF, okCell, constA, cellA, TK.isAgg, Value.oneCell', List.length_cons, List.length_nil, List.map_cons, List.map_nil, List.getElem?_cons_zero, List.getElem?_cons_succ, List.drop_zero, List.drop_succ_cons, List.take_succ_cons, List.take_nil, List.set_cons_zero, List.set_cons_succ, List.replicate_succ, List.replicate_zero, List.flatten_cons, List.flatten_nil, List.append_nil, List.all_cons, List.all_nil, Option.map_some, Nat.reduceAdd, Nat.reduceMul, Nat.reduceSub, Nat.reduceEqDiff, Nat.reduceLeDiff, Nat.succ_ne_zero, ne_eq, not_false_eq_true, true_and, and_self, eq_self, reduceCtorEq, Bool.false_eq_true, ↓reduceIte, Nat.zero_mul, Nat.zero_add, Nat.add_zero, Nat.zero_lt_succ, Nat.le_refl, TT3, TT22, TT38, TT63, TT65, TT66, TT72]
        have e : recsL ((l.take (k + 1)).map cutR) ++ [u32A r.sec, u32A r.usec, .bs (r.data.take 100)] = recsL ((l.take (k + 1 + 1)).map cutR) := by rw [htk, List.map_append]; exact (recs_snoc _ (cutR r)).symm
        exact ⟨⟨k + 2, by omega, by omega⟩, ⟨rfl, le4 rfl rfl (congrArg (fun z => TV.r 1 65 3 (.sl 3 z)) e) (congrArg (fun z => TV.r 2 72 3 (.sl 3 z)) e) trivial trivial (by show (1 : Nat) < 3; decide) (by show (2 : Nat) < 3; decide)⟩, by show 20 - (k + 2) < 20 - (k + 1); omega⟩
    · obtain rfl : k = 20 := by omega
      have hf : (l.take 20).map cutR = fewR l := rfl
      have hne : ¬ (fewR l).length = 0 := by rw [fewR_min]; omega
      have hI : fewI l 20 = ⟨[(6, .v (i64 20)), (0, .v (.sl 3 (recsL l))), (4, .r 1 65 3 (.sl 3 (recsL (fewR l)))), (5, .r 2 72 3 (.sl 3 (recsL (fewR l))))], [(true, recL (cutR (l.getD 0 rec0))), (true, []), (true, [])]⟩ := rfl
      have c0 : decide ((20 : Int) < (l.length : Int)) = true := decide_eq_true (by omega)
      simp only [hI, c0, recs_div, ac_exit, ac_ret, ac_seq, ac_cond, ac_region, at_normal, at_exit, ab_exit, ae_ret, ao_nil, ao_cons, ao_guard_t, st_at, pk_at, if_t, if_f, as_pick, as_move, as_assign, as_binOp, as_len, i64, fr_false, fr_nil, fr_cons, List.contains_nil, beq_self_eq_true, decide_false, hk_some, hopG, hopF, rd, aopsD, constT, evT, lk, putT, GV, gdst, lenF, binF, resF, resL, constA, cellA, List.getElem?_cons_zero, List.getElem?_cons_succ, Option.map_some, Option.bind_some, Nat.reduceSub, Nat.reduceEqDiff, Nat.reduceLeDiff, Nat.succ_ne_zero, true_and, and_true, and_false, eq_self, reduceCtorEq, Bool.false_eq_true, ↓reduceIte, Int.reduceLT, Nat.zero_lt_succ, Nat.not_lt_zero, TT3, TT63]
      rw [recsV, if_neg hne]
  · have hkl' : k = l.length := by omega
    have c0 : decide ((k : Int) < (l.length : Int)) = false := decide_eq_false (by omega)
    cases k with
    | zero =>
      have hz : (fewR l).length = 0 := by rw [fewR_min]; omega
      have c0 : decide ((0 : Int) < (l.length : Int)) = false := decide_eq_false (by omega)
      simp only [fewI, c0, recs_div, ac_exit, ac_ret, ac_seq, ac_cond, ac_region, at_normal, at_exit, ab_exit, ae_ret, ao_nil, ao_cons, ao_guard_t, sk_at, pk_at, if_f, as_pick, as_move, as_assign, as_binOp, as_len, i64, fr_false, List.contains_nil, beq_self_eq_true, hk_some, hopG, hopF, rd, aopsD, constT, evT, lk, putT, GV, gdst, lenF, binF, resF, resL, constA, cellA, Option.map_some, Option.bind_some, Nat.reduceSub, Nat.reduceEqDiff, Nat.reduceLeDiff, Nat.succ_ne_zero, true_and, and_true, eq_self, reduceCtorEq, Bool.false_eq_true, ↓reduceIte, Nat.zero_lt_succ, TT3, TT63]
      rw [recsV, if_pos hz]
    | succ k =>
      have hf : (l.take (k + 1)).map cutR = fewR l := by
        unfold fewR
        rw [List.take_of_length_le (by omega), List.take_of_length_le (by omega)]
      have hne : ¬ (fewR l).length = 0 := by rw [fewR_min]; omega
      simp only [fewI, c0, recs_div, ac_exit, ac_ret, ac_seq, ac_cond, ac_region, at_normal, at_exit, ab_exit, ae_ret, ao_nil, ao_cons, ao_guard_t, sk_at, pk_at, if_f, as_pick, as_move, as_assign, as_binOp, as_len, i64, fr_false, fr_nil, fr_cons, List.contains_nil, beq_self_eq_true, hk_some, hopG, hopF, rd, aopsD, constT, evT, lk, putT, GV, gdst, lenF, binF, resF, resL, constA, cellA, List.getElem?_cons_zero, List.getElem?_cons_succ, Option.map_some, Option.bind_some, Nat.reduceSub, Nat.reduceEqDiff, Nat.reduceLeDiff, Nat.succ_ne_zero, true_and, and_true, eq_self, reduceCtorEq, Bool.false_eq_true, ↓reduceIte, Nat.zero_lt_succ, TT3, TT63]
      rw [hf, recsV, if_neg hne]
theorem few46_a (l : List RecN) (hn : l.length ≤ 9223372036854775807) : ASpec Try.prog 30 [.sl 3 (recsL l)] (.tup [.sl 3 (recsL (fewR l)), .sl 3 (recsL (fewR l))]) :=
  (few46_n l hn).conv fun M w v h => by
    simp only [RepV] at h ⊢
    obtain ⟨us, rfl, h⟩ := h
    refine ⟨us, rfl, ?_⟩
    simp only [RepL] at h ⊢
    obtain ⟨v, vs, rfl, h1, v2, vs2, h2, h3, h4⟩ := h
    exact ⟨v, vs, rfl, recsV_rep _ h1, v2, vs2, h2, recsV_rep _ h3, h4⟩
set_option maxRecDepth 100000 in
set_option maxHeartbeats 2000000 in
theorem same46_self (l : List RecN) (hn : l.length ≤ 1000000) : ASpec Try.prog 38 [.sl 3 (recsL l), .sl 3 (recsL l)] (boA true) := by
  refine ASpec.of_body TT_ok Try.mixed _ [.tmp 4] ([], []) Try.func38 (by kernel_rfl) rfl rfl (by simp only [Try.ntmps38, List.length_cons, List.length_nil]; omega) rfl (by kernel_rfl) ?_
  simp only [recs_div, argE_cons, argE_nil, ac_skip, ac_seq, ac_block, ac_cond, ac_region, ac_loop, at_normal, ao_nil, ao_cons, if_f, as_move, as_assign, as_binOp, as_len, boA, fr_false, List.contains_nil, beq_self_eq_true, decide_true, hk_some, hopG, hopF, rd, aopsD, constT, evT, lk, putT, lenF, binF, constA, cellA, Option.map_some, Nat.reduceAdd, Nat.reduceSub, Nat.reduceEqDiff, Nat.reduceLeDiff, Nat.succ_ne_zero, true_and, eq_self, reduceCtorEq, Bool.false_eq_true, Bool.not_true, ↓reduceIte, Nat.zero_add, Nat.zero_lt_succ, TT3, TT63, TT66]
  refine .inr ⟨{k : Nat // k ≤ l.length}, fun x => ⟨[(5, .v (i64 x.1)), (0, .v (.sl 3 (recsL l))), (1, .v (.sl 3 (recsL l)))], []⟩, fun x => l.length - x.1, ⟨0, by omega⟩, ⟨rfl, le3 rfl rfl rfl trivial trivial trivial⟩, ?_⟩
  rintro ⟨k, hk⟩
  have h0k : (0 : Int) ≤ (k : Int) := by omega
  have w1 : IntKind.i64.wrap ((k : Int) + 1) = ((k + 1 : Nat) : Int) := by rw [i64_in (by omega) (by omega)]; omega
  by_cases hkl : k < l.length
  · have c0 : decide ((k : Int) < (l.length : Int)) = true := by simpa using hkl
    obtain ⟨r, hr⟩ : ∃ r, r = l.getD k rec0 := ⟨_, rfl⟩
    have hat := recs_at l k hkl
    have hd3 : (k + 1) * 3 ≤ (recsL l).length := by rw [recsL_len]; omega
    rw [← hr] at hat
    simp only [c0, recs_div, Int.toNat_natCast, hat, hd3, h0k, ac_skip, ac_seq, ac_block, ac_cond, ac_region, at_normal, ao_nil, ao_cons, ao_guard_f, st_at, pk_at, if_t, if_f, as_pick, as_call, as_move, as_binOp, as_load, as_fieldAddr, as_indexAddr, as_len, u32A, i64, fr_false, List.contains_nil, Nat.reduceBEq, beq_self_eq_true, decide_true, hk_some, hopG, hopF, rd, aopsD, frzW, tlN, evT, lk, putT, GV, gdst, lenF, binF, loadF, argsF, TK.isAgg, List.length_cons, List.length_nil, List.getElem?_cons_zero, List.getElem?_cons_succ, List.drop_zero, List.drop_succ_cons, Option.map_some, Nat.reduceAdd, Nat.reduceSub, Nat.reduceEqDiff, Nat.reduceLT, Nat.reduceLeDiff, Nat.succ_ne_zero, ne_eq, not_false_eq_true, true_and, and_self, eq_self, reduceCtorEq, Bool.false_eq_true, Bool.not_true, ↓reduceIte, Nat.zero_add, Nat.zero_lt_succ, TT3, TT22, TT38, TT63, TT65, TT66, TT72]
    refine ACall.intro (refSame_a r.data r.data) ?_
    simp only [w1, ac_skip, ac_cond, ac_region, at_normal, ab_normal, ao_nil, ao_cons, ao_guard_f, st_at, pk_at, if_f, as_pick, as_move, as_assign, as_binOp, as_unOp, boA, fr_false, List.contains_nil, Nat.reduceBEq, beq_self_eq_true, hk_some, hopG, rd, aopsD, constT, evT, lk, putT, GV, gdst, binF, unF, constA, cellA, Option.map_some, Nat.reduceSub, Nat.reduceEqDiff, Nat.reduceLeDiff, true_and, eq_self, Bool.false_eq_true, Bool.not_true, ↓reduceIte, TT3]
    exact ⟨⟨k + 1, by omega⟩, ⟨rfl, le3 rfl rfl rfl trivial trivial trivial⟩, by show l.length - (k + 1) < l.length - k; omega⟩
  · have hkl' : k = l.length := by omega
    have c0 : decide ((k : Int) < (l.length : Int)) = false := decide_eq_false (by omega)
    simp only [c0, recs_div, ac_exit, ac_ret, ac_seq, ac_cond, ac_region, at_normal, at_exit, ab_exit, ae_ret, ao_nil, ao_cons, if_f, as_move, as_assign, as_binOp, as_len, i64, fr_false, List.contains_nil, beq_self_eq_true, hk_some, hopG, hopF, rd, aopsD, constT, evT, lk, putT, lenF, binF, resF, resL, constA, cellA, Option.map_some, Option.bind_some, Nat.reduceSub, Nat.reduceEqDiff, Nat.reduceLeDiff, Nat.succ_ne_zero, and_true, and_self, eq_self, Bool.false_eq_true, ↓reduceIte, Nat.zero_lt_succ, TT3, TT63]
def rec46 : RecN := ⟨258, 0, [u8 9]⟩
set_option maxRecDepth 100000 in
theorem lives46_a : ASpec Try.prog 32 [] (boA true) := by
  have hok : rec46.ok := by constructor <;> simp [rec46]
  have hall : ∀ r ∈ [rec46], r.ok ∧ okR r = true := fun r hr => by rw [List.mem_singleton.1 hr]; exact ⟨hok, by decide⟩
  have hput : putR [rec46] = (topP ++ bodyB [rec46], 0) := by rw [putR, if_pos (by decide)]
  have hbody : (bodyB [rec46]).length = 17 := by decide
  obtain ⟨B, hB⟩ : ∃ B, B = topP ++ bodyB [rec46] := ⟨_, rfl⟩
  have hpar : parseP B = ([rec46], 0) := by rw [hB]; exact parseP_put _ hall
  have hlen : B.length = 41 := by rw [hB]; decide
  have h24 : ((B.getD 24 0).toNat : Int) = 2 := by rw [hB]; decide +kernel
  have h25 : ((B.getD 25 0).toNat : Int) = 1 := by rw [hB]; decide +kernel
  have a1 := pcPut_a [rec46] (fun r hr => (hall r hr).1) (by omega) (by simp)
  rw [hput, ← hB] at a1
  have a2 := pcParse_a B (by omega)
  rw [hpar] at a2
  refine ASpec.of_body TT_ok Try.mixed _ [.tmp 0] ([], []) Try.func32 (by kernel_rfl) rfl rfl (by simp only [Try.ntmps32, List.length_nil]; omega) rfl (by kernel_rfl) ?_
  simp only [argE_nil, ac_seq, ac_region, at_normal, ao_nil, ao_cons, as_call, as_assign, as_build, as_buildSlice, boA, fr_false, List.contains_nil, beq_self_eq_true, hk_some, hopG, rd, aopsD, frzW, frzR, constT, evT, lk, putT, cellsF, ovw, fillF, buildF, bytesOf, makeSF, partsF, argsF, constA, cellA, Value.oneCell', List.length_cons, List.length_nil, List.map_cons, List.map_nil, List.getElem?_cons_zero, List.getElem?_cons_succ, List.set_cons_zero, List.set_cons_succ, List.replicate_succ, List.replicate_zero, List.flatten_cons, List.flatten_nil, List.append_nil, Option.map_some, Nat.reduceAdd, Nat.reduceMul, Nat.reduceSub, Nat.reduceLeDiff, true_and, and_self, eq_self, Bool.false_eq_true, ↓reduceIte, Int.reduceLE, Nat.zero_mul, Nat.mul_one, Nat.zero_add, Nat.zero_lt_succ, Nat.le_refl, TT5, TT38, TT63, TT65]
  refine ACall.intro a1 ?_
  simp only [ac_seq, ac_region, at_normal, ao_nil, ao_cons, as_call, as_move, as_assign, as_extract, i64, fr_false, List.contains_nil, beq_self_eq_true, hk_some, hopG, rd, aopsD, frzW, frzR, evT, lk, putT, argsF, List.getElem?_cons_zero, List.getElem?_cons_succ, Option.map_some, Nat.reduceSub, Nat.reduceEqDiff, Nat.reduceLeDiff, true_and, eq_self, Bool.false_eq_true, ↓reduceIte]
  refine ACall.intro a2 ?_
  have e : recsL [rec46] = [u32A 258, u32A 0, .bs [u8 9]] := rfl
  have h9 : (([u8 9] : List UInt8).getD 0 0).toNat = 9 := by decide
  simp only [e, hlen, h24, h25, h9, ac_ret, ac_seq, ac_region, at_normal, ae_ret, ao_nil, ao_cons, ao_guard_t, st_at, pk_at, if_t, as_pick, as_move, as_assign, as_binOp, as_load, as_fieldAddr, as_indexAddr, as_extract, as_len, u32A, i64, fr_false, List.contains_nil, beq_self_eq_true, Int.cast_ofNat_Int, decide_true, hk_some, hopG, hopF, rd, aopsD, constT, evT, lk, putT, GV, gdst, lenF, binF, loadF, resF, resL, constA, cellA, TK.isAgg, List.length_cons, List.length_nil, List.getElem?_cons_zero, List.getElem?_cons_succ, List.drop_zero, List.drop_succ_cons, List.take_succ_cons, List.take_nil, Option.map_some, Option.bind_some, Nat.reduceAdd, Nat.reduceMul, Nat.reduceSub, Nat.reduceEqDiff, Nat.reduceLT, Nat.reduceLeDiff, Nat.reduceDiv, Nat.succ_ne_zero, ne_eq, not_false_eq_true, and_true, and_self, eq_self, Bool.false_eq_true, ↓reduceIte, Int.toNat_zero, Int.reduceToNat, Int.reduceLT, Int.reduceLE, Nat.zero_mul, Nat.zero_add, Nat.zero_lt_succ, Nat.le_refl, TT3, TT5, TT22, TT38, TT56, TT63, TT65]
end Go.Proofs.Ythjojkkapboonaa
