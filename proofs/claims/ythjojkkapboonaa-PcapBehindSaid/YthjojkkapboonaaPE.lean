/- The reference's Parse; pcap.Size, pcap.Cut. -/
import Derived.Test.YthjojkkapboonaaPD
namespace Go.Proofs.Ythjojkkapboonaa
set_option linter.unusedSimpArgs false
set_option linter.unusedVariables false
open Go.RowKit

theorem bN_drop (b : List UInt8) (i k : Nat) : bN (b.drop i) k = bN b (i + k) := by
  unfold bN
  simp [List.getD]
theorem le4N_drop (b : List UInt8) (i k : Nat) : le4N (b.drop i) k = le4N b (i + k) := by
  unfold le4N
  rw [bN_drop, bN_drop, bN_drop, bN_drop]
  simp only [Nat.add_assoc]
theorem oneP_drop (b : List UInt8) (i : Nat) (h : i ≤ b.length) : oneP (b.drop i) = if (b.length : Int) - i < 16 then (rec0, [], 4) else if 999999 < le4N b (i + 4) ∨ 65535 < le4N b (i + 8) ∨ ¬ le4N b (i + 12) = le4N b (i + 8) then (rec0, [], 3)
    else if (b.length : Int) - i - 16 < le4N b (i + 8) then (rec0, [], 4) else (⟨le4N b i, le4N b (i + 4), (b.drop (i + 16)).take (le4N b (i + 8)).toNat⟩, b.drop (i + 16 + (le4N b (i + 8)).toNat), 0) := by
  unfold oneP
  simp only [le4N_drop, List.length_drop, List.drop_drop, Nat.add_zero]
  by_cases h1 : (b.length : Int) - i < 16
  · rw [if_pos h1, if_pos (by omega)]
  · rw [if_neg h1, if_neg (by omega)]
    by_cases h2 : 999999 < le4N b (i + 4) ∨ 65535 < le4N b (i + 8) ∨ ¬ le4N b (i + 12) = le4N b (i + 8)
    · rw [if_pos h2, if_pos (by rcases h2 with h2 | h2 | h2; exact .inl (by omega); exact .inr (.inl h2); exact .inr (.inr h2))]
    · rw [if_neg h2, if_neg (by rintro (h3 | h3 | h3); exact h2 (.inl (by omega)); exact h2 (.inr (.inl h3)); exact h2 (.inr (.inr h3)))]
      by_cases h3 : (b.length : Int) - i - 16 < le4N b (i + 8)
      · rw [if_pos h3, if_pos (by omega)]
      · rw [if_neg h3, if_neg (by omega), Nat.add_assoc]
/-- What is known at each round of the reference's Parse. -/
structure RpK (b : List UInt8) where
  acc : List RecN
  i : Nat
  f : Nat
  hi : i ≤ b.length
  hf : b.length - i ≤ f
  h : parseP b = comb acc (recsP f (b.drop i))
  hl : acc.length * 16 ≤ i
def rpI (b : List UInt8) (acc : List RecN) (i : Nat) : AE := match acc with
  | [] => ⟨[(5, .v (i64 i)), (0, .v (.bs b)), (4, .z)], []⟩
  | r :: acc => ⟨[(5, .v (i64 i)), (0, .v (.bs b)), (4, .r 0 72 3 (.sl 3 (recsL (r :: acc))))], [(true, [])]⟩
set_option maxRecDepth 100000 in
set_option maxHeartbeats 4000000 in
theorem refParse46_n (b : List UInt8) (hl : b.length ≤ 100000) : ASpec Try.prog 39 [.bs b] (.tup [recsV (parseP b).1, i64 (parseP b).2]) := by
  refine ASpec.of_body TT_ok Try.mixed _ [.tmp 2, .tmp 3] ([], []) Try.func39 (by kernel_rfl) rfl rfl (by simp only [Try.ntmps39, List.length_cons, List.length_nil]; omega) rfl (by kernel_rfl) ?_
  simp only [argE_cons, argE_nil, ac_seq, ac_cond, ac_region, at_normal, ao_nil, ao_cons, as_move, as_assign, as_binOp, as_len, i64, fr_false, List.contains_nil, beq_self_eq_true, hk_some, hopG, hopF, rd, aopsD, constT, evT, lk, putT, lenF, binF, constA, cellA, Option.map_some, Nat.reduceSub, Nat.reduceLeDiff, Nat.succ_ne_zero, true_and, eq_self, Bool.false_eq_true, ↓reduceIte, Nat.zero_add, TT3, TT38]
  cases c1 : decide ((b.length : Int) < 24)
  · rw [dF] at c1
    have P : parseP b = if ¬ b.take 24 = topP then ([], 3) else recsP b.length (b.drop 24) := if_neg (by omega)
    have q1 : (24 : Int) ≤ (b.length : Int) := by omega
    simp only [q1, ac_skip, ac_seq, ac_region, at_normal, ao_cons, if_f, as_call, as_move, as_slice, fr_false, List.contains_nil, Nat.reduceBEq, hk_some, hopG, rd, aopsD, frzW, tlN, constT, evT, lk, putT, bndF, cutF, argsF, constA, cellA, List.length_cons, List.length_nil, List.getElem?_nil, List.drop_zero, Option.map_some, Option.map_none, Option.bind_some, Nat.reduceAdd, Nat.reduceSub, Nat.reduceLeDiff, Nat.succ_ne_zero, true_and, and_true, and_self, eq_self, ↓reduceIte, Int.toNat_zero, Int.reduceToNat, Int.reduceLE, Int.reduceSub, Nat.zero_add, TT38]
    refine ACall.intro refTop46_a ?_
    simp only [ao_cons, as_call, Nat.reduceBEq, rd, frzW, evT, lk, putT, argsF, Option.map_some, Nat.reduceSub, Nat.reduceEqDiff, eq_self, ↓reduceIte]
    refine ACall.intro (refSame_a (b.take 24) topP) ?_
    cases c2 : (b.take 24 == topP)
    · rw [if_pos (by simpa using c2)] at P
      simp only [ac_ret, ac_seq, ac_cond, ac_region, at_normal, at_ret, ae_ret, ao_nil, ao_cons, if_t, as_assign, as_unOp, boA, fr_false, List.contains_nil, Nat.reduceBEq, beq_self_eq_true, hk_some, hopG, rd, aopsD, constT, evT, lk, putT, unF, resF, resL, constA, cellA, Option.map_some, Option.bind_some, Nat.reduceSub, Nat.reduceEqDiff, Nat.reduceLeDiff, true_and, and_true, eq_self, Bool.false_eq_true, Bool.not_false, ↓reduceIte]
      rw [P]
      rfl
    · rw [if_neg (by simpa using c2)] at P
      simp only [ac_skip, ac_seq, ac_block, ac_cond, ac_region, ac_loop, at_normal, ao_nil, ao_cons, if_f, as_assign, as_unOp, boA, fr_false, List.contains_nil, Nat.reduceBEq, beq_self_eq_true, hk_some, hopG, rd, aopsD, constT, evT, lk, putT, unF, constA, cellA, Option.map_some, Nat.reduceSub, Nat.reduceLeDiff, true_and, eq_self, Bool.false_eq_true, Bool.not_true, ↓reduceIte]
      refine .inr ⟨RpK b, fun x => rpI b x.acc x.i, fun x => b.length - x.i, ⟨[], 24, b.length, by omega, by omega, by rw [P, comb_nil _ (recsP_err _ _)], by simp⟩, ⟨rfl, le3 rfl rfl rfl trivial trivial trivial⟩, ?_⟩
      rintro ⟨acc, i, f, hi, hf, hp, hc⟩
      have P := oneP_drop b i hi
      have n4 := le4N_bd b (i + 4)
      have n8 := le4N_bd b (i + 8)
      obtain ⟨m, hm⟩ : ∃ m : Nat, le4N b (i + 8) = (m : Int) := ⟨(le4N b (i + 8)).toNat, by omega⟩
      have w16 : IntKind.i64.wrap ((i : Int) + 16) = ((i + 16 : Nat) : Int) := by rw [i64_in (by omega) (by omega)]; omega
      have w8 : IntKind.i64.wrap ((i : Int) + 8) = ((i + 8 : Nat) : Int) := by rw [i64_in (by omega) (by omega)]; omega
      have w4 : IntKind.i64.wrap ((i : Int) + 4) = ((i + 4 : Nat) : Int) := by rw [i64_in (by omega) (by omega)]; omega
      have w12 : IntKind.i64.wrap ((i : Int) + 12) = ((i + 12 : Nat) : Int) := by rw [i64_in (by omega) (by omega)]; omega
      have wl : IntKind.i64.wrap ((b.length : Int) - (i : Int)) = (b.length : Int) - (i : Int) := i64_in (by omega) (by omega)
      have wm : IntKind.i64.wrap (m : Int) = (m : Int) := i64_in (by omega) (by omega)
      cases acc with
      | nil =>
        simp only [rpI, ac_seq, ac_cond, ac_region, at_normal, ao_nil, ao_cons, as_move, as_binOp, as_len, i64, fr_false, List.contains_nil, beq_self_eq_true, hk_some, hopG, hopF, rd, aopsD, evT, lk, putT, lenF, binF, Option.map_some, Nat.reduceSub, Nat.reduceEqDiff, Nat.reduceLeDiff, Nat.succ_ne_zero, true_and, eq_self, Bool.false_eq_true, ↓reduceIte, TT3, TT38]
        cases c3 : decide ((i : Int) < (b.length : Int))
        · rw [dF] at c3
          simp only [ac_exit, ac_ret, ac_seq, ac_region, at_normal, at_exit, ab_exit, ae_ret, ao_nil, ao_cons, if_f, as_move, as_assign, fr_false, List.contains_nil, beq_self_eq_true, rd, aopsD, constT, evT, lk, putT, resF, resL, constA, cellA, Option.map_some, Option.bind_some, Nat.reduceSub, Nat.reduceEqDiff, Nat.reduceLeDiff, true_and, and_true, eq_self, reduceCtorEq, Bool.false_eq_true, ↓reduceIte]
          rw [hp, comb_done _ _ _ (by simp; omega)]
          rfl
        · rw [dT] at c3
          simp only [wl, ac_skip, ac_seq, ac_block, ac_cond, ac_region, at_normal, ao_nil, ao_cons, if_t, as_move, as_binOp, as_len, fr_false, List.contains_nil, beq_self_eq_true, hk_some, hopG, hopF, rd, aopsD, constT, evT, lk, putT, lenF, binF, constA, cellA, Option.map_some, Nat.reduceSub, Nat.reduceEqDiff, Nat.reduceLeDiff, Nat.succ_ne_zero, true_and, eq_self, Bool.false_eq_true, ↓reduceIte, TT3, TT38]
          obtain ⟨f, rfl⟩ : ∃ g, f = g + 1 := ⟨f - 1, by omega⟩
          have hne : ¬ (b.drop i).length = 0 := by simp; omega
          cases c4 : decide ((b.length : Int) - (i : Int) < 16)
          · rw [dF] at c4
            rw [if_neg (by omega)] at P
            simp only [w8, ac_skip, ac_seq, ac_region, at_normal, ao_cons, if_f, as_call, as_move, as_binOp, fr_false, List.contains_nil, beq_self_eq_true, hk_some, hopG, rd, aopsD, frzW, frzR, constT, evT, lk, putT, binF, argsF, constA, cellA, Option.map_some, Nat.reduceSub, Nat.reduceEqDiff, Nat.reduceLeDiff, Nat.succ_ne_zero, true_and, eq_self, Bool.false_eq_true, ↓reduceIte, TT3]
            refine ACall.intro (refAt46_a b (i + 8) (by omega) (by omega)) ?_
            simp only [w4, ac_seq, ac_region, at_normal, ao_nil, ao_cons, as_call, as_move, as_assign, as_binOp, u32A, fr_false, List.contains_nil, beq_self_eq_true, hk_some, hopG, rd, aopsD, frzW, frzR, constT, evT, lk, putT, binF, argsF, constA, cellA, Option.map_some, Nat.reduceSub, Nat.reduceEqDiff, Nat.reduceLeDiff, Nat.succ_ne_zero, true_and, eq_self, Bool.false_eq_true, ↓reduceIte, TT3]
            refine ACall.intro (refAt46_a b (i + 4) (by omega) (by omega)) ?_
            simp only [ao_cons, ao_guard_f, as_move, as_binOp, u32A, beq_self_eq_true, hk_some, hopG, rd, constT, evT, lk, putT, GV, gdst, binF, constA, cellA, Option.map_some, Nat.reduceSub, true_and, eq_self, ↓reduceIte, TT22]
            cases c5 : decide ((999999 : Int) < le4N b (i + 4))
            · rw [dF] at c5
              simp only [ao_cons, ao_guard_f, st_at, pk_at, if_f, as_pick, as_move, as_binOp, beq_self_eq_true, hk_some, hopG, rd, constT, evT, lk, putT, GV, gdst, binF, constA, cellA, Option.map_some, Nat.reduceSub, Nat.reduceEqDiff, true_and, eq_self, ↓reduceIte, TT22]
              cases c6 : decide ((65535 : Int) < le4N b (i + 8))
              · rw [dF] at c6
                simp only [w12, ao_guard_f, st_at, if_f, as_call, as_move, as_binOp, beq_self_eq_true, hk_some, hopG, rd, frzW, frzR, constT, evT, lk, putT, GV, gdst, binF, argsF, constA, cellA, Option.map_some, Nat.reduceSub, Nat.reduceEqDiff, Nat.succ_ne_zero, true_and, eq_self, ↓reduceIte, TT3]
                refine ACall.intro (refAt46_a b (i + 12) (by omega) (by omega)) ?_
                cases c7 : decide (le4N b (i + 12) = le4N b (i + 8))
                · simp only [c7, ac_ret, ac_seq, ac_cond, ac_region, at_normal, at_ret, ab_ret, ae_ret, ao_nil, ao_cons, ao_guard_f, st_at, pk_at, if_t, if_f, as_pick, as_move, as_assign, as_binOp, u32A, fr_false, List.contains_nil, beq_self_eq_true, hk_some, hopG, rd, aopsD, constT, evT, lk, putT, GV, gdst, binF, resF, resL, constA, cellA, Option.map_some, Option.bind_some, Nat.reduceSub, Nat.reduceEqDiff, Nat.reduceLeDiff, true_and, and_true, eq_self, Bool.false_eq_true, Bool.not_false, ↓reduceIte, TT22]
                  rw [dF] at c7
                  rw [if_pos (.inr (.inr c7))] at P
                  have he : ¬ (oneP (b.drop i)).2.2 = 0 := by rw [P]; simp
                  rw [hp, comb_bad _ _ _ hne he, P]
                  rfl
                · simp only [c7, ac_skip, ac_seq, ac_cond, ac_region, at_normal, ao_nil, ao_cons, ao_guard_f, st_at, pk_at, if_f, as_pick, as_call, as_move, as_binOp, as_convert, u32A, fr_false, List.contains_nil, beq_self_eq_true, hk_some, hopG, rd, aopsD, frzW, frzR, constT, evT, lk, putT, GV, gdst, binF, convF, argsF, constA, cellA, Option.map_some, Nat.reduceSub, Nat.reduceEqDiff, Nat.reduceLeDiff, Nat.succ_ne_zero, true_and, eq_self, Bool.false_eq_true, Bool.not_true, ↓reduceIte, TT3, TT22]
                  simp only [hm, w16, wm]
                  rw [dT] at c7
                  rw [if_neg (by omega)] at P
                  refine ACall.intro (refCut_a b (i + 16 : Nat) m (by omega) (by simp only [small]; omega)) ?_
                  cases c8 : thereB b.length (i + 16 : Nat) m
                  · have ht : ¬ thereB b.length (i + 16 : Nat) m = true := by rw [c8]; simp
                    rw [thereB_iff] at ht
                    rw [if_pos (by omega)] at P
                    have he : ¬ (oneP (b.drop i)).2.2 = 0 := by rw [P]; simp
                    simp only [ac_ret, ac_seq, ac_cond, ac_region, at_normal, at_ret, ab_ret, ae_ret, ao_nil, ao_cons, if_t, as_move, as_assign, as_unOp, as_extract, boA, fr_false, List.contains_nil, beq_self_eq_true, hk_some, hopG, rd, aopsD, constT, evT, lk, putT, unF, resF, resL, constA, cellA, List.getElem?_cons_zero, List.getElem?_cons_succ, Option.map_some, Option.bind_some, Nat.reduceSub, Nat.reduceEqDiff, Nat.reduceLeDiff, true_and, and_true, eq_self, Bool.false_eq_true, Bool.not_false, ↓reduceIte]
                    rw [hp, comb_bad _ _ _ hne he, P]
                    rfl
                  · have ht := thereB_iff.1 c8
                    have hcut : cutB b (i + 16 : Nat) m = (b.drop (i + 16)).take m := by
                      rw [cutB, if_pos c8, Int.toNat_natCast, Int.toNat_natCast]
                    rw [if_neg (by omega), hm, Int.toNat_natCast] at P
                    have he : (oneP (b.drop i)).2.2 = 0 := by rw [P]
                    have hs := comb_step [] f (b.drop i) hne he
                    obtain ⟨r, hr⟩ : ∃ r, r = (oneP (b.drop i)).1 := ⟨_, rfl⟩
                    have hrr : r = ⟨le4N b i, le4N b (i + 4), (b.drop (i + 16)).take m⟩ := by rw [hr, P]
                    rw [← hr, show (oneP (b.drop i)).2.1 = b.drop (i + 16 + m) by rw [P]] at hs
                    rw [hcut]
                    simp only [ac_skip, ac_seq, ac_cond, ac_region, at_normal, ao_nil, ao_cons, if_f, as_call, as_move, as_assign, as_unOp, as_extract, boA, fr_false, List.contains_nil, beq_self_eq_true, hk_some, hopG, rd, aopsD, frzW, frzR, evT, lk, putT, unF, argsF, List.getElem?_cons_zero, List.getElem?_cons_succ, Option.map_some, Nat.reduceSub, Nat.reduceEqDiff, Nat.reduceLeDiff, Nat.succ_ne_zero, true_and, eq_self, reduceCtorEq, Bool.false_eq_true, Bool.not_true, ↓reduceIte]
                    refine ACall.intro (refAt46_a b i (by omega) (by omega)) ?_
                    simp only [w4, ao_cons, as_call, as_move, as_binOp, u32A, beq_self_eq_true, hk_some, hopG, rd, frzW, frzR, constT, evT, lk, putT, binF, argsF, constA, cellA, Option.map_some, Nat.reduceSub, Nat.reduceEqDiff, Nat.succ_ne_zero, true_and, eq_self, ↓reduceIte, TT3]
                    refine ACall.intro (refAt46_a b (i + 4) (by omega) (by omega)) ?_
                    have w17 : IntKind.i64.wrap (((i + 16 : Nat) : Int) + (m : Int)) = ((i + 16 + m : Nat) : Int) := by rw [i64_in (by omega) (by omega)]; omega
                    simp only [w16, wm, w17, ac_region, at_normal, ab_normal, ao_nil, ao_cons, as_move, as_assign, as_binOp, as_convert, as_build, as_buildSlice, u32A, fr_false, List.contains_nil, beq_self_eq_true, Bool.and_self, hk_some, hopG, rd, aopsD, as_append, appF, frzW, frzR, constT, evT, lk, putT, binF, convF, cellsF, ovw, fillF, buildF, makeSF, partsF, okCell, constA, cellA, Value.oneCell', List.length_cons, List.length_nil, List.map_cons, List.map_nil, List.getElem?_cons_zero, List.getElem?_cons_succ, List.set_cons_zero, List.set_cons_succ, List.nil_append, List.replicate_succ, List.replicate_zero, List.flatten_cons, List.flatten_nil, List.append_nil, List.all_cons, List.all_nil, Option.map_some, Nat.reduceAdd, Nat.reduceMul, Nat.reduceSub, Nat.reduceEqDiff, Nat.reduceLeDiff, true_and, and_self, eq_self, Bool.false_eq_true, ↓reduceIte, Nat.zero_mul, Nat.zero_add, Nat.zero_lt_succ, Nat.le_refl, TT3, TT22, TT66, TT72]
                    have htk : recL r = [u32A (le4N b i), u32A (le4N b (i + 4)), .bs ((b.drop (i + 16)).take m)] := by rw [hrr]
                    exact ⟨⟨[r], i + 16 + m, f, by omega, by omega, by rw [hp, hs]; rfl, by simp; omega⟩, ⟨rfl, le3 rfl rfl (congrArg (fun z => TV.r 0 72 3 (.sl 3 z)) (show _ = recsL [r] by simp only [recsL, List.flatMap_cons, List.flatMap_nil, List.append_nil, htk]) ) trivial trivial (by show (0 : Nat) < 1; decide)⟩, by show b.length - (i + 16 + m) < b.length - i; omega⟩
              · rw [dT] at c6
                simp only [ac_ret, ac_seq, ac_cond, ac_region, at_normal, at_ret, ab_ret, ae_ret, ao_nil, ao_cons, ao_guard_f, sk_at, pk_at, if_t, as_pick, as_assign, fr_false, List.contains_nil, beq_self_eq_true, rd, aopsD, constT, evT, lk, putT, GV, gdst, resF, resL, constA, cellA, Option.map_some, Option.bind_some, Nat.reduceSub, Nat.reduceEqDiff, Nat.reduceLeDiff, true_and, and_true, eq_self, Bool.false_eq_true, ↓reduceIte]
                rw [if_pos (.inr (.inl c6))] at P
                have he : ¬ (oneP (b.drop i)).2.2 = 0 := by rw [P]; simp
                rw [hp, comb_bad _ _ _ hne he, P]
                rfl
            · rw [dT] at c5
              simp only [ac_ret, ac_seq, ac_cond, ac_region, at_normal, at_ret, ab_ret, ae_ret, ao_nil, ao_cons, ao_guard_f, sk_at, pk_at, if_t, as_pick, as_move, as_assign, fr_false, List.contains_nil, beq_self_eq_true, rd, aopsD, constT, evT, lk, putT, GV, gdst, resF, resL, constA, cellA, Option.map_some, Option.bind_some, Nat.reduceSub, Nat.reduceEqDiff, Nat.reduceLeDiff, true_and, and_true, eq_self, Bool.false_eq_true, ↓reduceIte]
              rw [if_pos (.inl c5)] at P
              have he : ¬ (oneP (b.drop i)).2.2 = 0 := by rw [P]; simp
              rw [hp, comb_bad _ _ _ hne he, P]
              rfl
          · rw [dT] at c4
            rw [if_pos c4] at P
            have he : ¬ (oneP (b.drop i)).2.2 = 0 := by rw [P]; simp
            simp only [ac_ret, ac_seq, ac_region, at_normal, at_ret, ab_ret, ae_ret, ao_nil, ao_cons, if_t, as_assign, fr_false, List.contains_nil, beq_self_eq_true, rd, aopsD, constT, evT, lk, putT, resF, resL, constA, cellA, Option.map_some, Option.bind_some, Nat.reduceSub, Nat.reduceEqDiff, Nat.reduceLeDiff, true_and, and_true, eq_self, Bool.false_eq_true, ↓reduceIte]
            rw [hp, comb_bad _ _ _ hne he, P]
            rfl
      | cons a acc =>
        simp only [rpI, ac_seq, ac_cond, ac_region, at_normal, ao_nil, ao_cons, as_move, as_binOp, as_len, i64, fr_false, List.contains_nil, beq_self_eq_true, hk_some, hopG, hopF, rd, aopsD, evT, lk, putT, lenF, binF, Option.map_some, Nat.reduceSub, Nat.reduceEqDiff, Nat.reduceLeDiff, Nat.succ_ne_zero, true_and, eq_self, Bool.false_eq_true, ↓reduceIte, TT3, TT38]
        cases c3 : decide ((i : Int) < (b.length : Int))
        · rw [dF] at c3
          simp only [ac_exit, ac_ret, ac_seq, ac_region, at_normal, at_exit, ab_exit, ae_ret, ao_nil, ao_cons, if_f, as_move, as_assign, fr_false, fr_nil, fr_cons, List.contains_nil, beq_self_eq_true, rd, aopsD, constT, evT, lk, putT, resF, resL, constA, cellA, List.getElem?_cons_zero, Option.map_some, Option.bind_some, Nat.reduceSub, Nat.reduceEqDiff, Nat.reduceLeDiff, true_and, and_true, eq_self, reduceCtorEq, Bool.false_eq_true, ↓reduceIte]
          rw [hp, comb_done _ _ _ (by simp; omega)]
          rfl
        · rw [dT] at c3
          simp only [wl, ac_skip, ac_seq, ac_block, ac_cond, ac_region, at_normal, ao_nil, ao_cons, if_t, as_move, as_binOp, as_len, fr_false, List.contains_nil, beq_self_eq_true, hk_some, hopG, hopF, rd, aopsD, constT, evT, lk, putT, lenF, binF, constA, cellA, Option.map_some, Nat.reduceSub, Nat.reduceEqDiff, Nat.reduceLeDiff, Nat.succ_ne_zero, true_and, eq_self, Bool.false_eq_true, ↓reduceIte, TT3, TT38]
          obtain ⟨f, rfl⟩ : ∃ g, f = g + 1 := ⟨f - 1, by omega⟩
          have hne : ¬ (b.drop i).length = 0 := by simp; omega
          cases c4 : decide ((b.length : Int) - (i : Int) < 16)
          · rw [dF] at c4
            rw [if_neg (by omega)] at P
            simp only [w8, ac_skip, ac_seq, ac_region, at_normal, ao_cons, if_f, as_call, as_move, as_binOp, fr_false, List.contains_nil, beq_self_eq_true, hk_some, hopG, rd, aopsD, frzW, frzR, constT, evT, lk, putT, binF, argsF, constA, cellA, Option.map_some, Nat.reduceSub, Nat.reduceEqDiff, Nat.reduceLeDiff, Nat.succ_ne_zero, true_and, eq_self, Bool.false_eq_true, ↓reduceIte, TT3]
            refine ACall.intro (refAt46_a b (i + 8) (by omega) (by omega)) ?_
            simp only [w4, ac_seq, ac_region, at_normal, ao_nil, ao_cons, as_call, as_move, as_assign, as_binOp, u32A, fr_false, List.contains_nil, beq_self_eq_true, hk_some, hopG, rd, aopsD, frzW, frzR, constT, evT, lk, putT, binF, argsF, constA, cellA, Option.map_some, Nat.reduceSub, Nat.reduceEqDiff, Nat.reduceLeDiff, Nat.succ_ne_zero, true_and, eq_self, Bool.false_eq_true, ↓reduceIte, TT3]
            refine ACall.intro (refAt46_a b (i + 4) (by omega) (by omega)) ?_
            simp only [ao_cons, ao_guard_f, as_move, as_binOp, u32A, beq_self_eq_true, hk_some, hopG, rd, constT, evT, lk, putT, GV, gdst, binF, constA, cellA, Option.map_some, Nat.reduceSub, true_and, eq_self, ↓reduceIte, TT22]
            cases c5 : decide ((999999 : Int) < le4N b (i + 4))
            · rw [dF] at c5
              simp only [ao_cons, ao_guard_f, st_at, pk_at, if_f, as_pick, as_move, as_binOp, beq_self_eq_true, hk_some, hopG, rd, constT, evT, lk, putT, GV, gdst, binF, constA, cellA, Option.map_some, Nat.reduceSub, Nat.reduceEqDiff, true_and, eq_self, ↓reduceIte, TT22]
              cases c6 : decide ((65535 : Int) < le4N b (i + 8))
              · rw [dF] at c6
                simp only [w12, ao_guard_f, st_at, if_f, as_call, as_move, as_binOp, beq_self_eq_true, hk_some, hopG, rd, frzW, frzR, constT, evT, lk, putT, GV, gdst, binF, argsF, constA, cellA, Option.map_some, Nat.reduceSub, Nat.reduceEqDiff, Nat.succ_ne_zero, true_and, eq_self, ↓reduceIte, TT3]
                refine ACall.intro (refAt46_a b (i + 12) (by omega) (by omega)) ?_
                cases c7 : decide (le4N b (i + 12) = le4N b (i + 8))
                · simp only [c7, ac_ret, ac_seq, ac_cond, ac_region, at_normal, at_ret, ab_ret, ae_ret, ao_nil, ao_cons, ao_guard_f, st_at, pk_at, if_t, if_f, as_pick, as_move, as_assign, as_binOp, u32A, fr_false, List.contains_nil, beq_self_eq_true, hk_some, hopG, rd, aopsD, constT, evT, lk, putT, GV, gdst, binF, resF, resL, constA, cellA, Option.map_some, Option.bind_some, Nat.reduceSub, Nat.reduceEqDiff, Nat.reduceLeDiff, true_and, and_true, eq_self, Bool.false_eq_true, Bool.not_false, ↓reduceIte, TT22]
                  rw [dF] at c7
                  rw [if_pos (.inr (.inr c7))] at P
                  have he : ¬ (oneP (b.drop i)).2.2 = 0 := by rw [P]; simp
                  rw [hp, comb_bad _ _ _ hne he, P]
                  rfl
                · simp only [c7, ac_skip, ac_seq, ac_cond, ac_region, at_normal, ao_nil, ao_cons, ao_guard_f, st_at, pk_at, if_f, as_pick, as_call, as_move, as_binOp, as_convert, u32A, fr_false, List.contains_nil, beq_self_eq_true, hk_some, hopG, rd, aopsD, frzW, frzR, constT, evT, lk, putT, GV, gdst, binF, convF, argsF, constA, cellA, Option.map_some, Nat.reduceSub, Nat.reduceEqDiff, Nat.reduceLeDiff, Nat.succ_ne_zero, true_and, eq_self, Bool.false_eq_true, Bool.not_true, ↓reduceIte, TT3, TT22]
                  simp only [hm, w16, wm]
                  rw [dT] at c7
                  rw [if_neg (by omega)] at P
                  refine ACall.intro (refCut_a b (i + 16 : Nat) m (by omega) (by simp only [small]; omega)) ?_
                  cases c8 : thereB b.length (i + 16 : Nat) m
                  · have ht : ¬ thereB b.length (i + 16 : Nat) m = true := by rw [c8]; simp
                    rw [thereB_iff] at ht
                    rw [if_pos (by omega)] at P
                    have he : ¬ (oneP (b.drop i)).2.2 = 0 := by rw [P]; simp
                    simp only [ac_ret, ac_seq, ac_cond, ac_region, at_normal, at_ret, ab_ret, ae_ret, ao_nil, ao_cons, if_t, as_move, as_assign, as_unOp, as_extract, boA, fr_false, List.contains_nil, beq_self_eq_true, hk_some, hopG, rd, aopsD, constT, evT, lk, putT, unF, resF, resL, constA, cellA, List.getElem?_cons_zero, List.getElem?_cons_succ, Option.map_some, Option.bind_some, Nat.reduceSub, Nat.reduceEqDiff, Nat.reduceLeDiff, true_and, and_true, eq_self, Bool.false_eq_true, Bool.not_false, ↓reduceIte]
                    rw [hp, comb_bad _ _ _ hne he, P]
                    rfl
                  · have ht := thereB_iff.1 c8
                    have hcut : cutB b (i + 16 : Nat) m = (b.drop (i + 16)).take m := by
                      rw [cutB, if_pos c8, Int.toNat_natCast, Int.toNat_natCast]
                    rw [if_neg (by omega), hm, Int.toNat_natCast] at P
                    have he : (oneP (b.drop i)).2.2 = 0 := by rw [P]
                    have hs := comb_step (a :: acc) f (b.drop i) hne he
                    obtain ⟨r, hr⟩ : ∃ r, r = (oneP (b.drop i)).1 := ⟨_, rfl⟩
                    have hrr : r = ⟨le4N b i, le4N b (i + 4), (b.drop (i + 16)).take m⟩ := by rw [hr, P]
                    rw [← hr, show (oneP (b.drop i)).2.1 = b.drop (i + 16 + m) by rw [P]] at hs
                    rw [hcut]
                    simp only [ac_skip, ac_seq, ac_cond, ac_region, at_normal, ao_nil, ao_cons, if_f, as_call, as_move, as_assign, as_unOp, as_extract, boA, fr_false, List.contains_nil, beq_self_eq_true, hk_some, hopG, rd, aopsD, frzW, frzR, evT, lk, putT, unF, argsF, List.getElem?_cons_zero, List.getElem?_cons_succ, Option.map_some, Nat.reduceSub, Nat.reduceEqDiff, Nat.reduceLeDiff, Nat.succ_ne_zero, true_and, eq_self, reduceCtorEq, Bool.false_eq_true, Bool.not_true, ↓reduceIte]
                    refine ACall.intro (refAt46_a b i (by omega) (by omega)) ?_
                    simp only [w4, ao_cons, as_call, as_move, as_binOp, u32A, beq_self_eq_true, hk_some, hopG, rd, frzW, frzR, constT, evT, lk, putT, binF, argsF, constA, cellA, Option.map_some, Nat.reduceSub, Nat.reduceEqDiff, Nat.succ_ne_zero, true_and, eq_self, ↓reduceIte, TT3]
                    refine ACall.intro (refAt46_a b (i + 4) (by omega) (by omega)) ?_
                    have w17 : IntKind.i64.wrap (((i + 16 : Nat) : Int) + (m : Int)) = ((i + 16 + m : Nat) : Int) := by rw [i64_in (by omega) (by omega)]; omega
                    simp only [w16, wm, w17, ac_region, at_normal, ab_normal, ao_nil, ao_cons, as_move, as_assign, as_binOp, as_convert, as_build, as_buildSlice, u32A, fr_false, List.contains_nil, beq_self_eq_true, Bool.and_self, hk_some, hopG, rd, aopsD, as_append, appF, catA, dropT, dropV, frzW, frzR, constT, evT, lk, putT, binF, convF, cellsF, ovw, fillF, buildF, makeSF, partsF, okCell, constA, cellA, Value.oneCell', List.length_cons, List.length_nil, List.map_cons, List.map_nil, List.getElem?_cons_zero, List.getElem?_cons_succ, List.set_cons_zero, List.set_cons_succ, List.replicate_succ, List.replicate_zero, List.flatten_cons, List.flatten_nil, List.append_nil, List.all_cons, List.all_nil, Option.map_some, Nat.reduceAdd, Nat.reduceMul, Nat.reduceSub, Nat.reduceEqDiff, Nat.reduceLeDiff, true_and, and_self, eq_self, Bool.false_eq_true, ↓reduceIte, Nat.zero_mul, Nat.zero_add, Nat.zero_lt_succ, Nat.le_refl, TT3, TT22, TT66, TT72]
                    have htk : recL r = [u32A (le4N b i), u32A (le4N b (i + 4)), .bs ((b.drop (i + 16)).take m)] := by rw [hrr]
                    refine ⟨by rw [recsL_len]; simp at hc ⊢; omega, ?_⟩
                    exact ⟨⟨a :: (acc ++ [r]), i + 16 + m, f, by omega, by omega, by rw [hp, hs]; rfl, by simp at hc ⊢; omega⟩, ⟨rfl, le3 rfl rfl (congrArg (fun z => TV.r 0 72 3 (.sl 3 z)) (show _ = recsL (a :: (acc ++ [r])) by rw [show a :: (acc ++ [r]) = (a :: acc) ++ [r] from rfl, recs_snoc, htk])) trivial trivial (by show (0 : Nat) < 1; decide)⟩, by show b.length - (i + 16 + m) < b.length - i; omega⟩
              · rw [dT] at c6
                simp only [ac_ret, ac_seq, ac_cond, ac_region, at_normal, at_ret, ab_ret, ae_ret, ao_nil, ao_cons, ao_guard_f, sk_at, pk_at, if_t, as_pick, as_assign, fr_false, List.contains_nil, beq_self_eq_true, rd, aopsD, constT, evT, lk, putT, GV, gdst, resF, resL, constA, cellA, Option.map_some, Option.bind_some, Nat.reduceSub, Nat.reduceEqDiff, Nat.reduceLeDiff, true_and, and_true, eq_self, Bool.false_eq_true, ↓reduceIte]
                rw [if_pos (.inr (.inl c6))] at P
                have he : ¬ (oneP (b.drop i)).2.2 = 0 := by rw [P]; simp
                rw [hp, comb_bad _ _ _ hne he, P]
                rfl
            · rw [dT] at c5
              simp only [ac_ret, ac_seq, ac_cond, ac_region, at_normal, at_ret, ab_ret, ae_ret, ao_nil, ao_cons, ao_guard_f, sk_at, pk_at, if_t, as_pick, as_move, as_assign, fr_false, List.contains_nil, beq_self_eq_true, rd, aopsD, constT, evT, lk, putT, GV, gdst, resF, resL, constA, cellA, Option.map_some, Option.bind_some, Nat.reduceSub, Nat.reduceEqDiff, Nat.reduceLeDiff, true_and, and_true, eq_self, Bool.false_eq_true, ↓reduceIte]
              rw [if_pos (.inl c5)] at P
              have he : ¬ (oneP (b.drop i)).2.2 = 0 := by rw [P]; simp
              rw [hp, comb_bad _ _ _ hne he, P]
              rfl
          · rw [dT] at c4
            rw [if_pos c4] at P
            have he : ¬ (oneP (b.drop i)).2.2 = 0 := by rw [P]; simp
            simp only [ac_ret, ac_seq, ac_region, at_normal, at_ret, ab_ret, ae_ret, ao_nil, ao_cons, if_t, as_assign, fr_false, List.contains_nil, beq_self_eq_true, rd, aopsD, constT, evT, lk, putT, resF, resL, constA, cellA, Option.map_some, Option.bind_some, Nat.reduceSub, Nat.reduceEqDiff, Nat.reduceLeDiff, true_and, and_true, eq_self, Bool.false_eq_true, ↓reduceIte]
            rw [hp, comb_bad _ _ _ hne he, P]
            rfl
  · rw [dT] at c1
    have P : parseP b = ([], 4) := if_pos (by omega)
    simp only [ac_ret, ac_seq, ac_region, at_normal, at_ret, ae_ret, ao_nil, ao_cons, if_t, as_assign, fr_false, List.contains_nil, beq_self_eq_true, rd, aopsD, constT, evT, lk, putT, resF, resL, constA, cellA, Option.map_some, Option.bind_some, Nat.reduceSub, Nat.reduceEqDiff, Nat.reduceLeDiff, true_and, and_true, eq_self, Bool.false_eq_true, ↓reduceIte]
    rw [P]
    rfl
theorem refParse46_a (b : List UInt8) (hl : b.length ≤ 100000) : ASpec Try.prog 39 [.bs b] (.tup [.sl 3 (recsL (parseP b).1), i64 (parseP b).2]) :=
  (refParse46_n b hl).conv fun M w v h => by
    simp only [RepV] at h ⊢
    obtain ⟨us, rfl, h⟩ := h
    refine ⟨us, rfl, ?_⟩
    simp only [RepL] at h ⊢
    obtain ⟨v, vs, rfl, h1, h2⟩ := h
    exact ⟨v, vs, rfl, recsV_rep _ h1, h2⟩
set_option maxRecDepth 100000 in
theorem pcSize_a (l : List RecN) (hl : ∀ r ∈ l, r.ok) (hb : (bodyB l).length ≤ 900000) (hn : l.length ≤ 100000) : ASpec Try.prog 36 [.sl 3 (recsL l)] (i64 ((putR l).1.length : Int)) := by
  refine ASpec.of_body TT_ok Try.mixed _ [.tmp 2] ([], []) Try.func36 (by kernel_rfl) rfl rfl (by simp only [Try.ntmps36, List.length_cons, List.length_nil]; omega) rfl (by kernel_rfl) ?_
  simp only [argE_cons, argE_nil, ac_seq, ac_region, at_normal, ao_nil, ao_cons, as_call, as_move, as_assign, i64, fr_false, List.contains_nil, beq_self_eq_true, rd, aopsD, frzW, frzR, constT, evT, lk, putT, argsF, constA, cellA, Option.map_some, Nat.reduceSub, Nat.reduceLeDiff, Nat.succ_ne_zero, eq_self, Bool.false_eq_true, ↓reduceIte, Nat.zero_add]
  refine ACall.intro (pcPut_a l hl hb hn) ?_
  simp only [ac_ret, ac_seq, ac_region, at_normal, ae_ret, ao_nil, ao_cons, as_move, as_assign, as_extract, as_len, i64, fr_false, List.contains_nil, beq_self_eq_true, hk_some, hopG, hopF, rd, aopsD, evT, lk, putT, lenF, resF, resL, List.getElem?_cons_zero, List.getElem?_cons_succ, Option.map_some, Option.bind_some, Nat.reduceSub, Nat.reduceEqDiff, Nat.reduceLeDiff, and_true, and_self, eq_self, Bool.false_eq_true, ↓reduceIte, TT38]
  try rfl
end Go.Proofs.Ythjojkkapboonaa
