/- The reference's ipv4 parser; what is written is read; the statements' own texts. -/
import Derived.Test.YtafajmnlknmfiaaVC
namespace Go.Proofs.Ytafajmnlknmfiaa
set_option linter.unusedSimpArgs false
set_option linter.unusedVariables false
open Go.RowKit

theorem i64_bytes (b : List UInt8) (k : Nat) (h : k + 2 ≤ b.length) : IntKind.i64.wrap (IntKind.i64.wrap (IntKind.i64.wrap (byteN b k) * 256) + IntKind.i64.wrap (byteN b (k + 1))) = get16 b k := by
  have h1 := byteN_bd b k
  have h2 := byteN_bd b (k + 1)
  rw [get16_bytes b k h, i64_in (n := byteN b k) (by omega) (by omega), i64_in (n := byteN b (k + 1)) (by omega) (by omega), i64_in (n := byteN b k * 256) (by omega) (by omega), i64_in (by omega) (by omega)]
theorem ipP_no (b : List UInt8) {e : Int} (h : ipHd b = (0, 0, e)) (he : e = 3 ∨ e = 4 ∨ e = 5) : ipP b = (pkt0, e) := by
  rw [ipP, h, if_neg (by simp only; omega)]
set_option maxRecDepth 100000 in
theorem refParse06_a (b : List UInt8) (hl : b.length ≤ 1000000) : ASpec Try.prog 85 [.bs b] (.tup [pktA (ipP b).1, i64 (ipP b).2]) := by
  have hsm : small b := by simp only [small]; omega
  have b0 := byteN_bd b 0
  have n2 := get16_bd b 2
  have n6 := get16_bd b 6
  have e0 : IntKind.i64.wrap (byteN b 0) = byteN b 0 := i64_in (by omega) (by omega)
  have e1 : IntKind.i64.wrap (byteN b 0 - 64) = byteN b 0 - 64 := i64_in (by omega) (by omega)
  have e2 : IntKind.i64.wrap ((byteN b 0 - 64) * 4) = (byteN b 0 - 64) * 4 := i64_in (by omega) (by omega)
  refine ASpec.of_body TT_ok Try.mixed _ [.cell 2 92, .tmp 3] ([], []) Try.func85 (by kernel_rfl) rfl rfl (by simp only [Try.ntmps85, List.length_cons, List.length_nil]; omega) rfl (by kernel_rfl) ?_
  simp only [argE_cons, argE_nil, ac_seq, ac_cond, ac_region, at_normal, ao_nil, ao_cons, as_alloc, as_move, as_assign, as_binOp, as_len, pktL, pktA, u8A, u16A, u32A, i64, boA, fr_false, List.contains_nil, beq_self_eq_true, hk_some, hopG, hopF, rd, aopsD, heapF, constT, evT, lk, putT, lenF, binF, constA, cellA, List.length_nil, List.nil_append, Option.map_some, Nat.reduceSub, Nat.reduceLeDiff, Nat.succ_ne_zero, true_and, eq_self, Bool.false_eq_true, ↓reduceIte, Nat.zero_add, TT3, TT38, TT92]
  cases c1 : decide ((b.length : Int) < 20)
  · rw [dF] at c1
    have P : ipHd b = if byteN b 0 < 69 ∨ 79 < byteN b 0 then (0, 0, 3) else if (b.length : Int) < 4 * (byteN b 0 - 64) then (0, 0, 4)
      else if ¬ onesF (b.take (4 * (byteN b 0 - 64)).toNat) = 65535 then (0, 0, 5) else if 32768 ≤ get16 b 6 ∨ get16 b 2 < 4 * (byteN b 0 - 64) then (0, 0, 3)
      else if (b.length : Int) < get16 b 2 then (0, 0, 4) else (4 * (byteN b 0 - 64), get16 b 2, 0) := if_neg (by omega)
    simp only [getD_byteN, e0, e1, e2, ac_skip, ac_seq, ac_region, at_normal, ao_nil, ao_cons, ao_guard_f, if_f, as_move, as_assign, as_binOp, as_convert, as_load, as_indexAddr, fr_false, List.contains_nil, beq_self_eq_true, hk_some, hopG, rd, aopsD, constT, evT, lk, putT, GV, gdst, binF, convF, loadF, constA, cellA, TK.isAgg, Option.map_some, Nat.reduceSub, Nat.reduceLeDiff, Nat.succ_ne_zero, true_and, eq_self, Bool.false_eq_true, ↓reduceIte, Int.toNat_zero, Int.reduceLE, TT3, TT5, TT38]
    refine ⟨by omega, ?_⟩
    cases c2 : decide ((byteN b 0 - 64) * 4 < 20)
    · rw [dF] at c2
      simp only [ac_cond, at_normal, ao_nil, ao_cons, ao_guard_f, st_at, pk_at, if_f, as_pick, as_move, as_binOp, beq_self_eq_true, hk_some, hopG, rd, constT, evT, lk, putT, GV, gdst, binF, constA, cellA, Option.map_some, Nat.reduceSub, Nat.reduceEqDiff, true_and, eq_self, ↓reduceIte, TT3]
      cases c3 : decide (60 < (byteN b 0 - 64) * 4)
      · rw [dF] at c3
        rw [if_neg (by omega)] at P
        simp only [ac_skip, ac_seq, ac_cond, ac_region, at_normal, ao_nil, ao_cons, if_f, as_move, as_binOp, as_len, fr_false, List.contains_nil, beq_self_eq_true, hk_some, hopG, hopF, rd, aopsD, evT, lk, putT, lenF, binF, Option.map_some, Nat.reduceSub, Nat.reduceEqDiff, Nat.reduceLeDiff, Nat.succ_ne_zero, true_and, eq_self, Bool.false_eq_true, ↓reduceIte, TT3, TT38]
        obtain ⟨n, hn⟩ : ∃ n : Nat, 4 * (byteN b 0 - 64) = (n : Int) := ⟨(4 * (byteN b 0 - 64)).toNat, by omega⟩
        have hn2 : (byteN b 0 - 64) * 4 = (n : Int) := by omega
        rw [hn] at P
        rw [hn2]
        cases c4 : decide ((b.length : Int) < (n : Int))
        · rw [dF] at c4
          rw [if_neg (by omega), Int.toNat_natCast] at P
          have hz : ((n : Int) - 0).toNat = n := by omega
          simp only [hz, ac_skip, ac_seq, ac_region, at_normal, ao_cons, if_f, as_call, as_move, as_slice, fr_false, List.contains_nil, beq_self_eq_true, hk_some, hopG, rd, aopsD, frzW, frzR, constT, evT, lk, putT, bndF, cutF, argsF, constA, cellA, List.drop_zero, Option.map_some, Option.map_none, Option.bind_some, Nat.reduceSub, Nat.reduceEqDiff, Nat.reduceLeDiff, Nat.succ_ne_zero, true_and, eq_self, Bool.false_eq_true, ↓reduceIte, Int.toNat_zero, Int.reduceLE, TT38]
          refine ⟨⟨by omega, by omega⟩, ?_⟩
          refine ACall.intro (refOnes_a (b.take n) (by simp [small]; omega)) ?_
          simp only [ac_cond, at_normal, ao_nil, ao_cons, as_binOp, i64, beq_self_eq_true, hk_some, hopG, rd, constT, evT, lk, putT, binF, constA, cellA, Option.map_some, Nat.reduceSub, true_and, eq_self, ↓reduceIte, TT3]
          cases hq : decide (onesF (b.take n) = 65535)
          · rw [dF] at hq
            rw [if_pos hq] at P
            rw [ipP_no b P (by omega)]
            simp only [ac_ret, ac_seq, ac_region, at_normal, at_ret, ae_ret, ao_nil, ao_cons, if_t, as_store, as_assign, as_build, fr_false, fr_nil, fr_cons, List.contains_nil, beq_self_eq_true, Bool.and_self, hk_some, hopG, rd, aopsD, heapF, constT, evT, lk, putT, loadF, cellsF, ovw, fillF, buildF, partsF, okCell, resF, resL, constA, cellA, TK.isAgg, Value.oneCell', List.length_cons, List.length_nil, List.getElem?_cons_zero, List.drop_zero, List.take_succ_cons, List.take_nil, List.set_cons_zero, List.set_cons_succ, List.all_cons, List.all_nil, Option.map_some, Option.bind_some, Nat.reduceAdd, Nat.reduceSub, Nat.reduceEqDiff, Nat.reduceLeDiff, true_and, and_true, and_self, eq_self, Bool.false_eq_true, Bool.not_false, ↓reduceIte, Nat.zero_add, Nat.le_refl, TT92]
            try rfl
          · rw [dT] at hq
            rw [if_neg (by simpa using hq)] at P
            have w2 : IntKind.i64.wrap (IntKind.i64.wrap (IntKind.i64.wrap (byteN b 2) * 256) + IntKind.i64.wrap (byteN b 3)) = get16 b 2 := i64_bytes b 2 (by omega)
            have w6 : IntKind.i64.wrap (IntKind.i64.wrap (IntKind.i64.wrap (byteN b 6) * 256) + IntKind.i64.wrap (byteN b 7)) = get16 b 6 := i64_bytes b 6 (by omega)
            have w4 : IntKind.u16.wrap (IntKind.u16.wrap (IntKind.u16.wrap (byteN b 4) * 256) + IntKind.u16.wrap (byteN b 5)) = get16 b 4 := u16_bytes b 4 (by omega)
            simp only [getD_byteN, w2, w6, ac_skip, ac_seq, ac_region, at_normal, ao_nil, ao_cons, ao_guard_f, if_f, as_move, as_assign, as_binOp, as_convert, as_load, as_indexAddr, fr_false, List.contains_nil, Nat.reduceBEq, beq_self_eq_true, hk_some, hopG, rd, aopsD, tlN, constT, evT, lk, putT, GV, gdst, binF, convF, loadF, constA, cellA, TK.isAgg, List.length_cons, List.length_nil, Option.map_some, Nat.reduceAdd, Nat.reduceSub, Nat.reduceEqDiff, Nat.reduceLeDiff, Nat.succ_ne_zero, true_and, eq_self, Bool.false_eq_true, Bool.not_true, ↓reduceIte, Int.reduceToNat, Int.reduceLE, Nat.zero_add, TT3, TT5, TT38]
            refine ⟨by omega, by omega, by omega, by omega, ?_⟩
            cases c5 : decide ((32768 : Int) ≤ get16 b 6)
            · rw [dF] at c5
              simp only [ac_cond, at_normal, ao_nil, ao_cons, ao_guard_f, st_at, pk_at, if_f, as_pick, as_move, as_binOp, beq_self_eq_true, hk_some, hopG, rd, evT, lk, putT, GV, gdst, binF, Option.map_some, Nat.reduceSub, Nat.reduceEqDiff, true_and, eq_self, ↓reduceIte, TT3]
              cases c6 : decide (get16 b 2 < (n : Int))
              · rw [dF] at c6
                rw [if_neg (by omega)] at P
                simp only [ac_skip, ac_seq, ac_cond, ac_region, at_normal, ao_nil, ao_cons, if_f, as_move, as_binOp, as_len, fr_false, List.contains_nil, beq_self_eq_true, hk_some, hopG, hopF, rd, aopsD, evT, lk, putT, lenF, binF, Option.map_some, Nat.reduceSub, Nat.reduceEqDiff, Nat.reduceLeDiff, Nat.succ_ne_zero, true_and, eq_self, Bool.false_eq_true, ↓reduceIte, TT3, TT38]
                cases c7 : decide ((b.length : Int) < get16 b 2)
                · rw [dF] at c7
                  rw [if_neg (by omega)] at P
                  have hP : ipP b = (⟨byteN b 1, get16 b 4, decide (get16 b 6 / 16384 % 2 = 1), decide (get16 b 6 / 8192 % 2 = 1), get16 b 6 % 8192, byteN b 8, byteN b 9, get32 b 12, get32 b 16, cutB b 20 (n - 20), cutB b n (get16 b 2 - n)⟩, 0) := by rw [ipP, P, if_pos rfl]
                  rw [hP]
                  have d1 : decide (16384 ≤ get16 b 6) = decide (get16 b 6 / 16384 % 2 = 1) := by
                    rw [Bool.eq_iff_iff, dT, dT]; omega
                  simp only [getD_byteN, w4, d1, tdivN (a := get16 b 6) (b := 8192) n6.1, tmodN (a := get16 b 6) (b := 8192) n6.1, tmodN (a := get16 b 6 / 8192) (b := 2) (by omega), i64_in (n := get16 b 6 / 8192) (by omega) (by omega), u16_in (n := get16 b 6 % 8192) (by omega) (by omega), ac_skip, ac_seq, ac_region, at_normal, ao_nil, ao_cons, if_f, as_call, as_alloc, as_store, as_move, as_binOp, as_convert, as_load, as_indexAddr, as_build, fr_false, List.contains_nil, Nat.reduceBEq, beq_self_eq_true, Bool.and_self, Int.reduceEq, hk_some, hopG, rd, aopsD, heapF, frzW, frzR, tlN, constT, evT, lk, putT, binF, convF, loadF, cellsF, ovw, fillF, buildF, partsF, argsF, okCell, constA, cellA, TK.isAgg, Value.oneCell', List.length_cons, List.length_nil, List.getElem?_cons_zero, List.getElem?_cons_succ, List.set_cons_zero, List.set_cons_succ, List.nil_append, List.cons_append, List.all_cons, List.all_nil, Option.map_some, Nat.reduceAdd, Nat.reduceSub, Nat.reduceEqDiff, Nat.reduceLeDiff, Nat.succ_ne_zero, ne_eq, not_false_eq_true, true_and, and_self, eq_self, Bool.false_eq_true, ↓reduceIte, Int.reduceToNat, Int.reduceLE, Nat.zero_add, Nat.le_refl, TT3, TT5, TT23, TT38, TT92]
                  refine ⟨by omega, by omega, by omega, by omega, by omega, ?_⟩
                  refine ACall.intro (refGet_a b 12 4 (by omega) (by omega)) ?_
                  simp only [ac_seq, ac_region, at_normal, ao_nil, ao_cons, as_call, as_store, as_move, as_fieldAddr, as_extract, u32A, boA, fr_false, List.contains_nil, beq_self_eq_true, Int.cast_ofNat_Int, Bool.and_self, hk_some, hopG, rd, aopsD, heapF, frzW, frzR, constT, evT, lk, putT, cellsF, ovw, argsF, okCell, constA, cellA, Value.oneCell', List.length_cons, List.length_nil, List.getElem?_cons_zero, List.getElem?_cons_succ, List.set_cons_zero, List.set_cons_succ, List.all_cons, List.all_nil, Option.map_some, Nat.reduceAdd, Nat.reduceSub, Nat.reduceEqDiff, Nat.reduceLeDiff, Nat.succ_ne_zero, ne_eq, not_false_eq_true, true_and, and_self, eq_self, Bool.false_eq_true, ↓reduceIte, Int.reduceToNat, Nat.zero_add, TT22, TT92]
                  refine ACall.intro (refGet_a b 16 4 (by omega) (by omega)) ?_
                  simp only [i64_in (n := (n : Int) - 20) (by omega) (by omega), ac_seq, ac_region, at_normal, ao_nil, ao_cons, as_call, as_store, as_move, as_binOp, as_fieldAddr, as_extract, u32A, boA, fr_false, List.contains_nil, beq_self_eq_true, Int.cast_ofNat_Int, Bool.and_self, hk_some, hopG, rd, aopsD, heapF, frzW, frzR, constT, evT, lk, putT, binF, cellsF, ovw, argsF, okCell, constA, cellA, Value.oneCell', List.length_cons, List.length_nil, List.getElem?_cons_zero, List.getElem?_cons_succ, List.set_cons_zero, List.set_cons_succ, List.all_cons, List.all_nil, Option.map_some, Nat.reduceAdd, Nat.reduceSub, Nat.reduceEqDiff, Nat.reduceLeDiff, Nat.succ_ne_zero, ne_eq, not_false_eq_true, true_and, and_self, eq_self, Bool.false_eq_true, ↓reduceIte, Int.reduceToNat, Nat.zero_add, TT3, TT22, TT92]
                  refine ACall.intro (refCut_a b 20 _ (by omega) hsm) ?_
                  simp only [i64_in (n := get16 b 2 - (n : Int)) (by omega) (by omega), ac_seq, ac_region, at_normal, ao_nil, ao_cons, as_call, as_store, as_move, as_binOp, as_fieldAddr, as_extract, boA, fr_false, List.contains_nil, beq_self_eq_true, Bool.and_self, hk_some, hopG, rd, aopsD, heapF, frzW, frzR, evT, lk, putT, binF, cellsF, ovw, argsF, okCell, List.length_cons, List.length_nil, List.getElem?_cons_zero, List.getElem?_cons_succ, List.set_cons_zero, List.set_cons_succ, List.all_cons, List.all_nil, Option.map_some, Nat.reduceAdd, Nat.reduceSub, Nat.reduceEqDiff, Nat.reduceLeDiff, Nat.succ_ne_zero, ne_eq, not_false_eq_true, true_and, and_self, eq_self, Bool.false_eq_true, ↓reduceIte, Nat.zero_add, TT3, TT38, TT92]
                  refine ACall.intro (refCut_a b n _ (by omega) hsm) ?_
                  simp only [ac_ret, ac_seq, ac_region, at_normal, ae_ret, ao_nil, ao_cons, as_store, as_move, as_assign, as_load, as_fieldAddr, as_extract, boA, fr_false, fr_nil, fr_cons, List.contains_nil, beq_self_eq_true, Bool.and_self, hk_some, hopG, rd, aopsD, heapF, constT, evT, lk, putT, loadF, cellsF, ovw, okCell, resF, resL, constA, cellA, TK.isAgg, Value.oneCell', List.length_cons, List.length_nil, List.getElem?_cons_zero, List.getElem?_cons_succ, List.drop_zero, List.take_succ_cons, List.take_nil, List.set_cons_zero, List.set_cons_succ, List.all_cons, List.all_nil, Option.map_some, Option.bind_some, Nat.reduceAdd, Nat.reduceSub, Nat.reduceEqDiff, Nat.reduceLeDiff, Nat.succ_ne_zero, ne_eq, not_false_eq_true, true_and, and_true, and_self, eq_self, Bool.false_eq_true, ↓reduceIte, Nat.zero_add, Nat.le_refl, TT38, TT92]
                  try rfl
                · rw [dT] at c7
                  rw [if_pos (by omega)] at P
                  rw [ipP_no b P (by omega)]
                  simp only [ac_ret, ac_seq, ac_region, at_normal, at_ret, ae_ret, ao_nil, ao_cons, if_t, as_store, as_assign, as_build, fr_false, fr_nil, fr_cons, List.contains_nil, beq_self_eq_true, Bool.and_self, hk_some, hopG, rd, aopsD, heapF, constT, evT, lk, putT, loadF, cellsF, ovw, fillF, buildF, partsF, okCell, resF, resL, constA, cellA, TK.isAgg, Value.oneCell', List.length_cons, List.length_nil, List.getElem?_cons_zero, List.drop_zero, List.take_succ_cons, List.take_nil, List.set_cons_zero, List.set_cons_succ, List.all_cons, List.all_nil, Option.map_some, Option.bind_some, Nat.reduceAdd, Nat.reduceSub, Nat.reduceEqDiff, Nat.reduceLeDiff, true_and, and_true, and_self, eq_self, Bool.false_eq_true, ↓reduceIte, Nat.zero_add, Nat.le_refl, TT92]
                  try rfl
              · rw [dT] at c6
                rw [if_pos (.inr c6)] at P
                rw [ipP_no b P (by omega)]
                simp only [ac_ret, ac_seq, ac_region, at_normal, at_ret, ae_ret, ao_nil, ao_cons, if_t, as_store, as_assign, as_build, fr_false, fr_nil, fr_cons, List.contains_nil, beq_self_eq_true, Bool.and_self, hk_some, hopG, rd, aopsD, heapF, constT, evT, lk, putT, loadF, cellsF, ovw, fillF, buildF, partsF, okCell, resF, resL, constA, cellA, TK.isAgg, Value.oneCell', List.length_cons, List.length_nil, List.getElem?_cons_zero, List.drop_zero, List.take_succ_cons, List.take_nil, List.set_cons_zero, List.set_cons_succ, List.all_cons, List.all_nil, Option.map_some, Option.bind_some, Nat.reduceAdd, Nat.reduceSub, Nat.reduceEqDiff, Nat.reduceLeDiff, true_and, and_true, and_self, eq_self, Bool.false_eq_true, ↓reduceIte, Nat.zero_add, Nat.le_refl, TT92]
                try rfl
            · rw [dT] at c5
              rw [if_pos (.inl c5)] at P
              rw [ipP_no b P (by omega)]
              simp only [ac_ret, ac_seq, ac_cond, ac_region, at_normal, at_ret, ae_ret, ao_nil, ao_cons, ao_guard_f, sk_at, pk_at, if_t, as_pick, as_store, as_assign, as_build, fr_false, fr_nil, fr_cons, List.contains_nil, beq_self_eq_true, Bool.and_self, hk_some, hopG, rd, aopsD, heapF, constT, evT, lk, putT, GV, gdst, loadF, cellsF, ovw, fillF, buildF, partsF, okCell, resF, resL, constA, cellA, TK.isAgg, Value.oneCell', List.length_cons, List.length_nil, List.getElem?_cons_zero, List.drop_zero, List.take_succ_cons, List.take_nil, List.set_cons_zero, List.set_cons_succ, List.all_cons, List.all_nil, Option.map_some, Option.bind_some, Nat.reduceAdd, Nat.reduceSub, Nat.reduceEqDiff, Nat.reduceLeDiff, true_and, and_true, and_self, eq_self, Bool.false_eq_true, ↓reduceIte, Nat.zero_add, Nat.le_refl, TT92]
              try rfl
        · rw [dT] at c4
          rw [if_pos (by omega)] at P
          rw [ipP_no b P (by omega)]
          simp only [ac_ret, ac_seq, ac_region, at_normal, at_ret, ae_ret, ao_nil, ao_cons, if_t, as_store, as_assign, as_build, fr_false, fr_nil, fr_cons, List.contains_nil, beq_self_eq_true, Bool.and_self, hk_some, hopG, rd, aopsD, heapF, constT, evT, lk, putT, loadF, cellsF, ovw, fillF, buildF, partsF, okCell, resF, resL, constA, cellA, TK.isAgg, Value.oneCell', List.length_cons, List.length_nil, List.getElem?_cons_zero, List.drop_zero, List.take_succ_cons, List.take_nil, List.set_cons_zero, List.set_cons_succ, List.all_cons, List.all_nil, Option.map_some, Option.bind_some, Nat.reduceAdd, Nat.reduceSub, Nat.reduceEqDiff, Nat.reduceLeDiff, true_and, and_true, and_self, eq_self, Bool.false_eq_true, ↓reduceIte, Nat.zero_add, Nat.le_refl, TT92]
          try rfl
      · rw [dT] at c3
        rw [if_pos (.inr (by omega))] at P
        rw [ipP_no b P (by omega)]
        simp only [ac_ret, ac_seq, ac_region, at_normal, at_ret, ae_ret, ao_nil, ao_cons, if_t, as_store, as_assign, as_build, fr_false, fr_nil, fr_cons, List.contains_nil, beq_self_eq_true, Bool.and_self, hk_some, hopG, rd, aopsD, heapF, constT, evT, lk, putT, loadF, cellsF, ovw, fillF, buildF, partsF, okCell, resF, resL, constA, cellA, TK.isAgg, Value.oneCell', List.length_cons, List.length_nil, List.getElem?_cons_zero, List.drop_zero, List.take_succ_cons, List.take_nil, List.set_cons_zero, List.set_cons_succ, List.all_cons, List.all_nil, Option.map_some, Option.bind_some, Nat.reduceAdd, Nat.reduceSub, Nat.reduceEqDiff, Nat.reduceLeDiff, true_and, and_true, and_self, eq_self, Bool.false_eq_true, ↓reduceIte, Nat.zero_add, Nat.le_refl, TT92]
        try rfl
    · rw [dT] at c2
      rw [if_pos (.inl (by omega))] at P
      rw [ipP_no b P (by omega)]
      simp only [ac_ret, ac_seq, ac_cond, ac_region, at_normal, at_ret, ae_ret, ao_nil, ao_cons, ao_guard_f, sk_at, pk_at, if_t, as_pick, as_store, as_assign, as_build, fr_false, fr_nil, fr_cons, List.contains_nil, beq_self_eq_true, Bool.and_self, hk_some, hopG, rd, aopsD, heapF, constT, evT, lk, putT, GV, gdst, loadF, cellsF, ovw, fillF, buildF, partsF, okCell, resF, resL, constA, cellA, TK.isAgg, Value.oneCell', List.length_cons, List.length_nil, List.getElem?_cons_zero, List.drop_zero, List.take_succ_cons, List.take_nil, List.set_cons_zero, List.set_cons_succ, List.all_cons, List.all_nil, Option.map_some, Option.bind_some, Nat.reduceAdd, Nat.reduceSub, Nat.reduceEqDiff, Nat.reduceLeDiff, true_and, and_true, and_self, eq_self, Bool.false_eq_true, ↓reduceIte, Nat.zero_add, Nat.le_refl, TT92]
      try rfl
  · rw [dT] at c1
    have P : ipHd b = (0, 0, 4) := if_pos (by omega)
    rw [ipP_no b P (by omega)]
    simp only [ac_ret, ac_seq, ac_region, at_normal, at_ret, ae_ret, ao_nil, ao_cons, if_t, as_store, as_assign, as_build, fr_false, fr_nil, fr_cons, List.contains_nil, beq_self_eq_true, Bool.and_self, hk_some, hopG, rd, aopsD, heapF, constT, evT, lk, putT, loadF, cellsF, ovw, fillF, buildF, partsF, okCell, resF, resL, constA, cellA, TK.isAgg, Value.oneCell', List.length_cons, List.length_nil, List.getElem?_cons_zero, List.drop_zero, List.take_succ_cons, List.take_nil, List.set_cons_zero, List.set_cons_succ, List.all_cons, List.all_nil, Option.map_some, Option.bind_some, Nat.reduceAdd, Nat.reduceSub, Nat.reduceEqDiff, Nat.reduceLeDiff, true_and, and_true, and_self, eq_self, Bool.false_eq_true, ↓reduceIte, Nat.zero_add, Nat.le_refl, TT92]
    try rfl
end Go.Proofs.Ytafajmnlknmfiaa
