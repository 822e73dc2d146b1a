/- The reference of quote, and its statements. -/
import Derived.Test.YtafajmnlknmfiaaQA
namespace Go.Proofs.Ytafajmnlknmfiaa
set_option linter.unusedSimpArgs false
set_option linter.unusedVariables false
open Go.RowKit

theorem get16_sub (b : List UInt8) (n k j : Nat) (h : j + 2 ≤ k) (hk : n + k ≤ b.length) : get16 ((b.drop n).take k) j = get16 b ((n + j : Nat) : Int) := by
  have hl : ((b.drop n).take k).length = k := by simp; omega
  rw [get16_bytes _ j (by omega), get16_bytes b (n + j) (by omega)]
  have e : ∀ i, i < k → byteN ((b.drop n).take k) i = byteN b (n + i) := fun i hi => by
    unfold byteN
    simp [List.getD, List.getElem?_take, List.getElem?_drop, hi]
  rw [e j (by omega), e (j + 1) (by omega)]
  rfl
set_option maxRecDepth 100000 in
theorem refQuote_a (t c r : Int) (b : List UInt8) (hl : b.length ≤ 1000000) : ASpec Try.prog 95 [icmpA t c r b] (.tup [flowA (quO t b).1, i64 (quO t b).2]) := by
  have hsm : small b := by simp only [small]; omega
  have b0 := byteN_bd b 0
  have n6 := get16_bd b 6
  have b9 := byteN_bd b 9
  refine ASpec.of_body TT_ok Try.mixed _ [.cell 2 25, .tmp 3] ([], []) Try.func95 (by kernel_rfl) rfl rfl (by simp only [Try.ntmps95, List.length_cons, List.length_nil]; omega) rfl (by kernel_rfl) ?_
  simp only [argE_cons, argE_nil, ac_seq, ac_region, at_normal, ao_nil, ao_cons, ao_guard_t, as_box, as_alloc, as_move, as_assign, as_binOp, as_load, as_fieldAddr, icmpA, flowL, flowA, u8A, u16A, u32A, i64, fr_false, List.contains_nil, beq_self_eq_true, hk_some, hopG, rd, aopsD, heapF, constT, evT, lk, putT, GV, gdst, binF, loadF, cellsF, constA, cellA, TK.isAgg, List.length_cons, List.length_nil, List.getElem?_cons_zero, List.getElem?_cons_succ, List.drop_zero, List.drop_succ_cons, List.nil_append, List.cons_append, Option.map_some, Nat.reduceSub, Nat.reduceEqDiff, Nat.reduceLeDiff, Nat.succ_ne_zero, ne_eq, not_false_eq_true, true_and, eq_self, Bool.false_eq_true, ↓reduceIte, Nat.zero_add, Nat.add_zero, TT5, TT25, TT38, TT134]
  cases c1 : (decide (t = 3) || (decide (t = 11) || decide (t = 12)))
  · have hO : quO t b = (flow0, 10) := by rw [quO, c1, if_neg (by simp)]
    simp only [Bool.or_eq_false_iff] at c1
    rw [hO]
    simp only [c1.1, c1.2.1, c1.2.2, ac_ret, ac_seq, ac_cond, ac_region, at_normal, at_ret, ae_ret, ao_nil, ao_cons, ao_guard_t, st_at, pk_at, if_t, as_pick, as_store, as_move, as_assign, as_binOp, as_load, as_fieldAddr, as_build, fr_false, fr_nil, fr_cons, List.contains_nil, beq_self_eq_true, Bool.and_self, hk_some, hopG, rd, aopsD, heapF, constT, evT, lk, putT, GV, gdst, binF, loadF, cellsF, ovw, fillF, buildF, partsF, okCell, resF, resL, constA, cellA, TK.isAgg, Value.oneCell', List.length_cons, List.length_nil, List.getElem?_cons_zero, List.getElem?_cons_succ, List.drop_zero, List.take_succ_cons, List.take_nil, List.set_cons_zero, List.set_cons_succ, List.all_cons, List.all_nil, Option.map_some, Option.bind_some, Nat.reduceAdd, Nat.reduceSub, Nat.reduceEqDiff, Nat.reduceLeDiff, Nat.succ_ne_zero, ne_eq, not_false_eq_true, true_and, and_true, and_self, eq_self, Bool.false_eq_true, Bool.not_false, ↓reduceIte, Nat.zero_add, Nat.add_zero, Nat.le_refl, TT5, TT25, TT134]
    try rfl
  · have hO : quO t b = if (quP b).2 = 0 then flowP (quP b).1 else (flow0, (quP b).2) := by rw [quO, c1, if_pos rfl]
    have key : ∀ e : Int, (quP b) = (pkt0, e) → e ≠ 0 → quO t b = (flow0, e) := fun e h he => by rw [hO, h, if_neg he]
    have hor : t = 3 ∨ (¬ t = 3 ∧ t = 11) ∨ (¬ t = 3 ∧ ¬ t = 11 ∧ t = 12) := by
      simp only [Bool.or_eq_true, decide_eq_true_eq] at c1
      omega
    have step1 : b.length < 20 → quP b = (pkt0, 4) := fun h => if_pos h
    have step2 : 20 ≤ b.length → (byteN b 0 < 69 ∨ 79 < byteN b 0) → quP b = (pkt0, 3) := fun h1 h2 => by rw [quP, if_neg (by omega), if_pos h2]
    have step3 : 20 ≤ b.length → 69 ≤ byteN b 0 → byteN b 0 ≤ 79 → quP b = if (b.length : Int) < 4 * (byteN b 0 - 64) then (pkt0, 4)
            else if ¬ onesF (b.take (4 * (byteN b 0 - 64)).toNat) = 65535 then (pkt0, 5)
            else (⟨0, 0, false, decide (get16 b 6 / 8192 % 2 = 1), get16 b 6 % 8192, 0, byteN b 9, get32 b 12, get32 b 16, [], cutB b (4 * (byteN b 0 - 64)) (if 4 < (b.length : Int) - 4 * (byteN b 0 - 64) then 4 else (b.length : Int) - 4 * (byteN b 0 - 64))⟩, 0) := fun h1 h2 h3 => by
          rw [quP, if_neg (by omega), if_neg (by omega)]
    have e0 : (byteN b 0).tdiv 16 = byteN b 0 / 16 := tdivN (by omega)
    have e1 : (byteN b 0).tmod 16 = byteN b 0 % 16 := tmodN (by omega)
    have e2 : IntKind.i64.wrap (byteN b 0 % 16) = byteN b 0 % 16 := i64_in (by omega) (by omega)
    have e3 : IntKind.i64.wrap (byteN b 0 % 16 * 4) = byteN b 0 % 16 * 4 := i64_in (by omega) (by omega)
    have e4 : IntKind.u8.wrap (byteN b 0 / 16) = byteN b 0 / 16 := u8_in (by omega) (by omega)
    rcases hor with h | ⟨h, h'⟩ | ⟨h, h', h''⟩
    · simp only [decide_eq_true h, ac_skip, ac_seq, ac_cond, ac_region, at_normal, ao_nil, ao_cons, ao_guard_t, sk_at, pk_at, if_f, as_pick, as_move, as_binOp, as_len, fr_false, List.contains_nil, beq_self_eq_true, hk_some, hopG, hopF, rd, aopsD, constT, evT, lk, putT, GV, gdst, lenF, binF, constA, cellA, Option.map_some, Nat.reduceSub, Nat.reduceEqDiff, Nat.reduceLeDiff, true_and, eq_self, Bool.false_eq_true, Bool.not_true, ↓reduceIte, TT3, TT38]
      cases c2 : decide ((b.length : Int) < 20)
      · rw [dF] at c2
        simp only [getD_byteN, e0, e4, ac_skip, ac_seq, ac_region, at_normal, ao_cons, ao_guard_f, if_f, as_move, as_binOp, as_load, as_indexAddr, fr_false, List.contains_nil, beq_self_eq_true, Int.reduceEq, hk_some, hopG, rd, aopsD, constT, evT, lk, putT, GV, gdst, binF, loadF, constA, cellA, TK.isAgg, Option.map_some, Nat.reduceSub, Nat.reduceEqDiff, Nat.reduceLeDiff, ne_eq, not_false_eq_true, true_and, and_self, eq_self, Bool.false_eq_true, ↓reduceIte, Int.toNat_zero, Int.reduceLE, TT5, TT38]
        refine ⟨by omega, ?_⟩
        cases c3 : decide (byteN b 0 / 16 = 4)
        · rw [dF] at c3
          rw [key 3 (step2 (by omega) (by omega)) (by omega)]
          simp only [ac_ret, ac_seq, ac_cond, ac_region, at_normal, at_ret, ae_ret, ao_nil, ao_cons, ao_guard_f, sk_at, pk_at, if_t, as_pick, as_store, as_assign, as_build, fr_false, fr_nil, fr_cons, List.contains_nil, beq_self_eq_true, Bool.and_self, hk_some, hopG, rd, aopsD, heapF, constT, evT, lk, putT, GV, gdst, loadF, cellsF, ovw, fillF, buildF, partsF, okCell, resF, resL, constA, cellA, TK.isAgg, Value.oneCell', List.length_cons, List.length_nil, List.getElem?_cons_zero, List.getElem?_cons_succ, List.drop_zero, List.take_succ_cons, List.take_nil, List.set_cons_zero, List.set_cons_succ, List.all_cons, List.all_nil, Option.map_some, Option.bind_some, Nat.reduceAdd, Nat.reduceSub, Nat.reduceEqDiff, Nat.reduceLeDiff, true_and, and_true, and_self, eq_self, Bool.false_eq_true, Bool.not_false, ↓reduceIte, Nat.zero_add, Nat.le_refl, TT25]
          try rfl
        · rw [dT] at c3
          simp only [getD_byteN, e1, ac_cond, at_normal, ao_nil, ao_cons, ao_guard_f, st_at, pk_at, if_f, as_pick, as_move, as_binOp, as_load, as_indexAddr, beq_self_eq_true, Int.reduceEq, hk_some, hopG, rd, constT, evT, lk, putT, GV, gdst, binF, loadF, constA, cellA, TK.isAgg, Option.map_some, Nat.reduceSub, Nat.reduceEqDiff, ne_eq, not_false_eq_true, true_and, and_self, eq_self, Bool.false_eq_true, Bool.not_true, ↓reduceIte, Int.toNat_zero, Int.reduceLE, TT5, TT38]
          refine ⟨by omega, ?_⟩
          cases c4 : decide (byteN b 0 % 16 < 5)
          · rw [dF] at c4
            simp only [getD_byteN, e1, e2, e3, ac_skip, ac_seq, ac_cond, ac_region, at_normal, ao_nil, ao_cons, if_f, as_move, as_assign, as_binOp, as_convert, as_load, as_indexAddr, as_len, fr_false, List.contains_nil, beq_self_eq_true, Int.reduceEq, hk_some, hopG, hopF, rd, aopsD, constT, evT, lk, putT, lenF, binF, convF, loadF, constA, cellA, TK.isAgg, Option.map_some, Nat.reduceSub, Nat.reduceEqDiff, Nat.reduceLeDiff, ne_eq, not_false_eq_true, true_and, and_self, eq_self, Bool.false_eq_true, ↓reduceIte, Int.toNat_zero, Int.reduceLE, TT3, TT5, TT38]
            refine ⟨by omega, ?_⟩
            have P := step3 (by omega) (by omega) (by omega)
            obtain ⟨n, hn⟩ : ∃ n : Nat, byteN b 0 % 16 * 4 = (n : Int) := ⟨(byteN b 0 % 16 * 4).toNat, by omega⟩
            have hn2 : 4 * (byteN b 0 - 64) = (n : Int) := by omega
            rw [hn2] at P
            rw [hn]
            cases c5 : decide ((b.length : Int) < (n : Int))
            · rw [dF] at c5
              rw [if_neg (by omega), Int.toNat_natCast] at P
              have hz : ((n : Int) - 0).toNat = n := by omega
              simp only [hz, ac_skip, ac_seq, ac_region, at_normal, ao_cons, if_f, as_call, as_move, as_slice, fr_false, List.contains_nil, beq_self_eq_true, hk_some, hopG, rd, aopsD, frzW, frzR, constT, evT, lk, putT, bndF, cutF, argsF, constA, cellA, List.drop_zero, Option.map_some, Option.map_none, Option.bind_some, Nat.reduceSub, Nat.reduceEqDiff, Nat.reduceLeDiff, true_and, eq_self, Bool.false_eq_true, ↓reduceIte, Int.toNat_zero, Int.reduceLE, TT38]
              refine ⟨⟨by omega, by omega⟩, ?_⟩
              refine ACall.intro (refOnes_a (b.take n) (by simp [small]; omega)) ?_
              simp only [ac_cond, at_normal, ao_nil, ao_cons, as_binOp, i64, beq_self_eq_true, hk_some, hopG, rd, constT, evT, lk, putT, binF, constA, cellA, Option.map_some, Nat.reduceSub, true_and, eq_self, ↓reduceIte, TT3]
              cases hq : decide (onesF (b.take n) = 65535)
              · rw [dF] at hq
                rw [if_pos hq] at P
                rw [key 5 P (by omega)]
                simp only [ac_ret, ac_seq, ac_region, at_normal, at_ret, ae_ret, ao_nil, ao_cons, if_t, as_store, as_assign, as_build, fr_false, fr_nil, fr_cons, List.contains_nil, beq_self_eq_true, Bool.and_self, hk_some, hopG, rd, aopsD, heapF, constT, evT, lk, putT, loadF, cellsF, ovw, fillF, buildF, partsF, okCell, resF, resL, constA, cellA, TK.isAgg, Value.oneCell', List.length_cons, List.length_nil, List.getElem?_cons_zero, List.getElem?_cons_succ, List.drop_zero, List.take_succ_cons, List.take_nil, List.set_cons_zero, List.set_cons_succ, List.all_cons, List.all_nil, Option.map_some, Option.bind_some, Nat.reduceAdd, Nat.reduceSub, Nat.reduceEqDiff, Nat.reduceLeDiff, true_and, and_true, and_self, eq_self, Bool.false_eq_true, Bool.not_false, ↓reduceIte, Nat.zero_add, Nat.le_refl, TT25]
                try rfl
              · rw [dT] at hq
                rw [if_neg (by simpa using hq)] at P
                have w6 : IntKind.i64.wrap (IntKind.i64.wrap (IntKind.i64.wrap (byteN b 6) * 256) + IntKind.i64.wrap (byteN b 7)) = get16 b 6 := i64_bytes b 6 (by omega)
                have hO2 : quO t b = flowP (quP b).1 := by rw [hO, P, if_pos rfl]
                have hpart : (decide (get16 b 6 / 8192 % 2 = 1) || decide (0 < get16 b 6 % 8192)) = !decide (get16 b 6 % 16384 = 0) := by
                  rw [Bool.eq_iff_iff]
                  simp only [Bool.or_eq_true, decide_eq_true_eq, Bool.not_eq_true', decide_eq_false_iff_not]
                  omega
                simp only [getD_byteN, w6, tmodN (a := get16 b 6) (b := 16384) n6.1, ac_skip, ac_seq, ac_cond, ac_region, at_normal, ao_nil, ao_cons, if_f, as_move, as_assign, as_binOp, as_convert, as_load, as_indexAddr, fr_false, List.contains_nil, Nat.reduceBEq, beq_self_eq_true, Int.reduceEq, hk_some, hopG, rd, aopsD, tlN, constT, evT, lk, putT, binF, convF, loadF, constA, cellA, TK.isAgg, List.length_cons, List.length_nil, Option.map_some, Nat.reduceAdd, Nat.reduceSub, Nat.reduceEqDiff, Nat.reduceLeDiff, ne_eq, not_false_eq_true, true_and, and_self, eq_self, Bool.false_eq_true, Bool.not_true, ↓reduceIte, Int.reduceToNat, Int.reduceLE, Nat.zero_add, TT3, TT5, TT38]
                refine ⟨by omega, by omega, ?_⟩
                cases c6 : decide (get16 b 6 % 16384 = 0)
                · rw [show quO t b = (flow0, 11) by rw [hO2, P, flowP]; simp only [hpart, c6, Bool.not_false, if_true]]
                  simp only [ac_ret, ac_seq, ac_region, at_normal, at_ret, ae_ret, ao_nil, ao_cons, if_t, as_store, as_assign, as_build, fr_false, fr_nil, fr_cons, List.contains_nil, beq_self_eq_true, Bool.and_self, hk_some, hopG, rd, aopsD, heapF, constT, evT, lk, putT, loadF, cellsF, ovw, fillF, buildF, partsF, okCell, resF, resL, constA, cellA, TK.isAgg, Value.oneCell', List.length_cons, List.length_nil, List.getElem?_cons_zero, List.getElem?_cons_succ, List.drop_zero, List.take_succ_cons, List.take_nil, List.set_cons_zero, List.set_cons_succ, List.all_cons, List.all_nil, Option.map_some, Option.bind_some, Nat.reduceAdd, Nat.reduceSub, Nat.reduceEqDiff, Nat.reduceLeDiff, true_and, and_true, and_self, eq_self, Bool.false_eq_true, Bool.not_false, ↓reduceIte, Nat.zero_add, Nat.le_refl, TT25]
                  try rfl
                · simp only [getD_byteN, ac_skip, ac_seq, ac_region, at_normal, ao_cons, ao_guard_t, if_f, as_move, as_binOp, as_load, as_indexAddr, fr_false, List.contains_nil, beq_self_eq_true, hk_some, hopG, rd, aopsD, constT, evT, lk, putT, GV, gdst, binF, loadF, constA, cellA, TK.isAgg, Option.map_some, Nat.reduceSub, Nat.reduceEqDiff, Nat.reduceLeDiff, true_and, eq_self, Bool.false_eq_true, Bool.not_true, ↓reduceIte, Int.reduceToNat, Int.reduceLE, TT5, TT38]
                  refine ⟨by omega, ?_⟩
                  have hF : quO t b = if ¬ byteN b 9 = 6 ∧ ¬ byteN b 9 = 17 then (flow0, 3) else if thereB (quP b).1.data.length 2 2 = true then (⟨get32 b 12, get32 b 16, get16 (quP b).1.data 0, get16 (quP b).1.data 2, byteN b 9⟩, 0) else (flow0, 4) := by
                    rw [hO2, P, flowP]
                    simp only [hpart, c6, Bool.not_true, Bool.false_eq_true, if_false]
                  have hdat : (quP b).1.data = (b.drop n).take (if 4 < b.length - n then 4 else b.length - n) := by
                    rw [P]
                    simp only
                    have := cutB_nat b n (if 4 < b.length - n then 4 else b.length - n) (by split <;> omega)
                    rw [← this]
                    congr 1
                    split <;> split <;> omega
                  have hdl : (quP b).1.data.length = (if 4 < b.length - n then 4 else b.length - n) := by rw [hdat]; simp; split <;> omega
                  have hth : thereB (quP b).1.data.length 2 2 = thereB b.length ((n : Int) + 2) 2 := by
                    rw [hdl, Bool.eq_iff_iff, thereB_iff, thereB_iff]
                    split <;> omega
                  have hg : thereB b.length ((n : Int) + 2) 2 = true → get16 (quP b).1.data 0 = get16 b n ∧ get16 (quP b).1.data 2 = get16 b ((n : Int) + 2) := fun hth' => by
                    have := thereB_iff.1 hth'
                    have hk : (if 4 < b.length - n then 4 else b.length - n) = 4 := by split <;> omega
                    rw [hdat, hk]
                    have h1 := get16_sub b n 4 0 (by omega) (by omega)
                    have h2 := get16_sub b n 4 2 (by omega) (by omega)
                    exact ⟨h1, h2⟩
                  have gN := get_two b n (by omega)
                  have gN2 := get_two b ((n : Int) + 2) (by omega)
                  have wN := get16_bd b n
                  have wN2 := get16_bd b ((n : Int) + 2)
                  have fin : ∀ (X : Prop), ((¬ byteN b 9 = 6 ∧ ¬ byteN b 9 = 17) → X) → ((¬ byteN b 9 = 6 ∧ byteN b 9 = 17) → X) → (byteN b 9 = 6 → X) → X := fun X a1 a2 a3 => by
                    by_cases h6 : byteN b 9 = 6
                    · exact a3 h6
                    · by_cases h17 : byteN b 9 = 17
                      · exact a2 ⟨h6, h17⟩
                      · exact a1 ⟨h6, h17⟩
                  refine fin _ (fun hp => ?_) (fun hp => ?_) (fun hp => ?_)
                  · rw [if_pos hp] at hF
                    rw [hF]
                    simp only [decide_eq_false hp.1, decide_eq_false hp.2, getD_byteN, ac_ret, ac_seq, ac_cond, ac_region, at_normal, at_ret, ae_ret, ao_nil, ao_cons, ao_guard_t, st_at, pk_at, if_t, as_pick, as_store, as_move, as_assign, as_binOp, as_load, as_indexAddr, as_build, fr_false, fr_nil, fr_cons, List.contains_nil, beq_self_eq_true, Bool.and_self, hk_some, hopG, rd, aopsD, heapF, constT, evT, lk, putT, GV, gdst, binF, loadF, cellsF, ovw, fillF, buildF, partsF, okCell, resF, resL, constA, cellA, TK.isAgg, Value.oneCell', List.length_cons, List.length_nil, List.getElem?_cons_zero, List.getElem?_cons_succ, List.drop_zero, List.take_succ_cons, List.take_nil, List.set_cons_zero, List.set_cons_succ, List.all_cons, List.all_nil, Option.map_some, Option.bind_some, Nat.reduceAdd, Nat.reduceSub, Nat.reduceEqDiff, Nat.reduceLeDiff, true_and, and_true, and_self, eq_self, Bool.false_eq_true, Bool.not_false, ↓reduceIte, Int.reduceToNat, Int.reduceLE, Nat.zero_add, Nat.le_refl, TT5, TT25, TT38]
                    exact ⟨by omega, rfl⟩
                  · rw [if_neg (fun hh => hh.2 hp.2)] at hF
                    simp only [decide_eq_false hp.1, decide_eq_true hp.2, getD_byteN, ac_skip, ac_seq, ac_cond, ac_region, at_normal, ao_nil, ao_cons, ao_guard_t, st_at, pk_at, if_t, if_f, as_pick, as_call, as_move, as_binOp, as_load, as_indexAddr, fr_false, List.contains_nil, beq_self_eq_true, hk_some, hopG, rd, aopsD, frzW, frzR, constT, evT, lk, putT, GV, gdst, binF, loadF, argsF, constA, cellA, TK.isAgg, Option.map_some, Nat.reduceSub, Nat.reduceEqDiff, Nat.reduceLeDiff, true_and, eq_self, Bool.false_eq_true, Bool.not_true, Bool.not_false, ↓reduceIte, Int.reduceToNat, Int.reduceLE, TT5, TT38]
                    refine ⟨by omega, ?_⟩
                    refine ACall.intro (refGet_a b n 2 (by omega) (by omega)) ?_
                    rw [show ((2 : Nat) : Int) = 2 from rfl, gN]
                    simp only [i64_in (n := (n : Int) + 2) (by omega) (by omega), ac_seq, ac_region, at_normal, ao_nil, ao_cons, as_call, as_move, as_assign, as_binOp, as_extract, u32A, boA, fr_false, List.contains_nil, beq_self_eq_true, hk_some, hopG, rd, aopsD, frzW, frzR, constT, evT, lk, putT, binF, argsF, constA, cellA, List.getElem?_cons_zero, List.getElem?_cons_succ, Option.map_some, Nat.reduceSub, Nat.reduceEqDiff, Nat.reduceLeDiff, true_and, eq_self, Bool.false_eq_true, ↓reduceIte, TT3]
                    refine ACall.intro (refGet_a b _ 2 (by omega) (by omega)) ?_
                    rw [show ((2 : Nat) : Int) = 2 from rfl, gN2]
                    cases ht : thereB b.length ((n : Int) + 2) 2
                    · rw [hth, ht, if_neg (by simp)] at hF
                      rw [hF]
                      simp only [ac_seq, ac_region, at_normal, ao_nil, ao_cons, ao_guard_f, as_move, as_assign, as_unOp, as_extract, u32A, boA, fr_false, List.contains_nil, beq_self_eq_true, hk_some, hopG, rd, aopsD, evT, lk, putT, GV, gdst, unF, List.getElem?_cons_zero, List.getElem?_cons_succ, Option.map_some, Nat.reduceSub, Nat.reduceEqDiff, Nat.reduceLeDiff, true_and, eq_self, Bool.false_eq_true, ↓reduceIte]
                      cases ht1 : thereB b.length (n : Int) 2
                      · simp only [ac_ret, ac_seq, ac_cond, ac_region, at_normal, at_ret, ae_ret, ao_nil, ao_cons, ao_guard_f, sk_at, pk_at, if_t, as_pick, as_store, as_assign, as_build, fr_false, fr_nil, fr_cons, List.contains_nil, beq_self_eq_true, Bool.and_self, hk_some, hopG, rd, aopsD, heapF, constT, evT, lk, putT, GV, gdst, loadF, cellsF, ovw, fillF, buildF, partsF, okCell, resF, resL, constA, cellA, TK.isAgg, Value.oneCell', List.length_cons, List.length_nil, List.getElem?_cons_zero, List.getElem?_cons_succ, List.drop_zero, List.take_succ_cons, List.take_nil, List.set_cons_zero, List.set_cons_succ, List.all_cons, List.all_nil, Option.map_some, Option.bind_some, Nat.reduceAdd, Nat.reduceSub, Nat.reduceEqDiff, Nat.reduceLeDiff, true_and, and_true, and_self, eq_self, Bool.false_eq_true, Bool.not_false, ↓reduceIte, Nat.zero_add, Nat.le_refl, TT25]
                        try rfl
                      · simp only [ac_ret, ac_seq, ac_cond, ac_region, at_normal, at_ret, ae_ret, ao_nil, ao_cons, ao_guard_f, st_at, pk_at, if_t, if_f, as_pick, as_store, as_move, as_assign, as_unOp, as_build, fr_false, fr_nil, fr_cons, List.contains_nil, beq_self_eq_true, Bool.and_self, hk_some, hopG, rd, aopsD, heapF, constT, evT, lk, putT, GV, gdst, unF, loadF, cellsF, ovw, fillF, buildF, partsF, okCell, resF, resL, constA, cellA, TK.isAgg, Value.oneCell', List.length_cons, List.length_nil, List.getElem?_cons_zero, List.getElem?_cons_succ, List.drop_zero, List.take_succ_cons, List.take_nil, List.set_cons_zero, List.set_cons_succ, List.all_cons, List.all_nil, Option.map_some, Option.bind_some, Nat.reduceAdd, Nat.reduceSub, Nat.reduceEqDiff, Nat.reduceLeDiff, true_and, and_true, and_self, eq_self, Bool.false_eq_true, Bool.not_true, Bool.not_false, ↓reduceIte, Nat.zero_add, Nat.le_refl, TT25]
                        try rfl
                    · have ht1 : thereB b.length (n : Int) 2 = true := thereB_iff.2 (by have := thereB_iff.1 ht; omega)
                      rw [hth, ht, if_pos rfl, (hg ht).1, (hg ht).2] at hF
                      rw [hF]
                      simp only [ht1, u16_in (n := get16 b (n : Int)) (by omega) (by omega), u16_in (n := get16 b ((n : Int) + 2)) (by omega) (by omega), getD_byteN, ac_skip, ac_seq, ac_cond, ac_region, at_normal, ao_nil, ao_cons, ao_guard_f, st_at, pk_at, if_f, as_pick, as_call, as_alloc, as_store, as_move, as_assign, as_unOp, as_convert, as_load, as_indexAddr, as_extract, as_build, u32A, boA, fr_false, List.contains_nil, beq_self_eq_true, Bool.and_self, hk_some, hopG, rd, aopsD, heapF, frzW, frzR, constT, evT, lk, putT, GV, gdst, unF, convF, loadF, cellsF, ovw, fillF, buildF, partsF, argsF, okCell, constA, cellA, TK.isAgg, Value.oneCell', List.length_cons, List.length_nil, List.getElem?_cons_zero, List.getElem?_cons_succ, List.set_cons_zero, List.set_cons_succ, List.nil_append, List.cons_append, List.all_cons, List.all_nil, Option.map_some, Nat.reduceAdd, Nat.reduceSub, Nat.reduceEqDiff, Nat.reduceLeDiff, true_and, and_self, eq_self, Bool.false_eq_true, Bool.not_true, ↓reduceIte, Int.reduceToNat, Int.reduceLE, Nat.zero_add, Nat.le_refl, TT5, TT22, TT23, TT25, TT38]
                      refine ⟨by omega, ?_⟩
                      refine ACall.intro (refGet_a b 12 4 (by omega) (by omega)) ?_
                      simp only [ac_seq, ac_region, at_normal, ao_nil, ao_cons, as_call, as_store, as_move, as_fieldAddr, as_extract, u32A, boA, fr_false, List.contains_nil, beq_self_eq_true, Int.cast_ofNat_Int, Bool.and_self, hk_some, hopG, rd, aopsD, heapF, frzW, frzR, constT, evT, lk, putT, cellsF, ovw, argsF, okCell, constA, cellA, Value.oneCell', List.length_cons, List.length_nil, List.getElem?_cons_zero, List.getElem?_cons_succ, List.set_cons_zero, List.set_cons_succ, List.all_cons, List.all_nil, Option.map_some, Nat.reduceAdd, Nat.reduceSub, Nat.reduceEqDiff, Nat.reduceLeDiff, Nat.succ_ne_zero, ne_eq, not_false_eq_true, true_and, and_self, eq_self, Bool.false_eq_true, ↓reduceIte, Int.reduceToNat, Nat.zero_add, Nat.add_zero, TT22, TT25]
                      refine ACall.intro (refGet_a b 16 4 (by omega) (by omega)) ?_
                      simp only [ac_ret, ac_seq, ac_region, at_normal, ae_ret, ao_nil, ao_cons, as_store, as_move, as_assign, as_load, as_fieldAddr, as_extract, u32A, boA, fr_false, fr_nil, fr_cons, List.contains_nil, beq_self_eq_true, Int.cast_ofNat_Int, Bool.and_self, hk_some, hopG, rd, aopsD, heapF, constT, evT, lk, putT, loadF, cellsF, ovw, okCell, resF, resL, constA, cellA, TK.isAgg, Value.oneCell', List.length_cons, List.length_nil, List.getElem?_cons_zero, List.getElem?_cons_succ, List.drop_zero, List.take_succ_cons, List.take_nil, List.set_cons_zero, List.set_cons_succ, List.all_cons, List.all_nil, Option.map_some, Option.bind_some, Nat.reduceAdd, Nat.reduceSub, Nat.reduceEqDiff, Nat.reduceLeDiff, Nat.succ_ne_zero, ne_eq, not_false_eq_true, true_and, and_true, and_self, eq_self, Bool.false_eq_true, ↓reduceIte, Int.reduceToNat, Nat.zero_add, Nat.le_refl, TT22, TT25]
                      try rfl
                  · rw [if_neg (fun hh => hh.1 hp)] at hF
                    simp only [decide_eq_true hp, ac_skip, ac_seq, ac_cond, ac_region, at_normal, ao_nil, ao_cons, ao_guard_t, sk_at, pk_at, if_f, as_pick, as_call, as_move, fr_false, List.contains_nil, beq_self_eq_true, rd, aopsD, frzW, frzR, constT, evT, lk, putT, GV, gdst, argsF, constA, cellA, Option.map_some, Nat.reduceSub, Nat.reduceEqDiff, Nat.reduceLeDiff, eq_self, Bool.false_eq_true, Bool.not_true, ↓reduceIte]
                    refine ACall.intro (refGet_a b n 2 (by omega) (by omega)) ?_
                    rw [show ((2 : Nat) : Int) = 2 from rfl, gN]
                    simp only [i64_in (n := (n : Int) + 2) (by omega) (by omega), ac_seq, ac_region, at_normal, ao_nil, ao_cons, as_call, as_move, as_assign, as_binOp, as_extract, u32A, boA, fr_false, List.contains_nil, beq_self_eq_true, hk_some, hopG, rd, aopsD, frzW, frzR, constT, evT, lk, putT, binF, argsF, constA, cellA, List.getElem?_cons_zero, List.getElem?_cons_succ, Option.map_some, Nat.reduceSub, Nat.reduceEqDiff, Nat.reduceLeDiff, true_and, eq_self, Bool.false_eq_true, ↓reduceIte, TT3]
                    refine ACall.intro (refGet_a b _ 2 (by omega) (by omega)) ?_
                    rw [show ((2 : Nat) : Int) = 2 from rfl, gN2]
                    cases ht : thereB b.length ((n : Int) + 2) 2
                    · rw [hth, ht, if_neg (by simp)] at hF
                      rw [hF]
                      simp only [ac_seq, ac_region, at_normal, ao_nil, ao_cons, ao_guard_f, as_move, as_assign, as_unOp, as_extract, u32A, boA, fr_false, List.contains_nil, beq_self_eq_true, hk_some, hopG, rd, aopsD, evT, lk, putT, GV, gdst, unF, List.getElem?_cons_zero, List.getElem?_cons_succ, Option.map_some, Nat.reduceSub, Nat.reduceEqDiff, Nat.reduceLeDiff, true_and, eq_self, Bool.false_eq_true, ↓reduceIte]
                      cases ht1 : thereB b.length (n : Int) 2
                      · simp only [ac_ret, ac_seq, ac_cond, ac_region, at_normal, at_ret, ae_ret, ao_nil, ao_cons, ao_guard_f, sk_at, pk_at, if_t, as_pick, as_store, as_assign, as_build, fr_false, fr_nil, fr_cons, List.contains_nil, beq_self_eq_true, Bool.and_self, hk_some, hopG, rd, aopsD, heapF, constT, evT, lk, putT, GV, gdst, loadF, cellsF, ovw, fillF, buildF, partsF, okCell, resF, resL, constA, cellA, TK.isAgg, Value.oneCell', List.length_cons, List.length_nil, List.getElem?_cons_zero, List.getElem?_cons_succ, List.drop_zero, List.take_succ_cons, List.take_nil, List.set_cons_zero, List.set_cons_succ, List.all_cons, List.all_nil, Option.map_some, Option.bind_some, Nat.reduceAdd, Nat.reduceSub, Nat.reduceEqDiff, Nat.reduceLeDiff, true_and, and_true, and_self, eq_self, Bool.false_eq_true, Bool.not_false, ↓reduceIte, Nat.zero_add, Nat.le_refl, TT25]
                        try rfl
                      · simp only [ac_ret, ac_seq, ac_cond, ac_region, at_normal, at_ret, ae_ret, ao_nil, ao_cons, ao_guard_f, st_at, pk_at, if_t, if_f, as_pick, as_store, as_move, as_assign, as_unOp, as_build, fr_false, fr_nil, fr_cons, List.contains_nil, beq_self_eq_true, Bool.and_self, hk_some, hopG, rd, aopsD, heapF, constT, evT, lk, putT, GV, gdst, unF, loadF, cellsF, ovw, fillF, buildF, partsF, okCell, resF, resL, constA, cellA, TK.isAgg, Value.oneCell', List.length_cons, List.length_nil, List.getElem?_cons_zero, List.getElem?_cons_succ, List.drop_zero, List.take_succ_cons, List.take_nil, List.set_cons_zero, List.set_cons_succ, List.all_cons, List.all_nil, Option.map_some, Option.bind_some, Nat.reduceAdd, Nat.reduceSub, Nat.reduceEqDiff, Nat.reduceLeDiff, true_and, and_true, and_self, eq_self, Bool.false_eq_true, Bool.not_true, Bool.not_false, ↓reduceIte, Nat.zero_add, Nat.le_refl, TT25]
                        try rfl
                    · have ht1 : thereB b.length (n : Int) 2 = true := thereB_iff.2 (by have := thereB_iff.1 ht; omega)
                      rw [hth, ht, if_pos rfl, (hg ht).1, (hg ht).2] at hF
                      rw [hF]
                      simp only [ht1, u16_in (n := get16 b (n : Int)) (by omega) (by omega), u16_in (n := get16 b ((n : Int) + 2)) (by omega) (by omega), getD_byteN, ac_skip, ac_seq, ac_cond, ac_region, at_normal, ao_nil, ao_cons, ao_guard_f, st_at, pk_at, if_f, as_pick, as_call, as_alloc, as_store, as_move, as_assign, as_unOp, as_convert, as_load, as_indexAddr, as_extract, as_build, u32A, boA, fr_false, List.contains_nil, beq_self_eq_true, Bool.and_self, hk_some, hopG, rd, aopsD, heapF, frzW, frzR, constT, evT, lk, putT, GV, gdst, unF, convF, loadF, cellsF, ovw, fillF, buildF, partsF, argsF, okCell, constA, cellA, TK.isAgg, Value.oneCell', List.length_cons, List.length_nil, List.getElem?_cons_zero, List.getElem?_cons_succ, List.set_cons_zero, List.set_cons_succ, List.nil_append, List.cons_append, List.all_cons, List.all_nil, Option.map_some, Nat.reduceAdd, Nat.reduceSub, Nat.reduceEqDiff, Nat.reduceLeDiff, true_and, and_self, eq_self, Bool.false_eq_true, Bool.not_true, ↓reduceIte, Int.reduceToNat, Int.reduceLE, Nat.zero_add, Nat.le_refl, TT5, TT22, TT23, TT25, TT38]
                      refine ⟨by omega, ?_⟩
                      refine ACall.intro (refGet_a b 12 4 (by omega) (by omega)) ?_
                      simp only [ac_seq, ac_region, at_normal, ao_nil, ao_cons, as_call, as_store, as_move, as_fieldAddr, as_extract, u32A, boA, fr_false, List.contains_nil, beq_self_eq_true, Int.cast_ofNat_Int, Bool.and_self, hk_some, hopG, rd, aopsD, heapF, frzW, frzR, constT, evT, lk, putT, cellsF, ovw, argsF, okCell, constA, cellA, Value.oneCell', List.length_cons, List.length_nil, List.getElem?_cons_zero, List.getElem?_cons_succ, List.set_cons_zero, List.set_cons_succ, List.all_cons, List.all_nil, Option.map_some, Nat.reduceAdd, Nat.reduceSub, Nat.reduceEqDiff, Nat.reduceLeDiff, Nat.succ_ne_zero, ne_eq, not_false_eq_true, true_and, and_self, eq_self, Bool.false_eq_true, ↓reduceIte, Int.reduceToNat, Nat.zero_add, Nat.add_zero, TT22, TT25]
                      refine ACall.intro (refGet_a b 16 4 (by omega) (by omega)) ?_
                      simp only [ac_ret, ac_seq, ac_region, at_normal, ae_ret, ao_nil, ao_cons, as_store, as_move, as_assign, as_load, as_fieldAddr, as_extract, u32A, boA, fr_false, fr_nil, fr_cons, List.contains_nil, beq_self_eq_true, Int.cast_ofNat_Int, Bool.and_self, hk_some, hopG, rd, aopsD, heapF, constT, evT, lk, putT, loadF, cellsF, ovw, okCell, resF, resL, constA, cellA, TK.isAgg, Value.oneCell', List.length_cons, List.length_nil, List.getElem?_cons_zero, List.getElem?_cons_succ, List.drop_zero, List.take_succ_cons, List.take_nil, List.set_cons_zero, List.set_cons_succ, List.all_cons, List.all_nil, Option.map_some, Option.bind_some, Nat.reduceAdd, Nat.reduceSub, Nat.reduceEqDiff, Nat.reduceLeDiff, Nat.succ_ne_zero, ne_eq, not_false_eq_true, true_and, and_true, and_self, eq_self, Bool.false_eq_true, ↓reduceIte, Int.reduceToNat, Nat.zero_add, Nat.le_refl, TT22, TT25]
                      try rfl
            · rw [dT] at c5
              rw [if_pos (by omega)] at P
              rw [key 4 P (by omega)]
              simp only [ac_ret, ac_seq, ac_region, at_normal, at_ret, ae_ret, ao_nil, ao_cons, if_t, as_store, as_assign, as_build, fr_false, fr_nil, fr_cons, List.contains_nil, beq_self_eq_true, Bool.and_self, hk_some, hopG, rd, aopsD, heapF, constT, evT, lk, putT, loadF, cellsF, ovw, fillF, buildF, partsF, okCell, resF, resL, constA, cellA, TK.isAgg, Value.oneCell', List.length_cons, List.length_nil, List.getElem?_cons_zero, List.getElem?_cons_succ, List.drop_zero, List.take_succ_cons, List.take_nil, List.set_cons_zero, List.set_cons_succ, List.all_cons, List.all_nil, Option.map_some, Option.bind_some, Nat.reduceAdd, Nat.reduceSub, Nat.reduceEqDiff, Nat.reduceLeDiff, true_and, and_true, and_self, eq_self, Bool.false_eq_true, ↓reduceIte, Nat.zero_add, Nat.le_refl, TT25]
              try rfl
          · rw [dT] at c4
            rw [key 3 (step2 (by omega) (by omega)) (by omega)]
            simp only [ac_ret, ac_seq, ac_region, at_normal, at_ret, ae_ret, ao_nil, ao_cons, if_t, as_store, as_assign, as_build, fr_false, fr_nil, fr_cons, List.contains_nil, beq_self_eq_true, Bool.and_self, hk_some, hopG, rd, aopsD, heapF, constT, evT, lk, putT, loadF, cellsF, ovw, fillF, buildF, partsF, okCell, resF, resL, constA, cellA, TK.isAgg, Value.oneCell', List.length_cons, List.length_nil, List.getElem?_cons_zero, List.getElem?_cons_succ, List.drop_zero, List.take_succ_cons, List.take_nil, List.set_cons_zero, List.set_cons_succ, List.all_cons, List.all_nil, Option.map_some, Option.bind_some, Nat.reduceAdd, Nat.reduceSub, Nat.reduceEqDiff, Nat.reduceLeDiff, true_and, and_true, and_self, eq_self, Bool.false_eq_true, ↓reduceIte, Nat.zero_add, Nat.le_refl, TT25]
            try rfl
      · rw [dT] at c2
        rw [key 4 (step1 (by omega)) (by omega)]
        simp only [ac_ret, ac_seq, ac_region, at_normal, at_ret, ae_ret, ao_nil, ao_cons, if_t, as_store, as_assign, as_build, fr_false, fr_nil, fr_cons, List.contains_nil, beq_self_eq_true, Bool.and_self, hk_some, hopG, rd, aopsD, heapF, constT, evT, lk, putT, loadF, cellsF, ovw, fillF, buildF, partsF, okCell, resF, resL, constA, cellA, TK.isAgg, Value.oneCell', List.length_cons, List.length_nil, List.getElem?_cons_zero, List.getElem?_cons_succ, List.drop_zero, List.take_succ_cons, List.take_nil, List.set_cons_zero, List.set_cons_succ, List.all_cons, List.all_nil, Option.map_some, Option.bind_some, Nat.reduceAdd, Nat.reduceSub, Nat.reduceEqDiff, Nat.reduceLeDiff, true_and, and_true, and_self, eq_self, Bool.false_eq_true, ↓reduceIte, Nat.zero_add, Nat.le_refl, TT25]
        try rfl
    · simp only [decide_eq_false h, decide_eq_true h', ac_skip, ac_seq, ac_cond, ac_region, at_normal, ao_nil, ao_cons, ao_guard_t, st_at, sk_at, pk_at, if_t, if_f, as_pick, as_move, as_binOp, as_load, as_fieldAddr, as_len, fr_false, List.contains_nil, beq_self_eq_true, hk_some, hopG, hopF, rd, aopsD, constT, evT, lk, putT, GV, gdst, lenF, binF, loadF, constA, cellA, TK.isAgg, List.getElem?_cons_zero, List.drop_zero, Option.map_some, Nat.reduceSub, Nat.reduceEqDiff, Nat.reduceLeDiff, Nat.succ_ne_zero, ne_eq, not_false_eq_true, true_and, eq_self, Bool.false_eq_true, Bool.not_true, Bool.not_false, ↓reduceIte, Nat.add_zero, TT3, TT5, TT38, TT134]
      cases c2 : decide ((b.length : Int) < 20)
      · rw [dF] at c2
        simp only [getD_byteN, e0, e4, ac_skip, ac_seq, ac_region, at_normal, ao_cons, ao_guard_f, if_f, as_move, as_binOp, as_load, as_indexAddr, fr_false, List.contains_nil, beq_self_eq_true, Int.reduceEq, hk_some, hopG, rd, aopsD, constT, evT, lk, putT, GV, gdst, binF, loadF, constA, cellA, TK.isAgg, Option.map_some, Nat.reduceSub, Nat.reduceEqDiff, Nat.reduceLeDiff, ne_eq, not_false_eq_true, true_and, and_self, eq_self, Bool.false_eq_true, ↓reduceIte, Int.toNat_zero, Int.reduceLE, TT5, TT38]
        refine ⟨by omega, ?_⟩
        cases c3 : decide (byteN b 0 / 16 = 4)
        · rw [dF] at c3
          rw [key 3 (step2 (by omega) (by omega)) (by omega)]
          simp only [ac_ret, ac_seq, ac_cond, ac_region, at_normal, at_ret, ae_ret, ao_nil, ao_cons, ao_guard_f, sk_at, pk_at, if_t, as_pick, as_store, as_assign, as_build, fr_false, fr_nil, fr_cons, List.contains_nil, beq_self_eq_true, Bool.and_self, hk_some, hopG, rd, aopsD, heapF, constT, evT, lk, putT, GV, gdst, loadF, cellsF, ovw, fillF, buildF, partsF, okCell, resF, resL, constA, cellA, TK.isAgg, Value.oneCell', List.length_cons, List.length_nil, List.getElem?_cons_zero, List.getElem?_cons_succ, List.drop_zero, List.take_succ_cons, List.take_nil, List.set_cons_zero, List.set_cons_succ, List.all_cons, List.all_nil, Option.map_some, Option.bind_some, Nat.reduceAdd, Nat.reduceSub, Nat.reduceEqDiff, Nat.reduceLeDiff, true_and, and_true, and_self, eq_self, Bool.false_eq_true, Bool.not_false, ↓reduceIte, Nat.zero_add, Nat.le_refl, TT25]
          try rfl
        · rw [dT] at c3
          simp only [getD_byteN, e1, ac_cond, at_normal, ao_nil, ao_cons, ao_guard_f, st_at, pk_at, if_f, as_pick, as_move, as_binOp, as_load, as_indexAddr, beq_self_eq_true, Int.reduceEq, hk_some, hopG, rd, constT, evT, lk, putT, GV, gdst, binF, loadF, constA, cellA, TK.isAgg, Option.map_some, Nat.reduceSub, Nat.reduceEqDiff, ne_eq, not_false_eq_true, true_and, and_self, eq_self, Bool.false_eq_true, Bool.not_true, ↓reduceIte, Int.toNat_zero, Int.reduceLE, TT5, TT38]
          refine ⟨by omega, ?_⟩
          cases c4 : decide (byteN b 0 % 16 < 5)
          · rw [dF] at c4
            simp only [getD_byteN, e1, e2, e3, ac_skip, ac_seq, ac_cond, ac_region, at_normal, ao_nil, ao_cons, if_f, as_move, as_assign, as_binOp, as_convert, as_load, as_indexAddr, as_len, fr_false, List.contains_nil, beq_self_eq_true, Int.reduceEq, hk_some, hopG, hopF, rd, aopsD, constT, evT, lk, putT, lenF, binF, convF, loadF, constA, cellA, TK.isAgg, Option.map_some, Nat.reduceSub, Nat.reduceEqDiff, Nat.reduceLeDiff, ne_eq, not_false_eq_true, true_and, and_self, eq_self, Bool.false_eq_true, ↓reduceIte, Int.toNat_zero, Int.reduceLE, TT3, TT5, TT38]
            refine ⟨by omega, ?_⟩
            have P := step3 (by omega) (by omega) (by omega)
            obtain ⟨n, hn⟩ : ∃ n : Nat, byteN b 0 % 16 * 4 = (n : Int) := ⟨(byteN b 0 % 16 * 4).toNat, by omega⟩
            have hn2 : 4 * (byteN b 0 - 64) = (n : Int) := by omega
            rw [hn2] at P
            rw [hn]
            cases c5 : decide ((b.length : Int) < (n : Int))
            · rw [dF] at c5
              rw [if_neg (by omega), Int.toNat_natCast] at P
              have hz : ((n : Int) - 0).toNat = n := by omega
              simp only [hz, ac_skip, ac_seq, ac_region, at_normal, ao_cons, if_f, as_call, as_move, as_slice, fr_false, List.contains_nil, beq_self_eq_true, hk_some, hopG, rd, aopsD, frzW, frzR, constT, evT, lk, putT, bndF, cutF, argsF, constA, cellA, List.drop_zero, Option.map_some, Option.map_none, Option.bind_some, Nat.reduceSub, Nat.reduceEqDiff, Nat.reduceLeDiff, true_and, eq_self, Bool.false_eq_true, ↓reduceIte, Int.toNat_zero, Int.reduceLE, TT38]
              refine ⟨⟨by omega, by omega⟩, ?_⟩
              refine ACall.intro (refOnes_a (b.take n) (by simp [small]; omega)) ?_
              simp only [ac_cond, at_normal, ao_nil, ao_cons, as_binOp, i64, beq_self_eq_true, hk_some, hopG, rd, constT, evT, lk, putT, binF, constA, cellA, Option.map_some, Nat.reduceSub, true_and, eq_self, ↓reduceIte, TT3]
              cases hq : decide (onesF (b.take n) = 65535)
              · rw [dF] at hq
                rw [if_pos hq] at P
                rw [key 5 P (by omega)]
                simp only [ac_ret, ac_seq, ac_region, at_normal, at_ret, ae_ret, ao_nil, ao_cons, if_t, as_store, as_assign, as_build, fr_false, fr_nil, fr_cons, List.contains_nil, beq_self_eq_true, Bool.and_self, hk_some, hopG, rd, aopsD, heapF, constT, evT, lk, putT, loadF, cellsF, ovw, fillF, buildF, partsF, okCell, resF, resL, constA, cellA, TK.isAgg, Value.oneCell', List.length_cons, List.length_nil, List.getElem?_cons_zero, List.getElem?_cons_succ, List.drop_zero, List.take_succ_cons, List.take_nil, List.set_cons_zero, List.set_cons_succ, List.all_cons, List.all_nil, Option.map_some, Option.bind_some, Nat.reduceAdd, Nat.reduceSub, Nat.reduceEqDiff, Nat.reduceLeDiff, true_and, and_true, and_self, eq_self, Bool.false_eq_true, Bool.not_false, ↓reduceIte, Nat.zero_add, Nat.le_refl, TT25]
                try rfl
              · rw [dT] at hq
                rw [if_neg (by simpa using hq)] at P
                have w6 : IntKind.i64.wrap (IntKind.i64.wrap (IntKind.i64.wrap (byteN b 6) * 256) + IntKind.i64.wrap (byteN b 7)) = get16 b 6 := i64_bytes b 6 (by omega)
                have hO2 : quO t b = flowP (quP b).1 := by rw [hO, P, if_pos rfl]
                have hpart : (decide (get16 b 6 / 8192 % 2 = 1) || decide (0 < get16 b 6 % 8192)) = !decide (get16 b 6 % 16384 = 0) := by
                  rw [Bool.eq_iff_iff]
                  simp only [Bool.or_eq_true, decide_eq_true_eq, Bool.not_eq_true', decide_eq_false_iff_not]
                  omega
                simp only [getD_byteN, w6, tmodN (a := get16 b 6) (b := 16384) n6.1, ac_skip, ac_seq, ac_cond, ac_region, at_normal, ao_nil, ao_cons, if_f, as_move, as_assign, as_binOp, as_convert, as_load, as_indexAddr, fr_false, List.contains_nil, Nat.reduceBEq, beq_self_eq_true, Int.reduceEq, hk_some, hopG, rd, aopsD, tlN, constT, evT, lk, putT, binF, convF, loadF, constA, cellA, TK.isAgg, List.length_cons, List.length_nil, Option.map_some, Nat.reduceAdd, Nat.reduceSub, Nat.reduceEqDiff, Nat.reduceLeDiff, ne_eq, not_false_eq_true, true_and, and_self, eq_self, Bool.false_eq_true, Bool.not_true, ↓reduceIte, Int.reduceToNat, Int.reduceLE, Nat.zero_add, TT3, TT5, TT38]
                refine ⟨by omega, by omega, ?_⟩
                cases c6 : decide (get16 b 6 % 16384 = 0)
                · rw [show quO t b = (flow0, 11) by rw [hO2, P, flowP]; simp only [hpart, c6, Bool.not_false, if_true]]
                  simp only [ac_ret, ac_seq, ac_region, at_normal, at_ret, ae_ret, ao_nil, ao_cons, if_t, as_store, as_assign, as_build, fr_false, fr_nil, fr_cons, List.contains_nil, beq_self_eq_true, Bool.and_self, hk_some, hopG, rd, aopsD, heapF, constT, evT, lk, putT, loadF, cellsF, ovw, fillF, buildF, partsF, okCell, resF, resL, constA, cellA, TK.isAgg, Value.oneCell', List.length_cons, List.length_nil, List.getElem?_cons_zero, List.getElem?_cons_succ, List.drop_zero, List.take_succ_cons, List.take_nil, List.set_cons_zero, List.set_cons_succ, List.all_cons, List.all_nil, Option.map_some, Option.bind_some, Nat.reduceAdd, Nat.reduceSub, Nat.reduceEqDiff, Nat.reduceLeDiff, true_and, and_true, and_self, eq_self, Bool.false_eq_true, Bool.not_false, ↓reduceIte, Nat.zero_add, Nat.le_refl, TT25]
                  try rfl
                · simp only [getD_byteN, ac_skip, ac_seq, ac_region, at_normal, ao_cons, ao_guard_t, if_f, as_move, as_binOp, as_load, as_indexAddr, fr_false, List.contains_nil, beq_self_eq_true, hk_some, hopG, rd, aopsD, constT, evT, lk, putT, GV, gdst, binF, loadF, constA, cellA, TK.isAgg, Option.map_some, Nat.reduceSub, Nat.reduceEqDiff, Nat.reduceLeDiff, true_and, eq_self, Bool.false_eq_true, Bool.not_true, ↓reduceIte, Int.reduceToNat, Int.reduceLE, TT5, TT38]
                  refine ⟨by omega, ?_⟩
                  have hF : quO t b = if ¬ byteN b 9 = 6 ∧ ¬ byteN b 9 = 17 then (flow0, 3) else if thereB (quP b).1.data.length 2 2 = true then (⟨get32 b 12, get32 b 16, get16 (quP b).1.data 0, get16 (quP b).1.data 2, byteN b 9⟩, 0) else (flow0, 4) := by
                    rw [hO2, P, flowP]
                    simp only [hpart, c6, Bool.not_true, Bool.false_eq_true, if_false]
                  have hdat : (quP b).1.data = (b.drop n).take (if 4 < b.length - n then 4 else b.length - n) := by
                    rw [P]
                    simp only
                    have := cutB_nat b n (if 4 < b.length - n then 4 else b.length - n) (by split <;> omega)
                    rw [← this]
                    congr 1
                    split <;> split <;> omega
                  have hdl : (quP b).1.data.length = (if 4 < b.length - n then 4 else b.length - n) := by rw [hdat]; simp; split <;> omega
                  have hth : thereB (quP b).1.data.length 2 2 = thereB b.length ((n : Int) + 2) 2 := by
                    rw [hdl, Bool.eq_iff_iff, thereB_iff, thereB_iff]
                    split <;> omega
                  have hg : thereB b.length ((n : Int) + 2) 2 = true → get16 (quP b).1.data 0 = get16 b n ∧ get16 (quP b).1.data 2 = get16 b ((n : Int) + 2) := fun hth' => by
                    have := thereB_iff.1 hth'
                    have hk : (if 4 < b.length - n then 4 else b.length - n) = 4 := by split <;> omega
                    rw [hdat, hk]
                    have h1 := get16_sub b n 4 0 (by omega) (by omega)
                    have h2 := get16_sub b n 4 2 (by omega) (by omega)
                    exact ⟨h1, h2⟩
                  have gN := get_two b n (by omega)
                  have gN2 := get_two b ((n : Int) + 2) (by omega)
                  have wN := get16_bd b n
                  have wN2 := get16_bd b ((n : Int) + 2)
                  have fin : ∀ (X : Prop), ((¬ byteN b 9 = 6 ∧ ¬ byteN b 9 = 17) → X) → ((¬ byteN b 9 = 6 ∧ byteN b 9 = 17) → X) → (byteN b 9 = 6 → X) → X := fun X a1 a2 a3 => by
                    by_cases h6 : byteN b 9 = 6
                    · exact a3 h6
                    · by_cases h17 : byteN b 9 = 17
                      · exact a2 ⟨h6, h17⟩
                      · exact a1 ⟨h6, h17⟩
                  refine fin _ (fun hp => ?_) (fun hp => ?_) (fun hp => ?_)
                  · rw [if_pos hp] at hF
                    rw [hF]
                    simp only [decide_eq_false hp.1, decide_eq_false hp.2, getD_byteN, ac_ret, ac_seq, ac_cond, ac_region, at_normal, at_ret, ae_ret, ao_nil, ao_cons, ao_guard_t, st_at, pk_at, if_t, as_pick, as_store, as_move, as_assign, as_binOp, as_load, as_indexAddr, as_build, fr_false, fr_nil, fr_cons, List.contains_nil, beq_self_eq_true, Bool.and_self, hk_some, hopG, rd, aopsD, heapF, constT, evT, lk, putT, GV, gdst, binF, loadF, cellsF, ovw, fillF, buildF, partsF, okCell, resF, resL, constA, cellA, TK.isAgg, Value.oneCell', List.length_cons, List.length_nil, List.getElem?_cons_zero, List.getElem?_cons_succ, List.drop_zero, List.take_succ_cons, List.take_nil, List.set_cons_zero, List.set_cons_succ, List.all_cons, List.all_nil, Option.map_some, Option.bind_some, Nat.reduceAdd, Nat.reduceSub, Nat.reduceEqDiff, Nat.reduceLeDiff, true_and, and_true, and_self, eq_self, Bool.false_eq_true, Bool.not_false, ↓reduceIte, Int.reduceToNat, Int.reduceLE, Nat.zero_add, Nat.le_refl, TT5, TT25, TT38]
                    exact ⟨by omega, rfl⟩
                  · rw [if_neg (fun hh => hh.2 hp.2)] at hF
                    simp only [decide_eq_false hp.1, decide_eq_true hp.2, getD_byteN, ac_skip, ac_seq, ac_cond, ac_region, at_normal, ao_nil, ao_cons, ao_guard_t, st_at, pk_at, if_t, if_f, as_pick, as_call, as_move, as_binOp, as_load, as_indexAddr, fr_false, List.contains_nil, beq_self_eq_true, hk_some, hopG, rd, aopsD, frzW, frzR, constT, evT, lk, putT, GV, gdst, binF, loadF, argsF, constA, cellA, TK.isAgg, Option.map_some, Nat.reduceSub, Nat.reduceEqDiff, Nat.reduceLeDiff, true_and, eq_self, Bool.false_eq_true, Bool.not_true, Bool.not_false, ↓reduceIte, Int.reduceToNat, Int.reduceLE, TT5, TT38]
                    refine ⟨by omega, ?_⟩
                    refine ACall.intro (refGet_a b n 2 (by omega) (by omega)) ?_
                    rw [show ((2 : Nat) : Int) = 2 from rfl, gN]
                    simp only [i64_in (n := (n : Int) + 2) (by omega) (by omega), ac_seq, ac_region, at_normal, ao_nil, ao_cons, as_call, as_move, as_assign, as_binOp, as_extract, u32A, boA, fr_false, List.contains_nil, beq_self_eq_true, hk_some, hopG, rd, aopsD, frzW, frzR, constT, evT, lk, putT, binF, argsF, constA, cellA, List.getElem?_cons_zero, List.getElem?_cons_succ, Option.map_some, Nat.reduceSub, Nat.reduceEqDiff, Nat.reduceLeDiff, true_and, eq_self, Bool.false_eq_true, ↓reduceIte, TT3]
                    refine ACall.intro (refGet_a b _ 2 (by omega) (by omega)) ?_
                    rw [show ((2 : Nat) : Int) = 2 from rfl, gN2]
                    cases ht : thereB b.length ((n : Int) + 2) 2
                    · rw [hth, ht, if_neg (by simp)] at hF
                      rw [hF]
                      simp only [ac_seq, ac_region, at_normal, ao_nil, ao_cons, ao_guard_f, as_move, as_assign, as_unOp, as_extract, u32A, boA, fr_false, List.contains_nil, beq_self_eq_true, hk_some, hopG, rd, aopsD, evT, lk, putT, GV, gdst, unF, List.getElem?_cons_zero, List.getElem?_cons_succ, Option.map_some, Nat.reduceSub, Nat.reduceEqDiff, Nat.reduceLeDiff, true_and, eq_self, Bool.false_eq_true, ↓reduceIte]
                      cases ht1 : thereB b.length (n : Int) 2
                      · simp only [ac_ret, ac_seq, ac_cond, ac_region, at_normal, at_ret, ae_ret, ao_nil, ao_cons, ao_guard_f, sk_at, pk_at, if_t, as_pick, as_store, as_assign, as_build, fr_false, fr_nil, fr_cons, List.contains_nil, beq_self_eq_true, Bool.and_self, hk_some, hopG, rd, aopsD, heapF, constT, evT, lk, putT, GV, gdst, loadF, cellsF, ovw, fillF, buildF, partsF, okCell, resF, resL, constA, cellA, TK.isAgg, Value.oneCell', List.length_cons, List.length_nil, List.getElem?_cons_zero, List.getElem?_cons_succ, List.drop_zero, List.take_succ_cons, List.take_nil, List.set_cons_zero, List.set_cons_succ, List.all_cons, List.all_nil, Option.map_some, Option.bind_some, Nat.reduceAdd, Nat.reduceSub, Nat.reduceEqDiff, Nat.reduceLeDiff, true_and, and_true, and_self, eq_self, Bool.false_eq_true, Bool.not_false, ↓reduceIte, Nat.zero_add, Nat.le_refl, TT25]
                        try rfl
                      · simp only [ac_ret, ac_seq, ac_cond, ac_region, at_normal, at_ret, ae_ret, ao_nil, ao_cons, ao_guard_f, st_at, pk_at, if_t, if_f, as_pick, as_store, as_move, as_assign, as_unOp, as_build, fr_false, fr_nil, fr_cons, List.contains_nil, beq_self_eq_true, Bool.and_self, hk_some, hopG, rd, aopsD, heapF, constT, evT, lk, putT, GV, gdst, unF, loadF, cellsF, ovw, fillF, buildF, partsF, okCell, resF, resL, constA, cellA, TK.isAgg, Value.oneCell', List.length_cons, List.length_nil, List.getElem?_cons_zero, List.getElem?_cons_succ, List.drop_zero, List.take_succ_cons, List.take_nil, List.set_cons_zero, List.set_cons_succ, List.all_cons, List.all_nil, Option.map_some, Option.bind_some, Nat.reduceAdd, Nat.reduceSub, Nat.reduceEqDiff, Nat.reduceLeDiff, true_and, and_true, and_self, eq_self, Bool.false_eq_true, Bool.not_true, Bool.not_false, ↓reduceIte, Nat.zero_add, Nat.le_refl, TT25]
                        try rfl
                    · have ht1 : thereB b.length (n : Int) 2 = true := thereB_iff.2 (by have := thereB_iff.1 ht; omega)
                      rw [hth, ht, if_pos rfl, (hg ht).1, (hg ht).2] at hF
                      rw [hF]
                      simp only [ht1, u16_in (n := get16 b (n : Int)) (by omega) (by omega), u16_in (n := get16 b ((n : Int) + 2)) (by omega) (by omega), getD_byteN, ac_skip, ac_seq, ac_cond, ac_region, at_normal, ao_nil, ao_cons, ao_guard_f, st_at, pk_at, if_f, as_pick, as_call, as_alloc, as_store, as_move, as_assign, as_unOp, as_convert, as_load, as_indexAddr, as_extract, as_build, u32A, boA, fr_false, List.contains_nil, beq_self_eq_true, Bool.and_self, hk_some, hopG, rd, aopsD, heapF, frzW, frzR, constT, evT, lk, putT, GV, gdst, unF, convF, loadF, cellsF, ovw, fillF, buildF, partsF, argsF, okCell, constA, cellA, TK.isAgg, Value.oneCell', List.length_cons, List.length_nil, List.getElem?_cons_zero, List.getElem?_cons_succ, List.set_cons_zero, List.set_cons_succ, List.nil_append, List.cons_append, List.all_cons, List.all_nil, Option.map_some, Nat.reduceAdd, Nat.reduceSub, Nat.reduceEqDiff, Nat.reduceLeDiff, true_and, and_self, eq_self, Bool.false_eq_true, Bool.not_true, ↓reduceIte, Int.reduceToNat, Int.reduceLE, Nat.zero_add, Nat.le_refl, TT5, TT22, TT23, TT25, TT38]
                      refine ⟨by omega, ?_⟩
                      refine ACall.intro (refGet_a b 12 4 (by omega) (by omega)) ?_
                      simp only [ac_seq, ac_region, at_normal, ao_nil, ao_cons, as_call, as_store, as_move, as_fieldAddr, as_extract, u32A, boA, fr_false, List.contains_nil, beq_self_eq_true, Int.cast_ofNat_Int, Bool.and_self, hk_some, hopG, rd, aopsD, heapF, frzW, frzR, constT, evT, lk, putT, cellsF, ovw, argsF, okCell, constA, cellA, Value.oneCell', List.length_cons, List.length_nil, List.getElem?_cons_zero, List.getElem?_cons_succ, List.set_cons_zero, List.set_cons_succ, List.all_cons, List.all_nil, Option.map_some, Nat.reduceAdd, Nat.reduceSub, Nat.reduceEqDiff, Nat.reduceLeDiff, Nat.succ_ne_zero, ne_eq, not_false_eq_true, true_and, and_self, eq_self, Bool.false_eq_true, ↓reduceIte, Int.reduceToNat, Nat.zero_add, Nat.add_zero, TT22, TT25]
                      refine ACall.intro (refGet_a b 16 4 (by omega) (by omega)) ?_
                      simp only [ac_ret, ac_seq, ac_region, at_normal, ae_ret, ao_nil, ao_cons, as_store, as_move, as_assign, as_load, as_fieldAddr, as_extract, u32A, boA, fr_false, fr_nil, fr_cons, List.contains_nil, beq_self_eq_true, Int.cast_ofNat_Int, Bool.and_self, hk_some, hopG, rd, aopsD, heapF, constT, evT, lk, putT, loadF, cellsF, ovw, okCell, resF, resL, constA, cellA, TK.isAgg, Value.oneCell', List.length_cons, List.length_nil, List.getElem?_cons_zero, List.getElem?_cons_succ, List.drop_zero, List.take_succ_cons, List.take_nil, List.set_cons_zero, List.set_cons_succ, List.all_cons, List.all_nil, Option.map_some, Option.bind_some, Nat.reduceAdd, Nat.reduceSub, Nat.reduceEqDiff, Nat.reduceLeDiff, Nat.succ_ne_zero, ne_eq, not_false_eq_true, true_and, and_true, and_self, eq_self, Bool.false_eq_true, ↓reduceIte, Int.reduceToNat, Nat.zero_add, Nat.le_refl, TT22, TT25]
                      try rfl
                  · rw [if_neg (fun hh => hh.1 hp)] at hF
                    simp only [decide_eq_true hp, ac_skip, ac_seq, ac_cond, ac_region, at_normal, ao_nil, ao_cons, ao_guard_t, sk_at, pk_at, if_f, as_pick, as_call, as_move, fr_false, List.contains_nil, beq_self_eq_true, rd, aopsD, frzW, frzR, constT, evT, lk, putT, GV, gdst, argsF, constA, cellA, Option.map_some, Nat.reduceSub, Nat.reduceEqDiff, Nat.reduceLeDiff, eq_self, Bool.false_eq_true, Bool.not_true, ↓reduceIte]
                    refine ACall.intro (refGet_a b n 2 (by omega) (by omega)) ?_
                    rw [show ((2 : Nat) : Int) = 2 from rfl, gN]
                    simp only [i64_in (n := (n : Int) + 2) (by omega) (by omega), ac_seq, ac_region, at_normal, ao_nil, ao_cons, as_call, as_move, as_assign, as_binOp, as_extract, u32A, boA, fr_false, List.contains_nil, beq_self_eq_true, hk_some, hopG, rd, aopsD, frzW, frzR, constT, evT, lk, putT, binF, argsF, constA, cellA, List.getElem?_cons_zero, List.getElem?_cons_succ, Option.map_some, Nat.reduceSub, Nat.reduceEqDiff, Nat.reduceLeDiff, true_and, eq_self, Bool.false_eq_true, ↓reduceIte, TT3]
                    refine ACall.intro (refGet_a b _ 2 (by omega) (by omega)) ?_
                    rw [show ((2 : Nat) : Int) = 2 from rfl, gN2]
                    cases ht : thereB b.length ((n : Int) + 2) 2
                    · rw [hth, ht, if_neg (by simp)] at hF
                      rw [hF]
                      simp only [ac_seq, ac_region, at_normal, ao_nil, ao_cons, ao_guard_f, as_move, as_assign, as_unOp, as_extract, u32A, boA, fr_false, List.contains_nil, beq_self_eq_true, hk_some, hopG, rd, aopsD, evT, lk, putT, GV, gdst, unF, List.getElem?_cons_zero, List.getElem?_cons_succ, Option.map_some, Nat.reduceSub, Nat.reduceEqDiff, Nat.reduceLeDiff, true_and, eq_self, Bool.false_eq_true, ↓reduceIte]
                      cases ht1 : thereB b.length (n : Int) 2
                      · simp only [ac_ret, ac_seq, ac_cond, ac_region, at_normal, at_ret, ae_ret, ao_nil, ao_cons, ao_guard_f, sk_at, pk_at, if_t, as_pick, as_store, as_assign, as_build, fr_false, fr_nil, fr_cons, List.contains_nil, beq_self_eq_true, Bool.and_self, hk_some, hopG, rd, aopsD, heapF, constT, evT, lk, putT, GV, gdst, loadF, cellsF, ovw, fillF, buildF, partsF, okCell, resF, resL, constA, cellA, TK.isAgg, Value.oneCell', List.length_cons, List.length_nil, List.getElem?_cons_zero, List.getElem?_cons_succ, List.drop_zero, List.take_succ_cons, List.take_nil, List.set_cons_zero, List.set_cons_succ, List.all_cons, List.all_nil, Option.map_some, Option.bind_some, Nat.reduceAdd, Nat.reduceSub, Nat.reduceEqDiff, Nat.reduceLeDiff, true_and, and_true, and_self, eq_self, Bool.false_eq_true, Bool.not_false, ↓reduceIte, Nat.zero_add, Nat.le_refl, TT25]
                        try rfl
                      · simp only [ac_ret, ac_seq, ac_cond, ac_region, at_normal, at_ret, ae_ret, ao_nil, ao_cons, ao_guard_f, st_at, pk_at, if_t, if_f, as_pick, as_store, as_move, as_assign, as_unOp, as_build, fr_false, fr_nil, fr_cons, List.contains_nil, beq_self_eq_true, Bool.and_self, hk_some, hopG, rd, aopsD, heapF, constT, evT, lk, putT, GV, gdst, unF, loadF, cellsF, ovw, fillF, buildF, partsF, okCell, resF, resL, constA, cellA, TK.isAgg, Value.oneCell', List.length_cons, List.length_nil, List.getElem?_cons_zero, List.getElem?_cons_succ, List.drop_zero, List.take_succ_cons, List.take_nil, List.set_cons_zero, List.set_cons_succ, List.all_cons, List.all_nil, Option.map_some, Option.bind_some, Nat.reduceAdd, Nat.reduceSub, Nat.reduceEqDiff, Nat.reduceLeDiff, true_and, and_true, and_self, eq_self, Bool.false_eq_true, Bool.not_true, Bool.not_false, ↓reduceIte, Nat.zero_add, Nat.le_refl, TT25]
                        try rfl
                    · have ht1 : thereB b.length (n : Int) 2 = true := thereB_iff.2 (by have := thereB_iff.1 ht; omega)
                      rw [hth, ht, if_pos rfl, (hg ht).1, (hg ht).2] at hF
                      rw [hF]
                      simp only [ht1, u16_in (n := get16 b (n : Int)) (by omega) (by omega), u16_in (n := get16 b ((n : Int) + 2)) (by omega) (by omega), getD_byteN, ac_skip, ac_seq, ac_cond, ac_region, at_normal, ao_nil, ao_cons, ao_guard_f, st_at, pk_at, if_f, as_pick, as_call, as_alloc, as_store, as_move, as_assign, as_unOp, as_convert, as_load, as_indexAddr, as_extract, as_build, u32A, boA, fr_false, List.contains_nil, beq_self_eq_true, Bool.and_self, hk_some, hopG, rd, aopsD, heapF, frzW, frzR, constT, evT, lk, putT, GV, gdst, unF, convF, loadF, cellsF, ovw, fillF, buildF, partsF, argsF, okCell, constA, cellA, TK.isAgg, Value.oneCell', List.length_cons, List.length_nil, List.getElem?_cons_zero, List.getElem?_cons_succ, List.set_cons_zero, List.set_cons_succ, List.nil_append, List.cons_append, List.all_cons, List.all_nil, Option.map_some, Nat.reduceAdd, Nat.reduceSub, Nat.reduceEqDiff, Nat.reduceLeDiff, true_and, and_self, eq_self, Bool.false_eq_true, Bool.not_true, ↓reduceIte, Int.reduceToNat, Int.reduceLE, Nat.zero_add, Nat.le_refl, TT5, TT22, TT23, TT25, TT38]
                      refine ⟨by omega, ?_⟩
                      refine ACall.intro (refGet_a b 12 4 (by omega) (by omega)) ?_
                      simp only [ac_seq, ac_region, at_normal, ao_nil, ao_cons, as_call, as_store, as_move, as_fieldAddr, as_extract, u32A, boA, fr_false, List.contains_nil, beq_self_eq_true, Int.cast_ofNat_Int, Bool.and_self, hk_some, hopG, rd, aopsD, heapF, frzW, frzR, constT, evT, lk, putT, cellsF, ovw, argsF, okCell, constA, cellA, Value.oneCell', List.length_cons, List.length_nil, List.getElem?_cons_zero, List.getElem?_cons_succ, List.set_cons_zero, List.set_cons_succ, List.all_cons, List.all_nil, Option.map_some, Nat.reduceAdd, Nat.reduceSub, Nat.reduceEqDiff, Nat.reduceLeDiff, Nat.succ_ne_zero, ne_eq, not_false_eq_true, true_and, and_self, eq_self, Bool.false_eq_true, ↓reduceIte, Int.reduceToNat, Nat.zero_add, Nat.add_zero, TT22, TT25]
                      refine ACall.intro (refGet_a b 16 4 (by omega) (by omega)) ?_
                      simp only [ac_ret, ac_seq, ac_region, at_normal, ae_ret, ao_nil, ao_cons, as_store, as_move, as_assign, as_load, as_fieldAddr, as_extract, u32A, boA, fr_false, fr_nil, fr_cons, List.contains_nil, beq_self_eq_true, Int.cast_ofNat_Int, Bool.and_self, hk_some, hopG, rd, aopsD, heapF, constT, evT, lk, putT, loadF, cellsF, ovw, okCell, resF, resL, constA, cellA, TK.isAgg, Value.oneCell', List.length_cons, List.length_nil, List.getElem?_cons_zero, List.getElem?_cons_succ, List.drop_zero, List.take_succ_cons, List.take_nil, List.set_cons_zero, List.set_cons_succ, List.all_cons, List.all_nil, Option.map_some, Option.bind_some, Nat.reduceAdd, Nat.reduceSub, Nat.reduceEqDiff, Nat.reduceLeDiff, Nat.succ_ne_zero, ne_eq, not_false_eq_true, true_and, and_true, and_self, eq_self, Bool.false_eq_true, ↓reduceIte, Int.reduceToNat, Nat.zero_add, Nat.le_refl, TT22, TT25]
                      try rfl
            · rw [dT] at c5
              rw [if_pos (by omega)] at P
              rw [key 4 P (by omega)]
              simp only [ac_ret, ac_seq, ac_region, at_normal, at_ret, ae_ret, ao_nil, ao_cons, if_t, as_store, as_assign, as_build, fr_false, fr_nil, fr_cons, List.contains_nil, beq_self_eq_true, Bool.and_self, hk_some, hopG, rd, aopsD, heapF, constT, evT, lk, putT, loadF, cellsF, ovw, fillF, buildF, partsF, okCell, resF, resL, constA, cellA, TK.isAgg, Value.oneCell', List.length_cons, List.length_nil, List.getElem?_cons_zero, List.getElem?_cons_succ, List.drop_zero, List.take_succ_cons, List.take_nil, List.set_cons_zero, List.set_cons_succ, List.all_cons, List.all_nil, Option.map_some, Option.bind_some, Nat.reduceAdd, Nat.reduceSub, Nat.reduceEqDiff, Nat.reduceLeDiff, true_and, and_true, and_self, eq_self, Bool.false_eq_true, ↓reduceIte, Nat.zero_add, Nat.le_refl, TT25]
              try rfl
          · rw [dT] at c4
            rw [key 3 (step2 (by omega) (by omega)) (by omega)]
            simp only [ac_ret, ac_seq, ac_region, at_normal, at_ret, ae_ret, ao_nil, ao_cons, if_t, as_store, as_assign, as_build, fr_false, fr_nil, fr_cons, List.contains_nil, beq_self_eq_true, Bool.and_self, hk_some, hopG, rd, aopsD, heapF, constT, evT, lk, putT, loadF, cellsF, ovw, fillF, buildF, partsF, okCell, resF, resL, constA, cellA, TK.isAgg, Value.oneCell', List.length_cons, List.length_nil, List.getElem?_cons_zero, List.getElem?_cons_succ, List.drop_zero, List.take_succ_cons, List.take_nil, List.set_cons_zero, List.set_cons_succ, List.all_cons, List.all_nil, Option.map_some, Option.bind_some, Nat.reduceAdd, Nat.reduceSub, Nat.reduceEqDiff, Nat.reduceLeDiff, true_and, and_true, and_self, eq_self, Bool.false_eq_true, ↓reduceIte, Nat.zero_add, Nat.le_refl, TT25]
            try rfl
      · rw [dT] at c2
        rw [key 4 (step1 (by omega)) (by omega)]
        simp only [ac_ret, ac_seq, ac_region, at_normal, at_ret, ae_ret, ao_nil, ao_cons, if_t, as_store, as_assign, as_build, fr_false, fr_nil, fr_cons, List.contains_nil, beq_self_eq_true, Bool.and_self, hk_some, hopG, rd, aopsD, heapF, constT, evT, lk, putT, loadF, cellsF, ovw, fillF, buildF, partsF, okCell, resF, resL, constA, cellA, TK.isAgg, Value.oneCell', List.length_cons, List.length_nil, List.getElem?_cons_zero, List.getElem?_cons_succ, List.drop_zero, List.take_succ_cons, List.take_nil, List.set_cons_zero, List.set_cons_succ, List.all_cons, List.all_nil, Option.map_some, Option.bind_some, Nat.reduceAdd, Nat.reduceSub, Nat.reduceEqDiff, Nat.reduceLeDiff, true_and, and_true, and_self, eq_self, Bool.false_eq_true, ↓reduceIte, Nat.zero_add, Nat.le_refl, TT25]
        try rfl
    · simp only [decide_eq_false h, decide_eq_false h', decide_eq_true h'', ac_skip, ac_seq, ac_cond, ac_region, at_normal, ao_nil, ao_cons, ao_guard_t, st_at, pk_at, if_t, if_f, as_pick, as_move, as_binOp, as_load, as_fieldAddr, as_len, fr_false, List.contains_nil, beq_self_eq_true, hk_some, hopG, hopF, rd, aopsD, constT, evT, lk, putT, GV, gdst, lenF, binF, loadF, constA, cellA, TK.isAgg, List.getElem?_cons_zero, List.drop_zero, Option.map_some, Nat.reduceSub, Nat.reduceEqDiff, Nat.reduceLeDiff, Nat.succ_ne_zero, ne_eq, not_false_eq_true, true_and, eq_self, Bool.false_eq_true, Bool.not_true, Bool.not_false, ↓reduceIte, Nat.add_zero, TT3, TT5, TT38, TT134]
      cases c2 : decide ((b.length : Int) < 20)
      · rw [dF] at c2
        simp only [getD_byteN, e0, e4, ac_skip, ac_seq, ac_region, at_normal, ao_cons, ao_guard_f, if_f, as_move, as_binOp, as_load, as_indexAddr, fr_false, List.contains_nil, beq_self_eq_true, Int.reduceEq, hk_some, hopG, rd, aopsD, constT, evT, lk, putT, GV, gdst, binF, loadF, constA, cellA, TK.isAgg, Option.map_some, Nat.reduceSub, Nat.reduceEqDiff, Nat.reduceLeDiff, ne_eq, not_false_eq_true, true_and, and_self, eq_self, Bool.false_eq_true, ↓reduceIte, Int.toNat_zero, Int.reduceLE, TT5, TT38]
        refine ⟨by omega, ?_⟩
        cases c3 : decide (byteN b 0 / 16 = 4)
        · rw [dF] at c3
          rw [key 3 (step2 (by omega) (by omega)) (by omega)]
          simp only [ac_ret, ac_seq, ac_cond, ac_region, at_normal, at_ret, ae_ret, ao_nil, ao_cons, ao_guard_f, sk_at, pk_at, if_t, as_pick, as_store, as_assign, as_build, fr_false, fr_nil, fr_cons, List.contains_nil, beq_self_eq_true, Bool.and_self, hk_some, hopG, rd, aopsD, heapF, constT, evT, lk, putT, GV, gdst, loadF, cellsF, ovw, fillF, buildF, partsF, okCell, resF, resL, constA, cellA, TK.isAgg, Value.oneCell', List.length_cons, List.length_nil, List.getElem?_cons_zero, List.getElem?_cons_succ, List.drop_zero, List.take_succ_cons, List.take_nil, List.set_cons_zero, List.set_cons_succ, List.all_cons, List.all_nil, Option.map_some, Option.bind_some, Nat.reduceAdd, Nat.reduceSub, Nat.reduceEqDiff, Nat.reduceLeDiff, true_and, and_true, and_self, eq_self, Bool.false_eq_true, Bool.not_false, ↓reduceIte, Nat.zero_add, Nat.le_refl, TT25]
          try rfl
        · rw [dT] at c3
          simp only [getD_byteN, e1, ac_cond, at_normal, ao_nil, ao_cons, ao_guard_f, st_at, pk_at, if_f, as_pick, as_move, as_binOp, as_load, as_indexAddr, beq_self_eq_true, Int.reduceEq, hk_some, hopG, rd, constT, evT, lk, putT, GV, gdst, binF, loadF, constA, cellA, TK.isAgg, Option.map_some, Nat.reduceSub, Nat.reduceEqDiff, ne_eq, not_false_eq_true, true_and, and_self, eq_self, Bool.false_eq_true, Bool.not_true, ↓reduceIte, Int.toNat_zero, Int.reduceLE, TT5, TT38]
          refine ⟨by omega, ?_⟩
          cases c4 : decide (byteN b 0 % 16 < 5)
          · rw [dF] at c4
            simp only [getD_byteN, e1, e2, e3, ac_skip, ac_seq, ac_cond, ac_region, at_normal, ao_nil, ao_cons, if_f, as_move, as_assign, as_binOp, as_convert, as_load, as_indexAddr, as_len, fr_false, List.contains_nil, beq_self_eq_true, Int.reduceEq, hk_some, hopG, hopF, rd, aopsD, constT, evT, lk, putT, lenF, binF, convF, loadF, constA, cellA, TK.isAgg, Option.map_some, Nat.reduceSub, Nat.reduceEqDiff, Nat.reduceLeDiff, ne_eq, not_false_eq_true, true_and, and_self, eq_self, Bool.false_eq_true, ↓reduceIte, Int.toNat_zero, Int.reduceLE, TT3, TT5, TT38]
            refine ⟨by omega, ?_⟩
            have P := step3 (by omega) (by omega) (by omega)
            obtain ⟨n, hn⟩ : ∃ n : Nat, byteN b 0 % 16 * 4 = (n : Int) := ⟨(byteN b 0 % 16 * 4).toNat, by omega⟩
            have hn2 : 4 * (byteN b 0 - 64) = (n : Int) := by omega
            rw [hn2] at P
            rw [hn]
            cases c5 : decide ((b.length : Int) < (n : Int))
            · rw [dF] at c5
              rw [if_neg (by omega), Int.toNat_natCast] at P
              have hz : ((n : Int) - 0).toNat = n := by omega
              simp only [hz, ac_skip, ac_seq, ac_region, at_normal, ao_cons, if_f, as_call, as_move, as_slice, fr_false, List.contains_nil, beq_self_eq_true, hk_some, hopG, rd, aopsD, frzW, frzR, constT, evT, lk, putT, bndF, cutF, argsF, constA, cellA, List.drop_zero, Option.map_some, Option.map_none, Option.bind_some, Nat.reduceSub, Nat.reduceEqDiff, Nat.reduceLeDiff, true_and, eq_self, Bool.false_eq_true, ↓reduceIte, Int.toNat_zero, Int.reduceLE, TT38]
              refine ⟨⟨by omega, by omega⟩, ?_⟩
              refine ACall.intro (refOnes_a (b.take n) (by simp [small]; omega)) ?_
              simp only [ac_cond, at_normal, ao_nil, ao_cons, as_binOp, i64, beq_self_eq_true, hk_some, hopG, rd, constT, evT, lk, putT, binF, constA, cellA, Option.map_some, Nat.reduceSub, true_and, eq_self, ↓reduceIte, TT3]
              cases hq : decide (onesF (b.take n) = 65535)
              · rw [dF] at hq
                rw [if_pos hq] at P
                rw [key 5 P (by omega)]
                simp only [ac_ret, ac_seq, ac_region, at_normal, at_ret, ae_ret, ao_nil, ao_cons, if_t, as_store, as_assign, as_build, fr_false, fr_nil, fr_cons, List.contains_nil, beq_self_eq_true, Bool.and_self, hk_some, hopG, rd, aopsD, heapF, constT, evT, lk, putT, loadF, cellsF, ovw, fillF, buildF, partsF, okCell, resF, resL, constA, cellA, TK.isAgg, Value.oneCell', List.length_cons, List.length_nil, List.getElem?_cons_zero, List.getElem?_cons_succ, List.drop_zero, List.take_succ_cons, List.take_nil, List.set_cons_zero, List.set_cons_succ, List.all_cons, List.all_nil, Option.map_some, Option.bind_some, Nat.reduceAdd, Nat.reduceSub, Nat.reduceEqDiff, Nat.reduceLeDiff, true_and, and_true, and_self, eq_self, Bool.false_eq_true, Bool.not_false, ↓reduceIte, Nat.zero_add, Nat.le_refl, TT25]
                try rfl
              · rw [dT] at hq
                rw [if_neg (by simpa using hq)] at P
                have w6 : IntKind.i64.wrap (IntKind.i64.wrap (IntKind.i64.wrap (byteN b 6) * 256) + IntKind.i64.wrap (byteN b 7)) = get16 b 6 := i64_bytes b 6 (by omega)
                have hO2 : quO t b = flowP (quP b).1 := by rw [hO, P, if_pos rfl]
                have hpart : (decide (get16 b 6 / 8192 % 2 = 1) || decide (0 < get16 b 6 % 8192)) = !decide (get16 b 6 % 16384 = 0) := by
                  rw [Bool.eq_iff_iff]
                  simp only [Bool.or_eq_true, decide_eq_true_eq, Bool.not_eq_true', decide_eq_false_iff_not]
                  omega
                simp only [getD_byteN, w6, tmodN (a := get16 b 6) (b := 16384) n6.1, ac_skip, ac_seq, ac_cond, ac_region, at_normal, ao_nil, ao_cons, if_f, as_move, as_assign, as_binOp, as_convert, as_load, as_indexAddr, fr_false, List.contains_nil, Nat.reduceBEq, beq_self_eq_true, Int.reduceEq, hk_some, hopG, rd, aopsD, tlN, constT, evT, lk, putT, binF, convF, loadF, constA, cellA, TK.isAgg, List.length_cons, List.length_nil, Option.map_some, Nat.reduceAdd, Nat.reduceSub, Nat.reduceEqDiff, Nat.reduceLeDiff, ne_eq, not_false_eq_true, true_and, and_self, eq_self, Bool.false_eq_true, Bool.not_true, ↓reduceIte, Int.reduceToNat, Int.reduceLE, Nat.zero_add, TT3, TT5, TT38]
                refine ⟨by omega, by omega, ?_⟩
                cases c6 : decide (get16 b 6 % 16384 = 0)
                · rw [show quO t b = (flow0, 11) by rw [hO2, P, flowP]; simp only [hpart, c6, Bool.not_false, if_true]]
                  simp only [ac_ret, ac_seq, ac_region, at_normal, at_ret, ae_ret, ao_nil, ao_cons, if_t, as_store, as_assign, as_build, fr_false, fr_nil, fr_cons, List.contains_nil, beq_self_eq_true, Bool.and_self, hk_some, hopG, rd, aopsD, heapF, constT, evT, lk, putT, loadF, cellsF, ovw, fillF, buildF, partsF, okCell, resF, resL, constA, cellA, TK.isAgg, Value.oneCell', List.length_cons, List.length_nil, List.getElem?_cons_zero, List.getElem?_cons_succ, List.drop_zero, List.take_succ_cons, List.take_nil, List.set_cons_zero, List.set_cons_succ, List.all_cons, List.all_nil, Option.map_some, Option.bind_some, Nat.reduceAdd, Nat.reduceSub, Nat.reduceEqDiff, Nat.reduceLeDiff, true_and, and_true, and_self, eq_self, Bool.false_eq_true, Bool.not_false, ↓reduceIte, Nat.zero_add, Nat.le_refl, TT25]
                  try rfl
                · simp only [getD_byteN, ac_skip, ac_seq, ac_region, at_normal, ao_cons, ao_guard_t, if_f, as_move, as_binOp, as_load, as_indexAddr, fr_false, List.contains_nil, beq_self_eq_true, hk_some, hopG, rd, aopsD, constT, evT, lk, putT, GV, gdst, binF, loadF, constA, cellA, TK.isAgg, Option.map_some, Nat.reduceSub, Nat.reduceEqDiff, Nat.reduceLeDiff, true_and, eq_self, Bool.false_eq_true, Bool.not_true, ↓reduceIte, Int.reduceToNat, Int.reduceLE, TT5, TT38]
                  refine ⟨by omega, ?_⟩
                  have hF : quO t b = if ¬ byteN b 9 = 6 ∧ ¬ byteN b 9 = 17 then (flow0, 3) else if thereB (quP b).1.data.length 2 2 = true then (⟨get32 b 12, get32 b 16, get16 (quP b).1.data 0, get16 (quP b).1.data 2, byteN b 9⟩, 0) else (flow0, 4) := by
                    rw [hO2, P, flowP]
                    simp only [hpart, c6, Bool.not_true, Bool.false_eq_true, if_false]
                  have hdat : (quP b).1.data = (b.drop n).take (if 4 < b.length - n then 4 else b.length - n) := by
                    rw [P]
                    simp only
                    have := cutB_nat b n (if 4 < b.length - n then 4 else b.length - n) (by split <;> omega)
                    rw [← this]
                    congr 1
                    split <;> split <;> omega
                  have hdl : (quP b).1.data.length = (if 4 < b.length - n then 4 else b.length - n) := by rw [hdat]; simp; split <;> omega
                  have hth : thereB (quP b).1.data.length 2 2 = thereB b.length ((n : Int) + 2) 2 := by
                    rw [hdl, Bool.eq_iff_iff, thereB_iff, thereB_iff]
                    split <;> omega
                  have hg : thereB b.length ((n : Int) + 2) 2 = true → get16 (quP b).1.data 0 = get16 b n ∧ get16 (quP b).1.data 2 = get16 b ((n : Int) + 2) := fun hth' => by
                    have := thereB_iff.1 hth'
                    have hk : (if 4 < b.length - n then 4 else b.length - n) = 4 := by split <;> omega
                    rw [hdat, hk]
                    have h1 := get16_sub b n 4 0 (by omega) (by omega)
                    have h2 := get16_sub b n 4 2 (by omega) (by omega)
                    exact ⟨h1, h2⟩
                  have gN := get_two b n (by omega)
                  have gN2 := get_two b ((n : Int) + 2) (by omega)
                  have wN := get16_bd b n
                  have wN2 := get16_bd b ((n : Int) + 2)
                  have fin : ∀ (X : Prop), ((¬ byteN b 9 = 6 ∧ ¬ byteN b 9 = 17) → X) → ((¬ byteN b 9 = 6 ∧ byteN b 9 = 17) → X) → (byteN b 9 = 6 → X) → X := fun X a1 a2 a3 => by
                    by_cases h6 : byteN b 9 = 6
                    · exact a3 h6
                    · by_cases h17 : byteN b 9 = 17
                      · exact a2 ⟨h6, h17⟩
                      · exact a1 ⟨h6, h17⟩
                  refine fin _ (fun hp => ?_) (fun hp => ?_) (fun hp => ?_)
                  · rw [if_pos hp] at hF
                    rw [hF]
                    simp only [decide_eq_false hp.1, decide_eq_false hp.2, getD_byteN, ac_ret, ac_seq, ac_cond, ac_region, at_normal, at_ret, ae_ret, ao_nil, ao_cons, ao_guard_t, st_at, pk_at, if_t, as_pick, as_store, as_move, as_assign, as_binOp, as_load, as_indexAddr, as_build, fr_false, fr_nil, fr_cons, List.contains_nil, beq_self_eq_true, Bool.and_self, hk_some, hopG, rd, aopsD, heapF, constT, evT, lk, putT, GV, gdst, binF, loadF, cellsF, ovw, fillF, buildF, partsF, okCell, resF, resL, constA, cellA, TK.isAgg, Value.oneCell', List.length_cons, List.length_nil, List.getElem?_cons_zero, List.getElem?_cons_succ, List.drop_zero, List.take_succ_cons, List.take_nil, List.set_cons_zero, List.set_cons_succ, List.all_cons, List.all_nil, Option.map_some, Option.bind_some, Nat.reduceAdd, Nat.reduceSub, Nat.reduceEqDiff, Nat.reduceLeDiff, true_and, and_true, and_self, eq_self, Bool.false_eq_true, Bool.not_false, ↓reduceIte, Int.reduceToNat, Int.reduceLE, Nat.zero_add, Nat.le_refl, TT5, TT25, TT38]
                    exact ⟨by omega, rfl⟩
                  · rw [if_neg (fun hh => hh.2 hp.2)] at hF
                    simp only [decide_eq_false hp.1, decide_eq_true hp.2, getD_byteN, ac_skip, ac_seq, ac_cond, ac_region, at_normal, ao_nil, ao_cons, ao_guard_t, st_at, pk_at, if_t, if_f, as_pick, as_call, as_move, as_binOp, as_load, as_indexAddr, fr_false, List.contains_nil, beq_self_eq_true, hk_some, hopG, rd, aopsD, frzW, frzR, constT, evT, lk, putT, GV, gdst, binF, loadF, argsF, constA, cellA, TK.isAgg, Option.map_some, Nat.reduceSub, Nat.reduceEqDiff, Nat.reduceLeDiff, true_and, eq_self, Bool.false_eq_true, Bool.not_true, Bool.not_false, ↓reduceIte, Int.reduceToNat, Int.reduceLE, TT5, TT38]
                    refine ⟨by omega, ?_⟩
                    refine ACall.intro (refGet_a b n 2 (by omega) (by omega)) ?_
                    rw [show ((2 : Nat) : Int) = 2 from rfl, gN]
                    simp only [i64_in (n := (n : Int) + 2) (by omega) (by omega), ac_seq, ac_region, at_normal, ao_nil, ao_cons, as_call, as_move, as_assign, as_binOp, as_extract, u32A, boA, fr_false, List.contains_nil, beq_self_eq_true, hk_some, hopG, rd, aopsD, frzW, frzR, constT, evT, lk, putT, binF, argsF, constA, cellA, List.getElem?_cons_zero, List.getElem?_cons_succ, Option.map_some, Nat.reduceSub, Nat.reduceEqDiff, Nat.reduceLeDiff, true_and, eq_self, Bool.false_eq_true, ↓reduceIte, TT3]
                    refine ACall.intro (refGet_a b _ 2 (by omega) (by omega)) ?_
                    rw [show ((2 : Nat) : Int) = 2 from rfl, gN2]
                    cases ht : thereB b.length ((n : Int) + 2) 2
                    · rw [hth, ht, if_neg (by simp)] at hF
                      rw [hF]
                      simp only [ac_seq, ac_region, at_normal, ao_nil, ao_cons, ao_guard_f, as_move, as_assign, as_unOp, as_extract, u32A, boA, fr_false, List.contains_nil, beq_self_eq_true, hk_some, hopG, rd, aopsD, evT, lk, putT, GV, gdst, unF, List.getElem?_cons_zero, List.getElem?_cons_succ, Option.map_some, Nat.reduceSub, Nat.reduceEqDiff, Nat.reduceLeDiff, true_and, eq_self, Bool.false_eq_true, ↓reduceIte]
                      cases ht1 : thereB b.length (n : Int) 2
                      · simp only [ac_ret, ac_seq, ac_cond, ac_region, at_normal, at_ret, ae_ret, ao_nil, ao_cons, ao_guard_f, sk_at, pk_at, if_t, as_pick, as_store, as_assign, as_build, fr_false, fr_nil, fr_cons, List.contains_nil, beq_self_eq_true, Bool.and_self, hk_some, hopG, rd, aopsD, heapF, constT, evT, lk, putT, GV, gdst, loadF, cellsF, ovw, fillF, buildF, partsF, okCell, resF, resL, constA, cellA, TK.isAgg, Value.oneCell', List.length_cons, List.length_nil, List.getElem?_cons_zero, List.getElem?_cons_succ, List.drop_zero, List.take_succ_cons, List.take_nil, List.set_cons_zero, List.set_cons_succ, List.all_cons, List.all_nil, Option.map_some, Option.bind_some, Nat.reduceAdd, Nat.reduceSub, Nat.reduceEqDiff, Nat.reduceLeDiff, true_and, and_true, and_self, eq_self, Bool.false_eq_true, Bool.not_false, ↓reduceIte, Nat.zero_add, Nat.le_refl, TT25]
                        try rfl
                      · simp only [ac_ret, ac_seq, ac_cond, ac_region, at_normal, at_ret, ae_ret, ao_nil, ao_cons, ao_guard_f, st_at, pk_at, if_t, if_f, as_pick, as_store, as_move, as_assign, as_unOp, as_build, fr_false, fr_nil, fr_cons, List.contains_nil, beq_self_eq_true, Bool.and_self, hk_some, hopG, rd, aopsD, heapF, constT, evT, lk, putT, GV, gdst, unF, loadF, cellsF, ovw, fillF, buildF, partsF, okCell, resF, resL, constA, cellA, TK.isAgg, Value.oneCell', List.length_cons, List.length_nil, List.getElem?_cons_zero, List.getElem?_cons_succ, List.drop_zero, List.take_succ_cons, List.take_nil, List.set_cons_zero, List.set_cons_succ, List.all_cons, List.all_nil, Option.map_some, Option.bind_some, Nat.reduceAdd, Nat.reduceSub, Nat.reduceEqDiff, Nat.reduceLeDiff, true_and, and_true, and_self, eq_self, Bool.false_eq_true, Bool.not_true, Bool.not_false, ↓reduceIte, Nat.zero_add, Nat.le_refl, TT25]
                        try rfl
                    · have ht1 : thereB b.length (n : Int) 2 = true := thereB_iff.2 (by have := thereB_iff.1 ht; omega)
                      rw [hth, ht, if_pos rfl, (hg ht).1, (hg ht).2] at hF
                      rw [hF]
                      simp only [ht1, u16_in (n := get16 b (n : Int)) (by omega) (by omega), u16_in (n := get16 b ((n : Int) + 2)) (by omega) (by omega), getD_byteN, ac_skip, ac_seq, ac_cond, ac_region, at_normal, ao_nil, ao_cons, ao_guard_f, st_at, pk_at, if_f, as_pick, as_call, as_alloc, as_store, as_move, as_assign, as_unOp, as_convert, as_load, as_indexAddr, as_extract, as_build, u32A, boA, fr_false, List.contains_nil, beq_self_eq_true, Bool.and_self, hk_some, hopG, rd, aopsD, heapF, frzW, frzR, constT, evT, lk, putT, GV, gdst, unF, convF, loadF, cellsF, ovw, fillF, buildF, partsF, argsF, okCell, constA, cellA, TK.isAgg, Value.oneCell', List.length_cons, List.length_nil, List.getElem?_cons_zero, List.getElem?_cons_succ, List.set_cons_zero, List.set_cons_succ, List.nil_append, List.cons_append, List.all_cons, List.all_nil, Option.map_some, Nat.reduceAdd, Nat.reduceSub, Nat.reduceEqDiff, Nat.reduceLeDiff, true_and, and_self, eq_self, Bool.false_eq_true, Bool.not_true, ↓reduceIte, Int.reduceToNat, Int.reduceLE, Nat.zero_add, Nat.le_refl, TT5, TT22, TT23, TT25, TT38]
                      refine ⟨by omega, ?_⟩
                      refine ACall.intro (refGet_a b 12 4 (by omega) (by omega)) ?_
                      simp only [ac_seq, ac_region, at_normal, ao_nil, ao_cons, as_call, as_store, as_move, as_fieldAddr, as_extract, u32A, boA, fr_false, List.contains_nil, beq_self_eq_true, Int.cast_ofNat_Int, Bool.and_self, hk_some, hopG, rd, aopsD, heapF, frzW, frzR, constT, evT, lk, putT, cellsF, ovw, argsF, okCell, constA, cellA, Value.oneCell', List.length_cons, List.length_nil, List.getElem?_cons_zero, List.getElem?_cons_succ, List.set_cons_zero, List.set_cons_succ, List.all_cons, List.all_nil, Option.map_some, Nat.reduceAdd, Nat.reduceSub, Nat.reduceEqDiff, Nat.reduceLeDiff, Nat.succ_ne_zero, ne_eq, not_false_eq_true, true_and, and_self, eq_self, Bool.false_eq_true, ↓reduceIte, Int.reduceToNat, Nat.zero_add, Nat.add_zero, TT22, TT25]
                      refine ACall.intro (refGet_a b 16 4 (by omega) (by omega)) ?_
                      simp only [ac_ret, ac_seq, ac_region, at_normal, ae_ret, ao_nil, ao_cons, as_store, as_move, as_assign, as_load, as_fieldAddr, as_extract, u32A, boA, fr_false, fr_nil, fr_cons, List.contains_nil, beq_self_eq_true, Int.cast_ofNat_Int, Bool.and_self, hk_some, hopG, rd, aopsD, heapF, constT, evT, lk, putT, loadF, cellsF, ovw, okCell, resF, resL, constA, cellA, TK.isAgg, Value.oneCell', List.length_cons, List.length_nil, List.getElem?_cons_zero, List.getElem?_cons_succ, List.drop_zero, List.take_succ_cons, List.take_nil, List.set_cons_zero, List.set_cons_succ, List.all_cons, List.all_nil, Option.map_some, Option.bind_some, Nat.reduceAdd, Nat.reduceSub, Nat.reduceEqDiff, Nat.reduceLeDiff, Nat.succ_ne_zero, ne_eq, not_false_eq_true, true_and, and_true, and_self, eq_self, Bool.false_eq_true, ↓reduceIte, Int.reduceToNat, Nat.zero_add, Nat.le_refl, TT22, TT25]
                      try rfl
                  · rw [if_neg (fun hh => hh.1 hp)] at hF
                    simp only [decide_eq_true hp, ac_skip, ac_seq, ac_cond, ac_region, at_normal, ao_nil, ao_cons, ao_guard_t, sk_at, pk_at, if_f, as_pick, as_call, as_move, fr_false, List.contains_nil, beq_self_eq_true, rd, aopsD, frzW, frzR, constT, evT, lk, putT, GV, gdst, argsF, constA, cellA, Option.map_some, Nat.reduceSub, Nat.reduceEqDiff, Nat.reduceLeDiff, eq_self, Bool.false_eq_true, Bool.not_true, ↓reduceIte]
                    refine ACall.intro (refGet_a b n 2 (by omega) (by omega)) ?_
                    rw [show ((2 : Nat) : Int) = 2 from rfl, gN]
                    simp only [i64_in (n := (n : Int) + 2) (by omega) (by omega), ac_seq, ac_region, at_normal, ao_nil, ao_cons, as_call, as_move, as_assign, as_binOp, as_extract, u32A, boA, fr_false, List.contains_nil, beq_self_eq_true, hk_some, hopG, rd, aopsD, frzW, frzR, constT, evT, lk, putT, binF, argsF, constA, cellA, List.getElem?_cons_zero, List.getElem?_cons_succ, Option.map_some, Nat.reduceSub, Nat.reduceEqDiff, Nat.reduceLeDiff, true_and, eq_self, Bool.false_eq_true, ↓reduceIte, TT3]
                    refine ACall.intro (refGet_a b _ 2 (by omega) (by omega)) ?_
                    rw [show ((2 : Nat) : Int) = 2 from rfl, gN2]
                    cases ht : thereB b.length ((n : Int) + 2) 2
                    · rw [hth, ht, if_neg (by simp)] at hF
                      rw [hF]
                      simp only [ac_seq, ac_region, at_normal, ao_nil, ao_cons, ao_guard_f, as_move, as_assign, as_unOp, as_extract, u32A, boA, fr_false, List.contains_nil, beq_self_eq_true, hk_some, hopG, rd, aopsD, evT, lk, putT, GV, gdst, unF, List.getElem?_cons_zero, List.getElem?_cons_succ, Option.map_some, Nat.reduceSub, Nat.reduceEqDiff, Nat.reduceLeDiff, true_and, eq_self, Bool.false_eq_true, ↓reduceIte]
                      cases ht1 : thereB b.length (n : Int) 2
                      · simp only [ac_ret, ac_seq, ac_cond, ac_region, at_normal, at_ret, ae_ret, ao_nil, ao_cons, ao_guard_f, sk_at, pk_at, if_t, as_pick, as_store, as_assign, as_build, fr_false, fr_nil, fr_cons, List.contains_nil, beq_self_eq_true, Bool.and_self, hk_some, hopG, rd, aopsD, heapF, constT, evT, lk, putT, GV, gdst, loadF, cellsF, ovw, fillF, buildF, partsF, okCell, resF, resL, constA, cellA, TK.isAgg, Value.oneCell', List.length_cons, List.length_nil, List.getElem?_cons_zero, List.getElem?_cons_succ, List.drop_zero, List.take_succ_cons, List.take_nil, List.set_cons_zero, List.set_cons_succ, List.all_cons, List.all_nil, Option.map_some, Option.bind_some, Nat.reduceAdd, Nat.reduceSub, Nat.reduceEqDiff, Nat.reduceLeDiff, true_and, and_true, and_self, eq_self, Bool.false_eq_true, Bool.not_false, ↓reduceIte, Nat.zero_add, Nat.le_refl, TT25]
                        try rfl
                      · simp only [ac_ret, ac_seq, ac_cond, ac_region, at_normal, at_ret, ae_ret, ao_nil, ao_cons, ao_guard_f, st_at, pk_at, if_t, if_f, as_pick, as_store, as_move, as_assign, as_unOp, as_build, fr_false, fr_nil, fr_cons, List.contains_nil, beq_self_eq_true, Bool.and_self, hk_some, hopG, rd, aopsD, heapF, constT, evT, lk, putT, GV, gdst, unF, loadF, cellsF, ovw, fillF, buildF, partsF, okCell, resF, resL, constA, cellA, TK.isAgg, Value.oneCell', List.length_cons, List.length_nil, List.getElem?_cons_zero, List.getElem?_cons_succ, List.drop_zero, List.take_succ_cons, List.take_nil, List.set_cons_zero, List.set_cons_succ, List.all_cons, List.all_nil, Option.map_some, Option.bind_some, Nat.reduceAdd, Nat.reduceSub, Nat.reduceEqDiff, Nat.reduceLeDiff, true_and, and_true, and_self, eq_self, Bool.false_eq_true, Bool.not_true, Bool.not_false, ↓reduceIte, Nat.zero_add, Nat.le_refl, TT25]
                        try rfl
                    · have ht1 : thereB b.length (n : Int) 2 = true := thereB_iff.2 (by have := thereB_iff.1 ht; omega)
                      rw [hth, ht, if_pos rfl, (hg ht).1, (hg ht).2] at hF
                      rw [hF]
                      simp only [ht1, u16_in (n := get16 b (n : Int)) (by omega) (by omega), u16_in (n := get16 b ((n : Int) + 2)) (by omega) (by omega), getD_byteN, ac_skip, ac_seq, ac_cond, ac_region, at_normal, ao_nil, ao_cons, ao_guard_f, st_at, pk_at, if_f, as_pick, as_call, as_alloc, as_store, as_move, as_assign, as_unOp, as_convert, as_load, as_indexAddr, as_extract, as_build, u32A, boA, fr_false, List.contains_nil, beq_self_eq_true, Bool.and_self, hk_some, hopG, rd, aopsD, heapF, frzW, frzR, constT, evT, lk, putT, GV, gdst, unF, convF, loadF, cellsF, ovw, fillF, buildF, partsF, argsF, okCell, constA, cellA, TK.isAgg, Value.oneCell', List.length_cons, List.length_nil, List.getElem?_cons_zero, List.getElem?_cons_succ, List.set_cons_zero, List.set_cons_succ, List.nil_append, List.cons_append, List.all_cons, List.all_nil, Option.map_some, Nat.reduceAdd, Nat.reduceSub, Nat.reduceEqDiff, Nat.reduceLeDiff, true_and, and_self, eq_self, Bool.false_eq_true, Bool.not_true, ↓reduceIte, Int.reduceToNat, Int.reduceLE, Nat.zero_add, Nat.le_refl, TT5, TT22, TT23, TT25, TT38]
                      refine ⟨by omega, ?_⟩
                      refine ACall.intro (refGet_a b 12 4 (by omega) (by omega)) ?_
                      simp only [ac_seq, ac_region, at_normal, ao_nil, ao_cons, as_call, as_store, as_move, as_fieldAddr, as_extract, u32A, boA, fr_false, List.contains_nil, beq_self_eq_true, Int.cast_ofNat_Int, Bool.and_self, hk_some, hopG, rd, aopsD, heapF, frzW, frzR, constT, evT, lk, putT, cellsF, ovw, argsF, okCell, constA, cellA, Value.oneCell', List.length_cons, List.length_nil, List.getElem?_cons_zero, List.getElem?_cons_succ, List.set_cons_zero, List.set_cons_succ, List.all_cons, List.all_nil, Option.map_some, Nat.reduceAdd, Nat.reduceSub, Nat.reduceEqDiff, Nat.reduceLeDiff, Nat.succ_ne_zero, ne_eq, not_false_eq_true, true_and, and_self, eq_self, Bool.false_eq_true, ↓reduceIte, Int.reduceToNat, Nat.zero_add, Nat.add_zero, TT22, TT25]
                      refine ACall.intro (refGet_a b 16 4 (by omega) (by omega)) ?_
                      simp only [ac_ret, ac_seq, ac_region, at_normal, ae_ret, ao_nil, ao_cons, as_store, as_move, as_assign, as_load, as_fieldAddr, as_extract, u32A, boA, fr_false, fr_nil, fr_cons, List.contains_nil, beq_self_eq_true, Int.cast_ofNat_Int, Bool.and_self, hk_some, hopG, rd, aopsD, heapF, constT, evT, lk, putT, loadF, cellsF, ovw, okCell, resF, resL, constA, cellA, TK.isAgg, Value.oneCell', List.length_cons, List.length_nil, List.getElem?_cons_zero, List.getElem?_cons_succ, List.drop_zero, List.take_succ_cons, List.take_nil, List.set_cons_zero, List.set_cons_succ, List.all_cons, List.all_nil, Option.map_some, Option.bind_some, Nat.reduceAdd, Nat.reduceSub, Nat.reduceEqDiff, Nat.reduceLeDiff, Nat.succ_ne_zero, ne_eq, not_false_eq_true, true_and, and_true, and_self, eq_self, Bool.false_eq_true, ↓reduceIte, Int.reduceToNat, Nat.zero_add, Nat.le_refl, TT22, TT25]
                      try rfl
            · rw [dT] at c5
              rw [if_pos (by omega)] at P
              rw [key 4 P (by omega)]
              simp only [ac_ret, ac_seq, ac_region, at_normal, at_ret, ae_ret, ao_nil, ao_cons, if_t, as_store, as_assign, as_build, fr_false, fr_nil, fr_cons, List.contains_nil, beq_self_eq_true, Bool.and_self, hk_some, hopG, rd, aopsD, heapF, constT, evT, lk, putT, loadF, cellsF, ovw, fillF, buildF, partsF, okCell, resF, resL, constA, cellA, TK.isAgg, Value.oneCell', List.length_cons, List.length_nil, List.getElem?_cons_zero, List.getElem?_cons_succ, List.drop_zero, List.take_succ_cons, List.take_nil, List.set_cons_zero, List.set_cons_succ, List.all_cons, List.all_nil, Option.map_some, Option.bind_some, Nat.reduceAdd, Nat.reduceSub, Nat.reduceEqDiff, Nat.reduceLeDiff, true_and, and_true, and_self, eq_self, Bool.false_eq_true, ↓reduceIte, Nat.zero_add, Nat.le_refl, TT25]
              try rfl
          · rw [dT] at c4
            rw [key 3 (step2 (by omega) (by omega)) (by omega)]
            simp only [ac_ret, ac_seq, ac_region, at_normal, at_ret, ae_ret, ao_nil, ao_cons, if_t, as_store, as_assign, as_build, fr_false, fr_nil, fr_cons, List.contains_nil, beq_self_eq_true, Bool.and_self, hk_some, hopG, rd, aopsD, heapF, constT, evT, lk, putT, loadF, cellsF, ovw, fillF, buildF, partsF, okCell, resF, resL, constA, cellA, TK.isAgg, Value.oneCell', List.length_cons, List.length_nil, List.getElem?_cons_zero, List.getElem?_cons_succ, List.drop_zero, List.take_succ_cons, List.take_nil, List.set_cons_zero, List.set_cons_succ, List.all_cons, List.all_nil, Option.map_some, Option.bind_some, Nat.reduceAdd, Nat.reduceSub, Nat.reduceEqDiff, Nat.reduceLeDiff, true_and, and_true, and_self, eq_self, Bool.false_eq_true, ↓reduceIte, Nat.zero_add, Nat.le_refl, TT25]
            try rfl
      · rw [dT] at c2
        rw [key 4 (step1 (by omega)) (by omega)]
        simp only [ac_ret, ac_seq, ac_region, at_normal, at_ret, ae_ret, ao_nil, ao_cons, if_t, as_store, as_assign, as_build, fr_false, fr_nil, fr_cons, List.contains_nil, beq_self_eq_true, Bool.and_self, hk_some, hopG, rd, aopsD, heapF, constT, evT, lk, putT, loadF, cellsF, ovw, fillF, buildF, partsF, okCell, resF, resL, constA, cellA, TK.isAgg, Value.oneCell', List.length_cons, List.length_nil, List.getElem?_cons_zero, List.getElem?_cons_succ, List.drop_zero, List.take_succ_cons, List.take_nil, List.set_cons_zero, List.set_cons_succ, List.all_cons, List.all_nil, Option.map_some, Option.bind_some, Nat.reduceAdd, Nat.reduceSub, Nat.reduceEqDiff, Nat.reduceLeDiff, true_and, and_true, and_self, eq_self, Bool.false_eq_true, ↓reduceIte, Nat.zero_add, Nat.le_refl, TT25]
        try rfl
end Go.Proofs.Ytafajmnlknmfiaa
