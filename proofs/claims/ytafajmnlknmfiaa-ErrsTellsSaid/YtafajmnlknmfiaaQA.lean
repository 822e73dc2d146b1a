/- Packages flow and quote, and the reference of quote. -/
import Derived.Test.YtafajmnlknmfiaaVD
import Derived.Test.YtafajmnlknmfiaaVE
import Derived.Test.YtafajmnlknmfiaaVF
namespace Go.Proofs.Ytafajmnlknmfiaa
set_option linter.unusedSimpArgs false
set_option linter.unusedVariables false
open Go.RowKit

def flow0 : FlowN := ⟨0, 0, 0, 0, 0⟩
def flowP (p : PktN) : FlowN × Int :=
  if (p.mf || decide (0 < p.off)) = true then (flow0, 11) else if ¬ p.proto = 6 ∧ ¬ p.proto = 17 then (flow0, 3) else if thereB p.data.length 2 2 = true then (⟨p.src, p.dst, get16 p.data 0, get16 p.data 2, p.proto⟩, 0) else (flow0, 4)
set_option maxRecDepth 100000 in
theorem flowOf_a (p : PktN) : ASpec Try.prog 97 [pktA p] (.tup [flowA (flowP p).1, i64 (flowP p).2]) := by
  refine ASpec.of_body TT_ok Try.mixed _ [.cell 2 25, .tmp 3] ([], []) Try.func97 (by kernel_rfl) rfl rfl (by simp only [Try.ntmps97, List.length_cons, List.length_nil]; omega) rfl (by kernel_rfl) ?_
  simp only [argE_cons, argE_nil, ac_seq, ac_region, at_normal, ao_nil, ao_cons, as_call, as_box, as_alloc, as_assign, as_load, as_fieldAddr, pktL, pktA, flowL, flowA, u8A, u16A, u32A, i64, boA, fr_false, List.contains_nil, beq_self_eq_true, hk_some, hopG, rd, aopsD, heapF, frzW, frzR, constT, evT, lk, putT, loadF, cellsF, argsF, constA, cellA, TK.isAgg, List.length_cons, List.length_nil, List.getElem?_cons_zero, List.getElem?_cons_succ, List.drop_zero, List.drop_succ_cons, List.nil_append, List.cons_append, Option.map_some, Nat.reduceSub, Nat.reduceEqDiff, Nat.reduceLeDiff, Nat.succ_ne_zero, ne_eq, not_false_eq_true, true_and, eq_self, Bool.false_eq_true, ↓reduceIte, Nat.zero_add, TT25, TT38, TT92]
  refine ACall.intro (get16_a p.data 0 (by omega)) ?_
  simp only [ac_seq, ac_region, at_normal, ao_nil, ao_cons, as_call, as_move, as_assign, as_load, as_fieldAddr, as_extract, u16A, boA, fr_false, List.contains_nil, beq_self_eq_true, hk_some, hopG, rd, aopsD, frzW, frzR, constT, evT, lk, putT, loadF, argsF, constA, cellA, TK.isAgg, List.getElem?_cons_zero, List.getElem?_cons_succ, List.drop_zero, List.drop_succ_cons, Option.map_some, Nat.reduceSub, Nat.reduceEqDiff, Nat.reduceLeDiff, Nat.succ_ne_zero, ne_eq, not_false_eq_true, true_and, eq_self, Bool.false_eq_true, ↓reduceIte, Nat.zero_add, TT38, TT92]
  refine ACall.intro (get16_a p.data 2 (by omega)) ?_
  simp only [ac_seq, ac_block, ac_region, at_normal, ao_nil, ao_cons, as_call, as_move, as_assign, as_load, as_extract, u16A, boA, fr_false, List.contains_nil, beq_self_eq_true, hk_some, hopG, rd, aopsD, frzW, frzR, evT, lk, putT, loadF, argsF, TK.isAgg, List.length_cons, List.length_nil, List.getElem?_cons_zero, List.getElem?_cons_succ, List.drop_zero, List.take_succ_cons, List.take_nil, Option.map_some, Nat.reduceAdd, Nat.reduceSub, Nat.reduceEqDiff, Nat.reduceLeDiff, true_and, eq_self, Bool.false_eq_true, ↓reduceIte, Nat.zero_add, Nat.le_refl, TT92]
  refine ACall.intro (ipPart_a p) ?_
  cases c1 : (p.mf || decide (0 < p.off))
  · simp only [ac_seq, ac_cond, ac_region, at_normal, ao_nil, ao_cons, ao_guard_t, if_f, as_move, as_assign, as_binOp, as_load, as_fieldAddr, boA, fr_false, List.contains_nil, beq_self_eq_true, hk_some, hopG, rd, aopsD, constT, evT, lk, putT, GV, gdst, binF, loadF, constA, cellA, TK.isAgg, List.getElem?_cons_zero, List.getElem?_cons_succ, List.drop_zero, List.drop_succ_cons, Option.map_some, Nat.reduceSub, Nat.reduceEqDiff, Nat.reduceLeDiff, Nat.succ_ne_zero, ne_eq, not_false_eq_true, true_and, eq_self, Bool.false_eq_true, ↓reduceIte, Nat.zero_add, TT5, TT92]
    cases c2 : decide (p.proto = 6)
    · simp only [ac_cond, at_normal, ao_nil, ao_cons, ao_guard_t, st_at, pk_at, if_t, as_pick, as_assign, as_binOp, as_load, as_fieldAddr, beq_self_eq_true, hk_some, hopG, rd, constT, evT, lk, putT, GV, gdst, binF, loadF, constA, cellA, TK.isAgg, List.getElem?_cons_zero, List.getElem?_cons_succ, List.drop_zero, List.drop_succ_cons, Option.map_some, Nat.reduceSub, Nat.reduceEqDiff, Nat.succ_ne_zero, ne_eq, not_false_eq_true, true_and, eq_self, Bool.false_eq_true, Bool.not_false, ↓reduceIte, Nat.zero_add, TT5, TT92]
      cases c3 : decide (p.proto = 17)
      · simp only [ac_ret, ac_seq, ac_region, at_normal, at_ret, ab_ret, ae_ret, ao_nil, ao_cons, if_t, as_store, as_assign, as_build, fr_false, fr_nil, fr_cons, List.contains_nil, beq_self_eq_true, Bool.and_self, hk_some, hopG, rd, aopsD, heapF, constT, evT, lk, putT, loadF, cellsF, ovw, fillF, buildF, partsF, okCell, resF, resL, constA, cellA, TK.isAgg, Value.oneCell', List.length_cons, List.length_nil, List.getElem?_cons_zero, List.getElem?_cons_succ, List.drop_zero, List.take_succ_cons, List.take_nil, List.set_cons_zero, List.set_cons_succ, List.all_cons, List.all_nil, Option.map_some, Option.bind_some, Nat.reduceAdd, Nat.reduceSub, Nat.reduceEqDiff, Nat.reduceLeDiff, true_and, and_true, and_self, eq_self, Bool.false_eq_true, Bool.not_false, ↓reduceIte, Nat.zero_add, Nat.le_refl, TT25]
        rw [show flowP p = (flow0, 3) by rw [flowP, c1, if_neg (by simp), if_pos ⟨dF.1 c2, dF.1 c3⟩]]
        try rfl
      · simp only [ac_seq, ac_cond, ac_region, at_normal, ao_nil, ao_cons, if_f, as_move, as_assign, as_unOp, fr_false, List.contains_nil, beq_self_eq_true, hk_some, hopG, rd, aopsD, evT, lk, putT, unF, Option.map_some, Nat.reduceSub, Nat.reduceEqDiff, Nat.reduceLeDiff, true_and, eq_self, Bool.false_eq_true, Bool.not_true, ↓reduceIte]
        have hne : ¬ (¬ p.proto = 6 ∧ ¬ p.proto = 17) := fun h => h.2 (dT.1 c3)
        cases c4 : thereB p.data.length 2 2
        · simp only [ac_ret, ac_seq, ac_region, at_normal, at_ret, ab_ret, ae_ret, ao_nil, ao_cons, if_t, as_store, as_assign, as_build, fr_false, fr_nil, fr_cons, List.contains_nil, beq_self_eq_true, Bool.and_self, hk_some, hopG, rd, aopsD, heapF, constT, evT, lk, putT, loadF, cellsF, ovw, fillF, buildF, partsF, okCell, resF, resL, constA, cellA, TK.isAgg, Value.oneCell', List.length_cons, List.length_nil, List.getElem?_cons_zero, List.getElem?_cons_succ, List.drop_zero, List.take_succ_cons, List.take_nil, List.set_cons_zero, List.set_cons_succ, List.all_cons, List.all_nil, Option.map_some, Option.bind_some, Nat.reduceAdd, Nat.reduceSub, Nat.reduceEqDiff, Nat.reduceLeDiff, true_and, and_true, and_self, eq_self, Bool.false_eq_true, Bool.not_false, ↓reduceIte, Nat.zero_add, Nat.le_refl, TT25]
          rw [show flowP p = (flow0, 4) by rw [flowP, c1, if_neg (by simp), if_neg hne, c4, if_neg (by simp)]]
          try rfl
        · simp only [ac_skip, ac_ret, ac_seq, ac_region, at_normal, ab_normal, ae_ret, ao_nil, ao_cons, if_f, as_store, as_move, as_assign, as_load, as_fieldAddr, as_build, fr_false, fr_nil, fr_cons, List.contains_nil, beq_self_eq_true, Bool.and_self, hk_some, hopG, rd, aopsD, heapF, constT, evT, lk, putT, loadF, cellsF, ovw, fillF, buildF, partsF, okCell, resF, resL, constA, cellA, TK.isAgg, Value.oneCell', List.length_cons, List.length_nil, List.getElem?_cons_zero, List.getElem?_cons_succ, List.drop_zero, List.drop_succ_cons, List.take_succ_cons, List.take_nil, List.set_cons_zero, List.set_cons_succ, List.all_cons, List.all_nil, Option.map_some, Option.bind_some, Nat.reduceAdd, Nat.reduceSub, Nat.reduceEqDiff, Nat.reduceLeDiff, Nat.succ_ne_zero, ne_eq, not_false_eq_true, true_and, and_true, and_self, eq_self, Bool.false_eq_true, Bool.not_true, ↓reduceIte, Nat.zero_add, Nat.le_refl, TT5, TT22, TT25, TT92]
          rw [show flowP p = (⟨p.src, p.dst, get16 p.data 0, get16 p.data 2, p.proto⟩, 0) by rw [flowP, c1, if_neg (by simp), if_neg hne, c4, if_pos rfl]]
          try rfl
    · simp only [ac_seq, ac_cond, ac_region, at_normal, ao_nil, ao_cons, ao_guard_t, sk_at, pk_at, if_f, as_pick, as_move, as_assign, as_unOp, fr_false, List.contains_nil, beq_self_eq_true, hk_some, hopG, rd, aopsD, constT, evT, lk, putT, GV, gdst, unF, constA, cellA, Option.map_some, Nat.reduceSub, Nat.reduceEqDiff, Nat.reduceLeDiff, true_and, eq_self, Bool.false_eq_true, Bool.not_true, ↓reduceIte]
      have hne : ¬ (¬ p.proto = 6 ∧ ¬ p.proto = 17) := fun h => h.1 (dT.1 c2)
      cases c4 : thereB p.data.length 2 2
      · simp only [ac_ret, ac_seq, ac_region, at_normal, at_ret, ab_ret, ae_ret, ao_nil, ao_cons, if_t, as_store, as_assign, as_build, fr_false, fr_nil, fr_cons, List.contains_nil, beq_self_eq_true, Bool.and_self, hk_some, hopG, rd, aopsD, heapF, constT, evT, lk, putT, loadF, cellsF, ovw, fillF, buildF, partsF, okCell, resF, resL, constA, cellA, TK.isAgg, Value.oneCell', List.length_cons, List.length_nil, List.getElem?_cons_zero, List.getElem?_cons_succ, List.drop_zero, List.take_succ_cons, List.take_nil, List.set_cons_zero, List.set_cons_succ, List.all_cons, List.all_nil, Option.map_some, Option.bind_some, Nat.reduceAdd, Nat.reduceSub, Nat.reduceEqDiff, Nat.reduceLeDiff, true_and, and_true, and_self, eq_self, Bool.false_eq_true, Bool.not_false, ↓reduceIte, Nat.zero_add, Nat.le_refl, TT25]
        rw [show flowP p = (flow0, 4) by rw [flowP, c1, if_neg (by simp), if_neg hne, c4, if_neg (by simp)]]
        try rfl
      · simp only [ac_skip, ac_ret, ac_seq, ac_region, at_normal, ab_normal, ae_ret, ao_nil, ao_cons, if_f, as_store, as_move, as_assign, as_load, as_fieldAddr, as_build, fr_false, fr_nil, fr_cons, List.contains_nil, beq_self_eq_true, Bool.and_self, hk_some, hopG, rd, aopsD, heapF, constT, evT, lk, putT, loadF, cellsF, ovw, fillF, buildF, partsF, okCell, resF, resL, constA, cellA, TK.isAgg, Value.oneCell', List.length_cons, List.length_nil, List.getElem?_cons_zero, List.getElem?_cons_succ, List.drop_zero, List.drop_succ_cons, List.take_succ_cons, List.take_nil, List.set_cons_zero, List.set_cons_succ, List.all_cons, List.all_nil, Option.map_some, Option.bind_some, Nat.reduceAdd, Nat.reduceSub, Nat.reduceEqDiff, Nat.reduceLeDiff, Nat.succ_ne_zero, ne_eq, not_false_eq_true, true_and, and_true, and_self, eq_self, Bool.false_eq_true, Bool.not_true, ↓reduceIte, Nat.zero_add, Nat.le_refl, TT5, TT22, TT25, TT92]
        rw [show flowP p = (⟨p.src, p.dst, get16 p.data 0, get16 p.data 2, p.proto⟩, 0) by rw [flowP, c1, if_neg (by simp), if_neg hne, c4, if_pos rfl]]
        try rfl
  · simp only [ac_ret, ac_seq, ac_cond, ac_region, at_normal, at_ret, ab_ret, ae_ret, ao_nil, ao_cons, if_t, as_store, as_assign, as_build, boA, fr_false, fr_nil, fr_cons, List.contains_nil, beq_self_eq_true, Bool.and_self, hk_some, hopG, rd, aopsD, heapF, constT, evT, lk, putT, loadF, cellsF, ovw, fillF, buildF, partsF, okCell, resF, resL, constA, cellA, TK.isAgg, Value.oneCell', List.length_cons, List.length_nil, List.getElem?_cons_zero, List.getElem?_cons_succ, List.drop_zero, List.take_succ_cons, List.take_nil, List.set_cons_zero, List.set_cons_succ, List.all_cons, List.all_nil, Option.map_some, Option.bind_some, Nat.reduceAdd, Nat.reduceSub, Nat.reduceEqDiff, Nat.reduceLeDiff, true_and, and_true, and_self, eq_self, Bool.false_eq_true, ↓reduceIte, Nat.zero_add, Nat.le_refl, TT25]
    rw [show flowP p = (flow0, 11) by rw [flowP, c1, if_pos rfl]]
    try rfl
/-- The head that bytes begin with. -/
def quP (b : List UInt8) : PktN × Int :=
  if b.length < 20 then (pkt0, 4) else if byteN b 0 < 69 ∨ 79 < byteN b 0 then (pkt0, 3) else if (b.length : Int) < 4 * (byteN b 0 - 64) then (pkt0, 4)
  else if ¬ onesF (b.take (4 * (byteN b 0 - 64)).toNat) = 65535 then (pkt0, 5)
  else (⟨0, 0, false, decide (get16 b 6 / 8192 % 2 = 1), get16 b 6 % 8192, 0, byteN b 9, get32 b 12, get32 b 16, [], cutB b (4 * (byteN b 0 - 64)) (if 4 < (b.length : Int) - 4 * (byteN b 0 - 64) then 4 else (b.length : Int) - 4 * (byteN b 0 - 64))⟩, 0)
set_option maxRecDepth 100000 in
theorem quHead_a (b : List UInt8) (hl : b.length ≤ 1000000) : ASpec Try.prog 161 [.bs b] (.tup [pktA (quP b).1, i64 (quP b).2]) := by
  have hsm : small b := by simp only [small]; omega
  have b0 := byteN_bd b 0
  have n6 := get16_bd b 6
  have d2 := mf_b _ n6
  have d3 : (get16 b 6).tmod 8192 = get16 b 6 % 8192 := tmodN n6.1
  refine ASpec.of_body TT_ok Try.mixed _ [.cell 2 92, .tmp 3] ([], []) Try.func161 (by kernel_rfl) rfl rfl (by simp only [Try.ntmps161, List.length_cons, List.length_nil]; omega) rfl (by kernel_rfl) ?_
  simp only [argE_cons, argE_nil, ac_seq, ac_cond, ac_region, at_normal, ao_nil, ao_cons, as_alloc, as_move, as_assign, as_binOp, as_len, pktL, pktA, u8A, u16A, u32A, i64, boA, fr_false, List.contains_nil, beq_self_eq_true, hk_some, hopG, hopF, rd, aopsD, heapF, constT, evT, lk, putT, lenF, binF, constA, cellA, List.length_nil, List.nil_append, Option.map_some, Nat.reduceSub, Nat.reduceLeDiff, Nat.succ_ne_zero, true_and, eq_self, Bool.false_eq_true, ↓reduceIte, Nat.zero_add, TT3, TT38, TT92]
  cases c1 : decide ((b.length : Int) < 20)
  · rw [dF] at c1
    simp only [getD_byteN, ac_skip, ac_seq, ac_region, at_normal, ao_cons, ao_guard_f, if_f, as_move, as_binOp, as_load, as_indexAddr, fr_false, List.contains_nil, beq_self_eq_true, hk_some, hopG, rd, aopsD, constT, evT, lk, putT, GV, gdst, binF, loadF, constA, cellA, TK.isAgg, Option.map_some, Nat.reduceSub, Nat.reduceLeDiff, Nat.succ_ne_zero, true_and, eq_self, Bool.false_eq_true, ↓reduceIte, Int.toNat_zero, Int.reduceLE, TT5, TT38]
    refine ⟨by omega, ?_⟩
    cases c2 : decide (byteN b 0 < 69)
    · rw [dF] at c2
      simp only [getD_byteN, ac_cond, at_normal, ao_nil, ao_cons, ao_guard_f, st_at, pk_at, if_f, as_pick, as_move, as_binOp, as_load, as_indexAddr, beq_self_eq_true, hk_some, hopG, rd, constT, evT, lk, putT, GV, gdst, binF, loadF, constA, cellA, TK.isAgg, Option.map_some, Nat.reduceSub, Nat.reduceEqDiff, Nat.succ_ne_zero, true_and, eq_self, Bool.false_eq_true, ↓reduceIte, Int.toNat_zero, Int.reduceLE, TT5, TT38]
      refine ⟨by omega, ?_⟩
      cases c3 : decide (79 < byteN b 0)
      · rw [dF] at c3
        have e1 : IntKind.u8.wrap (byteN b 0 - 64) = byteN b 0 - 64 := u8_in (by omega) (by omega)
        have e2 : IntKind.i64.wrap (byteN b 0 - 64) = byteN b 0 - 64 := i64_in (by omega) (by omega)
        have e3 : IntKind.i64.wrap (4 * (byteN b 0 - 64)) = 4 * (byteN b 0 - 64) := i64_in (by omega) (by omega)
        simp only [getD_byteN, e1, e2, e3, ac_skip, ac_seq, ac_cond, ac_region, at_normal, ao_nil, ao_cons, if_f, as_move, as_assign, as_binOp, as_convert, as_load, as_indexAddr, as_len, fr_false, List.contains_nil, beq_self_eq_true, hk_some, hopG, hopF, rd, aopsD, constT, evT, lk, putT, lenF, binF, convF, loadF, constA, cellA, TK.isAgg, Option.map_some, Nat.reduceSub, Nat.reduceEqDiff, Nat.reduceLeDiff, Nat.succ_ne_zero, true_and, eq_self, Bool.false_eq_true, ↓reduceIte, Int.toNat_zero, Int.reduceLE, TT3, TT5, TT38]
        refine ⟨by omega, ?_⟩
        have P : quP b = if (b.length : Int) < 4 * (byteN b 0 - 64) then (pkt0, 4)
            else if ¬ onesF (b.take (4 * (byteN b 0 - 64)).toNat) = 65535 then (pkt0, 5)
            else (⟨0, 0, false, decide (get16 b 6 / 8192 % 2 = 1), get16 b 6 % 8192, 0, byteN b 9, get32 b 12, get32 b 16, [], cutB b (4 * (byteN b 0 - 64)) (if 4 < (b.length : Int) - 4 * (byteN b 0 - 64) then 4 else (b.length : Int) - 4 * (byteN b 0 - 64))⟩, 0) := by
          rw [quP, if_neg (by omega), if_neg (by omega)]
        obtain ⟨n, hn⟩ : ∃ n : Nat, 4 * (byteN b 0 - 64) = (n : Int) := ⟨(4 * (byteN b 0 - 64)).toNat, by omega⟩
        rw [hn] at P ⊢
        cases c4 : decide ((b.length : Int) < (n : Int))
        · rw [dF] at c4
          rw [if_neg (by omega), Int.toNat_natCast] at P
          have hz : ((n : Int) - 0).toNat = n := by omega
          simp only [hz, ac_skip, ac_seq, ac_region, at_normal, ao_cons, if_f, as_call, as_move, as_buildSlice, as_slice, fr_false, List.contains_nil, beq_self_eq_true, hk_some, hopG, rd, aopsD, frzW, frzR, constT, evT, lk, putT, cellsF, ovw, fillF, makeSF, bndF, cutF, partsF, argsF, constA, cellA, List.length_cons, List.length_nil, List.drop_zero, List.set_cons_zero, List.replicate_succ, List.replicate_zero, List.flatten_cons, List.flatten_nil, List.append_nil, Option.map_some, Option.map_none, Option.bind_some, Nat.reduceSub, Nat.reduceEqDiff, Nat.reduceLeDiff, Nat.succ_ne_zero, true_and, and_self, eq_self, Bool.false_eq_true, ↓reduceIte, Int.toNat_zero, Int.reduceLE, Nat.mul_one, Nat.zero_add, Nat.zero_lt_succ, Nat.le_refl, TT38, TT237]
          refine ⟨⟨by omega, by omega⟩, ?_⟩
          refine ACall.intro (right_a [b.take n] (by simp [small]; omega)) ?_
          simp only [ac_cond, at_normal, ao_nil, ao_cons, as_unOp, boA, beq_self_eq_true, hk_some, hopG, rd, evT, lk, putT, unF, List.flatten_cons, List.flatten_nil, List.append_nil, Option.map_some, Nat.reduceSub, true_and, eq_self, ↓reduceIte]
          cases hq : (onesF (b.take n) == 65535)
          · have hq' : ¬ onesF (b.take n) = 65535 := by simpa using hq
            rw [if_pos hq'] at P
            rw [P]
            simp only [ac_ret, ac_seq, ac_region, at_normal, at_ret, ae_ret, ao_nil, ao_cons, if_t, as_store, as_assign, as_build, fr_false, fr_nil, fr_cons, List.contains_nil, beq_self_eq_true, Bool.and_self, hk_some, hopG, rd, aopsD, heapF, constT, evT, lk, putT, loadF, cellsF, ovw, fillF, buildF, partsF, okCell, resF, resL, constA, cellA, TK.isAgg, Value.oneCell', List.length_cons, List.length_nil, List.getElem?_cons_zero, List.drop_zero, List.take_succ_cons, List.take_nil, List.set_cons_zero, List.set_cons_succ, List.all_cons, List.all_nil, Option.map_some, Option.bind_some, Nat.reduceAdd, Nat.reduceSub, Nat.reduceEqDiff, Nat.reduceLeDiff, true_and, and_true, and_self, eq_self, Bool.false_eq_true, Bool.not_false, ↓reduceIte, Nat.zero_add, Nat.le_refl, TT92]
            try rfl
          · have hq' : onesF (b.take n) = 65535 := by simpa using hq
            rw [if_neg (by simpa using hq')] at P
            rw [P]
            simp only [ac_skip, ac_seq, ac_region, at_normal, ao_cons, if_f, as_call, as_move, fr_false, List.contains_nil, beq_self_eq_true, rd, aopsD, frzW, frzR, constT, evT, lk, putT, argsF, constA, cellA, Option.map_some, Nat.reduceSub, Nat.reduceLeDiff, Nat.succ_ne_zero, eq_self, Bool.false_eq_true, Bool.not_true, ↓reduceIte]
            refine ACall.intro (get16_a b 6 (by omega)) ?_
            simp only [getD_byteN, d2, d3, ac_seq, ac_region, at_normal, ao_nil, ao_cons, as_call, as_alloc, as_store, as_move, as_assign, as_binOp, as_load, as_indexAddr, as_extract, as_build, u16A, boA, fr_false, List.contains_nil, beq_self_eq_true, Bool.and_self, Int.reduceEq, hk_some, hopG, rd, aopsD, heapF, frzW, frzR, constT, evT, lk, putT, binF, loadF, cellsF, ovw, fillF, buildF, partsF, argsF, okCell, constA, cellA, TK.isAgg, Value.oneCell', List.length_cons, List.length_nil, List.getElem?_cons_zero, List.getElem?_cons_succ, List.set_cons_zero, List.set_cons_succ, List.nil_append, List.cons_append, List.all_cons, List.all_nil, Option.map_some, Nat.reduceAdd, Nat.reduceSub, Nat.reduceEqDiff, Nat.reduceLeDiff, Nat.succ_ne_zero, ne_eq, not_false_eq_true, true_and, and_self, eq_self, Bool.false_eq_true, ↓reduceIte, Int.reduceToNat, Int.reduceLE, Nat.zero_add, Nat.le_refl, TT5, TT23, TT38, TT92]
            refine ⟨by omega, ?_⟩
            refine ACall.intro (get32_a b 12 (by omega)) ?_
            simp only [ac_seq, ac_region, at_normal, ao_nil, ao_cons, as_call, as_store, as_move, as_fieldAddr, as_extract, u32A, boA, fr_false, List.contains_nil, beq_self_eq_true, Bool.and_self, hk_some, hopG, rd, aopsD, heapF, frzW, frzR, constT, evT, lk, putT, cellsF, ovw, argsF, okCell, constA, cellA, Value.oneCell', List.length_cons, List.length_nil, List.getElem?_cons_zero, List.getElem?_cons_succ, List.set_cons_zero, List.set_cons_succ, List.all_cons, List.all_nil, Option.map_some, Nat.reduceAdd, Nat.reduceSub, Nat.reduceEqDiff, Nat.reduceLeDiff, Nat.succ_ne_zero, ne_eq, not_false_eq_true, true_and, and_self, eq_self, Bool.false_eq_true, ↓reduceIte, Nat.zero_add, TT22, TT92]
            refine ACall.intro (get32_a b 16 (by omega)) ?_
            simp only [i64_in (n := (b.length : Int) - (n : Int)) (by omega) (by omega), ac_seq, ac_region, at_normal, ao_nil, ao_cons, as_call, as_store, as_move, as_binOp, as_fieldAddr, as_extract, as_len, as_min, u32A, boA, fr_false, List.contains_nil, beq_self_eq_true, Bool.and_self, hk_some, hopG, hopF, rd, aopsD, heapF, frzW, frzR, constT, evT, lk, putT, lenF, binF, cellsF, ovw, argsF, okCell, constA, cellA, Value.oneCell', List.length_cons, List.length_nil, List.getElem?_cons_zero, List.getElem?_cons_succ, List.set_cons_zero, List.set_cons_succ, List.all_cons, List.all_nil, Option.map_some, Nat.reduceAdd, Nat.reduceSub, Nat.reduceEqDiff, Nat.reduceLeDiff, Nat.succ_ne_zero, ne_eq, not_false_eq_true, true_and, and_self, eq_self, Bool.false_eq_true, ↓reduceIte, Nat.zero_add, TT3, TT22, TT38, TT92]
            refine ACall.intro (cut_a b n _ (by omega) hsm) ?_
            simp only [ac_ret, ac_seq, ac_region, at_normal, ae_ret, ao_nil, ao_cons, as_store, as_move, as_assign, as_load, as_fieldAddr, as_extract, boA, fr_false, fr_nil, fr_cons, List.contains_nil, beq_self_eq_true, Bool.and_self, hk_some, hopG, rd, aopsD, heapF, constT, evT, lk, putT, loadF, cellsF, ovw, okCell, resF, resL, constA, cellA, TK.isAgg, Value.oneCell', List.length_cons, List.length_nil, List.getElem?_cons_zero, List.getElem?_cons_succ, List.drop_zero, List.take_succ_cons, List.take_nil, List.set_cons_zero, List.set_cons_succ, List.all_cons, List.all_nil, Option.map_some, Option.bind_some, Nat.reduceAdd, Nat.reduceSub, Nat.reduceEqDiff, Nat.reduceLeDiff, Nat.succ_ne_zero, ne_eq, not_false_eq_true, and_true, and_self, eq_self, Bool.false_eq_true, ↓reduceIte, Nat.zero_add, Nat.le_refl, TT38, TT92]
            try rfl
        · rw [dT] at c4
          rw [if_pos (by omega)] at P
          rw [P]
          simp only [ac_ret, ac_seq, ac_region, at_normal, at_ret, ae_ret, ao_nil, ao_cons, if_t, as_store, as_assign, as_build, fr_false, fr_nil, fr_cons, List.contains_nil, beq_self_eq_true, Bool.and_self, hk_some, hopG, rd, aopsD, heapF, constT, evT, lk, putT, loadF, cellsF, ovw, fillF, buildF, partsF, okCell, resF, resL, constA, cellA, TK.isAgg, Value.oneCell', List.length_cons, List.length_nil, List.getElem?_cons_zero, List.drop_zero, List.take_succ_cons, List.take_nil, List.set_cons_zero, List.set_cons_succ, List.all_cons, List.all_nil, Option.map_some, Option.bind_some, Nat.reduceAdd, Nat.reduceSub, Nat.reduceEqDiff, Nat.reduceLeDiff, true_and, and_true, and_self, eq_self, Bool.false_eq_true, ↓reduceIte, Nat.zero_add, Nat.le_refl, TT92]
          try rfl
      · rw [dT] at c3
        rw [show quP b = (pkt0, 3) by rw [quP, if_neg (by omega), if_pos (by omega)]]
        simp only [ac_ret, ac_seq, ac_region, at_normal, at_ret, ae_ret, ao_nil, ao_cons, if_t, as_store, as_assign, as_build, fr_false, fr_nil, fr_cons, List.contains_nil, beq_self_eq_true, Bool.and_self, hk_some, hopG, rd, aopsD, heapF, constT, evT, lk, putT, loadF, cellsF, ovw, fillF, buildF, partsF, okCell, resF, resL, constA, cellA, TK.isAgg, Value.oneCell', List.length_cons, List.length_nil, List.getElem?_cons_zero, List.drop_zero, List.take_succ_cons, List.take_nil, List.set_cons_zero, List.set_cons_succ, List.all_cons, List.all_nil, Option.map_some, Option.bind_some, Nat.reduceAdd, Nat.reduceSub, Nat.reduceEqDiff, Nat.reduceLeDiff, true_and, and_true, and_self, eq_self, Bool.false_eq_true, ↓reduceIte, Nat.zero_add, Nat.le_refl, TT92]
        try rfl
    · rw [dT] at c2
      rw [show quP b = (pkt0, 3) by rw [quP, if_neg (by omega), if_pos (by omega)]]
      simp only [ac_ret, ac_seq, ac_cond, ac_region, at_normal, at_ret, ae_ret, ao_nil, ao_cons, ao_guard_f, sk_at, pk_at, if_t, as_pick, as_store, as_assign, as_build, fr_false, fr_nil, fr_cons, List.contains_nil, beq_self_eq_true, Bool.and_self, hk_some, hopG, rd, aopsD, heapF, constT, evT, lk, putT, GV, gdst, loadF, cellsF, ovw, fillF, buildF, partsF, okCell, resF, resL, constA, cellA, TK.isAgg, Value.oneCell', List.length_cons, List.length_nil, List.getElem?_cons_zero, List.drop_zero, List.take_succ_cons, List.take_nil, List.set_cons_zero, List.set_cons_succ, List.all_cons, List.all_nil, Option.map_some, Option.bind_some, Nat.reduceAdd, Nat.reduceSub, Nat.reduceEqDiff, Nat.reduceLeDiff, true_and, and_true, and_self, eq_self, Bool.false_eq_true, ↓reduceIte, Nat.zero_add, Nat.le_refl, TT92]
      try rfl
  · rw [dT] at c1
    rw [show quP b = (pkt0, 4) from if_pos (by omega)]
    simp only [ac_ret, ac_seq, ac_region, at_normal, at_ret, ae_ret, ao_nil, ao_cons, if_t, as_store, as_assign, as_build, fr_false, fr_nil, fr_cons, List.contains_nil, beq_self_eq_true, Bool.and_self, hk_some, hopG, rd, aopsD, heapF, constT, evT, lk, putT, loadF, cellsF, ovw, fillF, buildF, partsF, okCell, resF, resL, constA, cellA, TK.isAgg, Value.oneCell', List.length_cons, List.length_nil, List.getElem?_cons_zero, List.drop_zero, List.take_succ_cons, List.take_nil, List.set_cons_zero, List.set_cons_succ, List.all_cons, List.all_nil, Option.map_some, Option.bind_some, Nat.reduceAdd, Nat.reduceSub, Nat.reduceEqDiff, Nat.reduceLeDiff, true_and, and_true, and_self, eq_self, Bool.false_eq_true, ↓reduceIte, Nat.zero_add, Nat.le_refl, TT92]
    try rfl
/-- The flow that a message tells of. -/
def quO (t : Int) (l : List UInt8) : FlowN × Int :=
  if (decide (t = 3) || (decide (t = 11) || decide (t = 12))) = true then if (quP l).2 = 0 then flowP (quP l).1 else (flow0, (quP l).2) else (flow0, 10)
set_option maxRecDepth 100000 in
theorem quoteOf_a (t c r : Int) (l : List UInt8) (hl : l.length ≤ 1000000) : ASpec Try.prog 94 [icmpA t c r l] (.tup [flowA (quO t l).1, i64 (quO t l).2]) := by
  refine ASpec.of_body TT_ok Try.mixed _ [.cell 2 25, .tmp 3] ([], []) Try.func94 (by kernel_rfl) rfl rfl (by simp only [Try.ntmps94, List.length_cons, List.length_nil]; omega) rfl (by kernel_rfl) ?_
  simp only [argE_cons, argE_nil, ac_seq, ac_region, at_normal, ao_nil, ao_cons, as_call, as_box, as_alloc, as_assign, as_load, icmpA, flowL, flowA, u8A, u16A, u32A, i64, fr_false, List.contains_nil, beq_self_eq_true, hk_some, hopG, rd, aopsD, heapF, frzW, frzR, constT, evT, lk, putT, loadF, cellsF, argsF, constA, cellA, TK.isAgg, List.length_cons, List.length_nil, List.getElem?_cons_zero, List.drop_zero, List.take_succ_cons, List.take_nil, List.nil_append, List.cons_append, Option.map_some, Nat.reduceAdd, Nat.reduceSub, Nat.reduceEqDiff, Nat.reduceLeDiff, true_and, eq_self, Bool.false_eq_true, ↓reduceIte, Nat.zero_add, Nat.le_refl, TT25, TT134]
  refine ACall.intro (about_a t c r l) ?_
  cases c1 : (decide (t = 3) || (decide (t = 11) || decide (t = 12)))
  · rw [show quO t l = (flow0, 10) by rw [quO, c1, if_neg (by simp)]]
    simp only [ac_ret, ac_seq, ac_cond, ac_region, at_normal, at_ret, ae_ret, ao_nil, ao_cons, if_t, as_store, as_assign, as_unOp, as_build, boA, fr_false, fr_nil, fr_cons, List.contains_nil, beq_self_eq_true, Bool.and_self, hk_some, hopG, rd, aopsD, heapF, constT, evT, lk, putT, unF, loadF, cellsF, ovw, fillF, buildF, partsF, okCell, resF, resL, constA, cellA, TK.isAgg, Value.oneCell', List.length_cons, List.length_nil, List.getElem?_cons_zero, List.getElem?_cons_succ, List.drop_zero, List.take_succ_cons, List.take_nil, List.set_cons_zero, List.set_cons_succ, List.all_cons, List.all_nil, Option.map_some, Option.bind_some, Nat.reduceAdd, Nat.reduceSub, Nat.reduceEqDiff, Nat.reduceLeDiff, true_and, and_true, and_self, eq_self, Bool.false_eq_true, Bool.not_false, ↓reduceIte, Nat.zero_add, Nat.le_refl, TT25]
    try rfl
  · simp only [ac_skip, ac_seq, ac_cond, ac_region, at_normal, ao_nil, ao_cons, if_f, as_call, as_unOp, as_load, as_fieldAddr, boA, fr_false, List.contains_nil, beq_self_eq_true, hk_some, hopG, rd, aopsD, frzW, frzR, evT, lk, putT, unF, loadF, argsF, TK.isAgg, List.getElem?_cons_zero, List.getElem?_cons_succ, List.drop_zero, List.drop_succ_cons, Option.map_some, Nat.reduceSub, Nat.reduceEqDiff, Nat.reduceLeDiff, Nat.succ_ne_zero, ne_eq, not_false_eq_true, true_and, eq_self, Bool.false_eq_true, Bool.not_true, ↓reduceIte, Nat.zero_add, TT38, TT134]
    refine ACall.intro (quHead_a l hl) ?_
    cases c2 : decide ((quP l).2 = 0)
    · rw [show quO t l = (flow0, (quP l).2) by rw [quO, c1, if_pos rfl, if_neg (dF.1 c2)]]
      simp only [c2, ac_ret, ac_seq, ac_cond, ac_region, at_normal, at_ret, ae_ret, ao_nil, ao_cons, if_t, as_alloc, as_store, as_move, as_assign, as_binOp, as_extract, as_build, pktL, pktA, u8A, u16A, u32A, i64, boA, fr_false, fr_nil, fr_cons, List.contains_nil, beq_self_eq_true, Bool.and_self, hk_some, hopG, rd, aopsD, heapF, constT, evT, lk, putT, binF, loadF, cellsF, ovw, fillF, buildF, partsF, okCell, resF, resL, constA, cellA, TK.isAgg, Value.oneCell', List.length_cons, List.length_nil, List.getElem?_cons_zero, List.getElem?_cons_succ, List.drop_zero, List.take_succ_cons, List.take_nil, List.set_cons_zero, List.set_cons_succ, List.nil_append, List.cons_append, List.all_cons, List.all_nil, Option.map_some, Option.bind_some, Nat.reduceAdd, Nat.reduceSub, Nat.reduceEqDiff, Nat.reduceLeDiff, true_and, and_true, and_self, eq_self, Bool.false_eq_true, Bool.not_false, ↓reduceIte, Nat.zero_add, Nat.le_refl, TT25, TT61, TT92]
      try rfl
    · rw [show quO t l = flowP (quP l).1 by rw [quO, c1, if_pos rfl, if_pos (dT.1 c2)]]
      simp only [c2, ac_skip, ac_seq, ac_cond, ac_region, at_normal, ao_nil, ao_cons, if_f, as_call, as_alloc, as_store, as_move, as_assign, as_binOp, as_load, as_extract, pktL, pktA, u8A, u16A, u32A, i64, boA, fr_false, List.contains_nil, beq_self_eq_true, Bool.and_self, hk_some, hopG, rd, aopsD, heapF, frzW, frzR, constT, evT, lk, putT, binF, loadF, cellsF, ovw, argsF, okCell, constA, cellA, TK.isAgg, Value.oneCell', List.length_cons, List.length_nil, List.getElem?_cons_zero, List.getElem?_cons_succ, List.drop_zero, List.take_succ_cons, List.take_nil, List.set_cons_zero, List.set_cons_succ, List.nil_append, List.cons_append, List.all_cons, List.all_nil, Option.map_some, Nat.reduceAdd, Nat.reduceSub, Nat.reduceEqDiff, Nat.reduceLeDiff, true_and, and_self, eq_self, Bool.false_eq_true, Bool.not_true, ↓reduceIte, Nat.zero_add, Nat.le_refl, TT61, TT92]
      refine ACall.intro (flowOf_a (quP l).1) ?_
      simp only [ac_ret, at_normal, ae_ret, ao_nil, ao_cons, as_store, as_assign, as_extract, flowL, flowA, u8A, u16A, u32A, i64, fr_nil, fr_cons, beq_self_eq_true, Bool.and_self, hk_some, hopG, rd, heapF, evT, lk, putT, loadF, cellsF, ovw, okCell, resF, resL, TK.isAgg, Value.oneCell', List.length_cons, List.length_nil, List.getElem?_cons_zero, List.getElem?_cons_succ, List.drop_zero, List.take_succ_cons, List.take_nil, List.set_cons_zero, List.set_cons_succ, List.all_cons, List.all_nil, Option.map_some, Option.bind_some, Nat.reduceAdd, Nat.reduceSub, Nat.reduceEqDiff, and_true, and_self, eq_self, ↓reduceIte, Nat.zero_add, Nat.le_refl, TT25]
      try rfl
end Go.Proofs.Ytafajmnlknmfiaa
