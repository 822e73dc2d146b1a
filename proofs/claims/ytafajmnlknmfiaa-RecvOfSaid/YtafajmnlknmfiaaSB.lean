/- recv.Of and the reference's. -/
import Derived.Test.YtafajmnlknmfiaaSA
namespace Go.Proofs.Ytafajmnlknmfiaa
set_option linter.unusedSimpArgs false
set_option linter.unusedVariables false
open Go.RowKit

def roArp (l : List UInt8) : RO :=
  if l.length < 28 then .no 9 else if (arpP l).2 = 0 then .arp (arpP l).1.1 (arpP l).1.2.1 (arpP l).1.2.2.1 (arpP l).1.2.2.2.1 (arpP l).1.2.2.2.2 else .no 9
def roFr (m d : Nat → Int) (t : Int) (l : List UInt8) : RO :=
  if (mEq d m || mEq d m255) = true then if t = 2048 then if mEq d m255 = true then .no 11 else roPk l else if t = 2054 then roArp l else .no 14 else .no 11
def roOf (m : Nat → Int) (b : List UInt8) : RO :=
  if (ethP b).2 = 0 then roFr m (ethP b).1.1 (ethP b).1.2.2.1 (ethP b).1.2.2.2 else .no 8
theorem ethP_len (b : List UInt8) : (ethP b).1.2.2.2.length ≤ b.length := by
  unfold ethP
  split
  · simp
  · split
    · simp
    · simp
theorem arpP_e (b : List UInt8) : (arpP b).2 = 0 ∨ (arpP b).2 = 3 := by
  unfold arpP
  split <;> simp
theorem arpNot (t : Int) (h : t = 2048) : ¬ t = 2054 := by omega
set_option maxRecDepth 100000 in
theorem recvOf_no (c : CfgN) (n : Int) (b : List UInt8) (h0 : ¬ n = 0) (h1 : ¬ n = 1) : ASpec Try.prog 105 [cfgA c, i64 n, .bs b] (.tup [.one .nilIface, i64 11]) := by
  refine ASpec.of_body TT_ok Try.mixed _ [.tmp 6, .tmp 7] ([], []) Try.func105 (by kernel_rfl) rfl rfl (by simp only [Try.ntmps105, List.length_cons, List.length_nil]; omega) rfl (by kernel_rfl) ?_
  simp only [decide_eq_false h0, decide_eq_false h1, argE_cons, argE_nil, ac_ret, ac_seq, ac_cond, ac_region, at_normal, at_ret, ae_ret, ao_nil, ao_cons, ao_guard_t, st_at, pk_at, if_t, as_pick, as_box, as_move, as_assign, as_binOp, cfgL, cfgA, u8A, u32A, i64, fr_false, List.contains_nil, beq_self_eq_true, hk_some, hopG, rd, aopsD, heapF, constT, evT, lk, putT, GV, gdst, binF, cellsF, resF, resL, constA, cellA, List.length_nil, List.nil_append, Option.map_some, Option.bind_some, Nat.reduceAdd, Nat.reduceSub, Nat.reduceEqDiff, Nat.reduceLeDiff, and_true, and_self, eq_self, reduceCtorEq, Bool.false_eq_true, Bool.not_false, ↓reduceIte, Int.reduceNeg, Nat.zero_add, TT3]
set_option maxRecDepth 100000 in
theorem recvOf_0 (c : CfgN) (b : List UInt8) (hl : b.length ≤ 100000) : ASpec Try.prog 105 [cfgA c, i64 0, .bs b] (.tup [(roOf c.m0 b).x, i64 (roOf c.m0 b).why]) := by
  have hL := ethP_len b
  refine ASpec.of_body TT_ok Try.mixed _ [.tmp 6, .tmp 7] ([], []) Try.func105 (by kernel_rfl) rfl rfl (by simp only [Try.ntmps105, List.length_cons, List.length_nil]; omega) rfl (by kernel_rfl) ?_
  simp only [argE_cons, argE_nil, ac_skip, ac_seq, ac_cond, ac_region, at_normal, ao_nil, ao_cons, ao_guard_t, sk_at, pk_at, if_f, as_pick, as_call, as_box, as_move, as_assign, as_binOp, cfgL, cfgA, u8A, u32A, i64, fr_false, List.contains_nil, beq_self_eq_true, decide_true, hk_some, hopG, rd, aopsD, heapF, frzW, frzR, constT, evT, lk, putT, GV, gdst, binF, cellsF, argsF, constA, cellA, List.length_nil, List.nil_append, Option.map_some, Nat.reduceAdd, Nat.reduceSub, Nat.reduceEqDiff, Nat.reduceLeDiff, true_and, eq_self, reduceCtorEq, Bool.false_eq_true, Bool.not_true, ↓reduceIte, Int.reduceNeg, Nat.zero_add, TT3]
  refine ACall.intro (etherParse_a b hl) ?_
  cases c0 : decide ((ethP b).2 = 0)
  · rw [show roOf c.m0 b = .no 8 from if_neg (dF.1 c0)]
    simp only [c0, RO.x, RO.why, ac_ret, ac_seq, ac_block, ac_cond, ac_region, at_normal, at_ret, ab_ret, ae_ret, ao_nil, ao_cons, if_t, as_alloc, as_store, as_move, as_assign, as_binOp, as_extract, macL, frameA, u8A, u16A, i64, fr_false, List.contains_nil, beq_self_eq_true, Bool.and_self, hk_some, hopG, rd, aopsD, heapF, constT, evT, lk, putT, binF, cellsF, ovw, okCell, resF, resL, constA, cellA, Value.oneCell', List.length_cons, List.length_nil, List.getElem?_cons_zero, List.getElem?_cons_succ, List.set_cons_zero, List.set_cons_succ, List.nil_append, List.cons_append, List.all_cons, List.all_nil, Option.map_some, Option.bind_some, Nat.reduceAdd, Nat.reduceSub, Nat.reduceEqDiff, Nat.reduceLeDiff, and_true, and_self, eq_self, Bool.false_eq_true, Bool.not_false, ↓reduceIte, Int.reduceNeg, Nat.zero_add, Nat.le_refl, TT56, TT61]
  · rw [show roOf c.m0 b = roFr c.m0 (ethP b).1.1 (ethP b).1.2.2.1 (ethP b).1.2.2.2 from if_pos (dT.1 c0)]
    generalize (ethP b).1.1 = d at *
    generalize (ethP b).1.2.1 = s at *
    generalize (ethP b).1.2.2.1 = t at *
    generalize (ethP b).1.2.2.2 = l at *
    simp only [c0, ac_seq, ac_block, ac_cond, ac_region, at_normal, ao_nil, ao_cons, if_f, as_call, as_alloc, as_store, as_move, as_assign, as_binOp, as_load, as_fieldAddr, as_indexAddr, as_extract, macL, frameA, u8A, u16A, i64, fr_false, List.contains_nil, Nat.reduceBEq, beq_self_eq_true, Int.cast_ofNat_Int, Bool.and_self, hk_some, hopG, rd, aopsD, heapF, frzW, tlN, constT, evT, lk, putT, binF, loadF, cellsF, ovw, argsF, okCell, constA, cellA, TK.isAgg, Value.oneCell', List.length_cons, List.length_nil, List.getElem?_cons_zero, List.getElem?_cons_succ, List.drop_zero, List.take_zero, List.take_succ_cons, List.take_nil, List.set_cons_zero, List.set_cons_succ, List.nil_append, List.cons_append, List.all_cons, List.all_nil, Option.map_some, Nat.reduceAdd, Nat.reduceSub, Nat.reduceEqDiff, Nat.reduceLeDiff, Nat.succ_ne_zero, ne_eq, not_false_eq_true, true_and, and_self, eq_self, reduceCtorEq, Bool.false_eq_true, Bool.not_true, ↓reduceIte, Int.toNat_zero, Int.reduceLT, Int.reduceLE, Int.reduceNeg, Nat.zero_mul, Nat.zero_add, Nat.add_zero, Nat.le_refl, TT29, TT30, TT37, TT56, TT61]
    refine ACall.intro (mine_a d s c.m0 t l) ?_
    cases c1 : (mEq d c.m0 || mEq d m255)
    · rw [show roFr c.m0 d t l = .no 11 from if_neg (by simp [c1])]
      simp only [RO.x, RO.why, ac_ret, ac_seq, ac_cond, ac_region, at_normal, at_ret, ab_ret, ae_ret, ao_nil, ao_cons, if_t, as_assign, as_unOp, boA, fr_false, List.contains_nil, Nat.reduceBEq, beq_self_eq_true, hk_some, hopG, rd, aopsD, constT, evT, lk, putT, unF, resF, resL, constA, cellA, Option.map_some, Option.bind_some, Nat.reduceSub, Nat.reduceEqDiff, Nat.reduceLeDiff, and_true, and_self, eq_self, Bool.false_eq_true, Bool.not_false, ↓reduceIte, Int.reduceNeg]
    · have P : roFr c.m0 d t l = if t = 2048 then if mEq d m255 = true then .no 11 else roPk l else if t = 2054 then roArp l else .no 14 := if_pos c1
      rw [P]
      simp only [ac_seq, ac_cond, ac_region, at_normal, ao_nil, ao_cons, if_f, as_assign, as_binOp, as_unOp, as_load, as_fieldAddr, boA, fr_false, List.contains_nil, Nat.reduceBEq, beq_self_eq_true, hk_some, hopG, rd, aopsD, constT, evT, lk, putT, binF, unF, loadF, constA, cellA, TK.isAgg, List.getElem?_cons_zero, List.getElem?_cons_succ, List.drop_zero, List.drop_succ_cons, Option.map_some, Nat.reduceSub, Nat.reduceEqDiff, Nat.reduceLeDiff, Nat.succ_ne_zero, ne_eq, not_false_eq_true, true_and, eq_self, Bool.false_eq_true, Bool.not_true, ↓reduceIte, Int.reduceNeg, Nat.zero_add, TT23, TT56]
      cases c2 : decide (t = 2048)
      · rw [if_neg (dF.1 c2)]
        simp only [ac_seq, ac_cond, ac_region, at_normal, ao_nil, ao_cons, if_f, as_assign, as_binOp, as_load, as_fieldAddr, fr_false, List.contains_nil, beq_self_eq_true, hk_some, hopG, rd, aopsD, constT, evT, lk, putT, binF, loadF, constA, cellA, TK.isAgg, List.getElem?_cons_zero, List.getElem?_cons_succ, List.drop_zero, List.drop_succ_cons, Option.map_some, Nat.reduceSub, Nat.reduceEqDiff, Nat.reduceLeDiff, Nat.succ_ne_zero, ne_eq, not_false_eq_true, true_and, eq_self, Bool.false_eq_true, ↓reduceIte, Int.reduceNeg, Nat.zero_add, TT23, TT56]
        cases c3 : decide (t = 2054)
        · rw [if_neg (dF.1 c3)]
          simp only [RO.x, RO.why, ac_ret, ac_seq, ac_region, at_normal, at_ret, ab_ret, ae_ret, ao_nil, ao_cons, if_t, as_assign, fr_false, List.contains_nil, beq_self_eq_true, rd, aopsD, constT, evT, lk, putT, resF, resL, constA, cellA, Option.map_some, Option.bind_some, Nat.reduceSub, Nat.reduceEqDiff, Nat.reduceLeDiff, and_true, and_self, eq_self, Bool.false_eq_true, Bool.not_false, ↓reduceIte, Int.reduceNeg]
        · rw [if_pos (dT.1 c3)]
          simp only [ac_skip, ac_seq, ac_region, at_normal, ab_normal, ao_cons, if_f, as_call, as_load, as_fieldAddr, fr_false, List.contains_nil, beq_self_eq_true, hk_some, hopG, rd, aopsD, frzW, frzR, evT, lk, putT, loadF, argsF, TK.isAgg, List.getElem?_cons_zero, List.getElem?_cons_succ, List.drop_zero, List.drop_succ_cons, Option.map_some, Nat.reduceSub, Nat.reduceEqDiff, Nat.reduceLeDiff, Nat.succ_ne_zero, ne_eq, not_false_eq_true, true_and, eq_self, Bool.false_eq_true, Bool.not_true, ↓reduceIte, Int.reduceNeg, Nat.zero_add, TT38, TT56]
          by_cases hn : l.length < 28
          · rw [show roArp l = .no 9 from if_pos hn]
            refine ACall.intro (arpParse_s l hn) ?_
            simp only [RO.x, RO.why, ac_ret, ac_seq, ac_cond, ac_region, at_normal, at_ret, ae_ret, ao_nil, ao_cons, if_t, as_alloc, as_store, as_move, as_assign, as_binOp, as_extract, macL, arpA, u8A, u16A, u32A, i64, fr_false, List.contains_nil, beq_self_eq_true, decide_false, Bool.and_self, Int.reduceEq, hk_some, hopG, rd, aopsD, heapF, constT, evT, lk, putT, binF, cellsF, ovw, okCell, resF, resL, constA, cellA, Value.oneCell', List.length_cons, List.length_nil, List.getElem?_cons_zero, List.getElem?_cons_succ, List.set_cons_zero, List.set_cons_succ, List.nil_append, List.cons_append, List.all_cons, List.all_nil, Option.map_some, Option.bind_some, Nat.reduceAdd, Nat.reduceSub, Nat.reduceEqDiff, Nat.reduceLeDiff, and_true, and_self, eq_self, Bool.false_eq_true, Bool.not_false, ↓reduceIte, Int.reduceNeg, Nat.zero_add, Nat.le_refl, TT61, TT155]
          · rw [show roArp l = if (arpP l).2 = 0 then .arp (arpP l).1.1 (arpP l).1.2.1 (arpP l).1.2.2.1 (arpP l).1.2.2.2.1 (arpP l).1.2.2.2.2 else .no 9 from if_neg hn]
            refine ACall.intro (arpParse_a l (by omega) (by omega)) ?_
            rcases arpP_e l with c4 | c4
            · rw [if_pos c4]
              simp only [c4, RO.x, RO.why, ac_skip, ac_ret, ac_seq, ac_cond, ac_region, at_normal, ae_ret, ao_nil, ao_cons, if_f, as_alloc, as_store, as_move, as_assign, as_binOp, as_load, as_extract, macL, arpA, u8A, u16A, u32A, i64, fr_false, List.contains_nil, beq_self_eq_true, decide_true, Bool.and_self, hk_some, hopG, rd, as_makeInterface, aopsD, heapF, constT, evT, lk, putT, binF, loadF, cellsF, ovw, okCell, resF, resL, constA, cellA, TK.isAgg, Value.oneCell', List.length_cons, List.length_nil, List.getElem?_cons_zero, List.getElem?_cons_succ, List.drop_zero, List.take_succ_cons, List.take_nil, List.set_cons_zero, List.set_cons_succ, List.nil_append, List.cons_append, List.all_cons, List.all_nil, Option.map_some, Option.bind_some, Nat.reduceAdd, Nat.reduceSub, Nat.reduceEqDiff, Nat.reduceLeDiff, and_true, and_self, eq_self, Bool.false_eq_true, Bool.not_true, ↓reduceIte, Int.reduceNeg, Nat.zero_add, Nat.le_refl, TT61, TT155]
            · rw [if_neg (by omega)]
              simp only [c4, RO.x, RO.why, ac_ret, ac_seq, ac_cond, ac_region, at_normal, at_ret, ae_ret, ao_nil, ao_cons, if_t, as_alloc, as_store, as_move, as_assign, as_binOp, as_extract, macL, arpA, u8A, u16A, u32A, i64, fr_false, List.contains_nil, beq_self_eq_true, decide_false, Bool.and_self, Int.reduceEq, hk_some, hopG, rd, aopsD, heapF, constT, evT, lk, putT, binF, cellsF, ovw, okCell, resF, resL, constA, cellA, Value.oneCell', List.length_cons, List.length_nil, List.getElem?_cons_zero, List.getElem?_cons_succ, List.set_cons_zero, List.set_cons_succ, List.nil_append, List.cons_append, List.all_cons, List.all_nil, Option.map_some, Option.bind_some, Nat.reduceAdd, Nat.reduceSub, Nat.reduceEqDiff, Nat.reduceLeDiff, and_true, and_self, eq_self, Bool.false_eq_true, Bool.not_false, ↓reduceIte, Int.reduceNeg, Nat.zero_add, Nat.le_refl, TT61, TT155]
      · rw [if_pos (dT.1 c2)]
        simp only [ac_seq, ac_region, ao_cons, if_t, as_call, as_load, fr_false, List.contains_nil, beq_self_eq_true, hk_some, hopG, rd, aopsD, frzW, frzR, evT, lk, putT, loadF, argsF, TK.isAgg, List.length_cons, List.length_nil, List.getElem?_cons_zero, List.getElem?_cons_succ, List.drop_zero, List.take_succ_cons, List.take_nil, Option.map_some, Nat.reduceAdd, Nat.reduceSub, Nat.reduceEqDiff, Nat.reduceLeDiff, true_and, eq_self, Bool.false_eq_true, ↓reduceIte, Int.reduceNeg, Nat.zero_add, Nat.le_refl, TT56]
        refine ACall.intro (recvPacket_a d s t l (by omega)) ?_
        generalize (if mEq d m255 = true then RO.no 11 else roPk l) = r
        cases r
        · simp only [RO.x, RO.why, ac_ret, at_normal, at_ret, ab_ret, ae_ret, ao_nil, ao_cons, as_assign, as_extract, i64, beq_self_eq_true, hk_some, hopG, rd, evT, lk, putT, resF, resL, List.getElem?_cons_zero, List.getElem?_cons_succ, Option.map_some, Option.bind_some, Nat.reduceSub, Nat.reduceEqDiff, and_true, and_self, eq_self, ↓reduceIte, Int.reduceNeg]
        · simp only [RO.x, RO.why, ac_ret, at_normal, at_ret, ab_ret, ae_ret, ao_nil, ao_cons, as_assign, as_extract, macL, arpA, u8A, u16A, u32A, i64, beq_self_eq_true, hk_some, hopG, rd, evT, lk, putT, resF, resL, List.getElem?_cons_zero, List.getElem?_cons_succ, List.nil_append, List.cons_append, Option.map_some, Option.bind_some, Nat.reduceSub, Nat.reduceEqDiff, and_true, and_self, eq_self, ↓reduceIte, Int.reduceNeg]
        · simp only [RO.x, RO.why, ac_ret, at_normal, at_ret, ab_ret, ae_ret, ao_nil, ao_cons, as_assign, as_extract, pktL, pktA, u8A, u16A, u32A, i64, boA, beq_self_eq_true, hk_some, hopG, rd, evT, lk, putT, resF, resL, List.getElem?_cons_zero, List.getElem?_cons_succ, Option.map_some, Option.bind_some, Nat.reduceSub, Nat.reduceEqDiff, and_true, and_self, eq_self, ↓reduceIte, Int.reduceNeg]
set_option maxRecDepth 100000 in
theorem recvOf_1 (c : CfgN) (b : List UInt8) (hl : b.length ≤ 100000) : ASpec Try.prog 105 [cfgA c, i64 1, .bs b] (.tup [(roOf c.m1 b).x, i64 (roOf c.m1 b).why]) := by
  have hL := ethP_len b
  refine ASpec.of_body TT_ok Try.mixed _ [.tmp 6, .tmp 7] ([], []) Try.func105 (by kernel_rfl) rfl rfl (by simp only [Try.ntmps105, List.length_cons, List.length_nil]; omega) rfl (by kernel_rfl) ?_
  simp only [argE_cons, argE_nil, ac_skip, ac_seq, ac_cond, ac_region, at_normal, ao_nil, ao_cons, ao_guard_t, st_at, pk_at, if_t, if_f, as_pick, as_call, as_box, as_move, as_assign, as_binOp, cfgL, cfgA, u8A, u32A, i64, fr_false, List.contains_nil, beq_self_eq_true, decide_true, decide_false, Int.reduceEq, hk_some, hopG, rd, aopsD, heapF, frzW, frzR, constT, evT, lk, putT, GV, gdst, binF, cellsF, argsF, constA, cellA, List.length_nil, List.nil_append, Option.map_some, Nat.reduceAdd, Nat.reduceSub, Nat.reduceEqDiff, Nat.reduceLeDiff, true_and, eq_self, reduceCtorEq, Bool.false_eq_true, Bool.not_true, Bool.not_false, ↓reduceIte, Int.reduceNeg, Nat.zero_add, TT3]
  refine ACall.intro (etherParse_a b hl) ?_
  cases c0 : decide ((ethP b).2 = 0)
  · rw [show roOf c.m1 b = .no 8 from if_neg (dF.1 c0)]
    simp only [c0, RO.x, RO.why, ac_ret, ac_seq, ac_block, ac_cond, ac_region, at_normal, at_ret, ab_ret, ae_ret, ao_nil, ao_cons, if_t, as_alloc, as_store, as_move, as_assign, as_binOp, as_extract, macL, frameA, u8A, u16A, i64, fr_false, List.contains_nil, beq_self_eq_true, Bool.and_self, hk_some, hopG, rd, aopsD, heapF, constT, evT, lk, putT, binF, cellsF, ovw, okCell, resF, resL, constA, cellA, Value.oneCell', List.length_cons, List.length_nil, List.getElem?_cons_zero, List.getElem?_cons_succ, List.set_cons_zero, List.set_cons_succ, List.nil_append, List.cons_append, List.all_cons, List.all_nil, Option.map_some, Option.bind_some, Nat.reduceAdd, Nat.reduceSub, Nat.reduceEqDiff, Nat.reduceLeDiff, and_true, and_self, eq_self, Bool.false_eq_true, Bool.not_false, ↓reduceIte, Int.reduceNeg, Nat.zero_add, Nat.le_refl, TT56, TT61]
  · rw [show roOf c.m1 b = roFr c.m1 (ethP b).1.1 (ethP b).1.2.2.1 (ethP b).1.2.2.2 from if_pos (dT.1 c0)]
    generalize (ethP b).1.1 = d at *
    generalize (ethP b).1.2.1 = s at *
    generalize (ethP b).1.2.2.1 = t at *
    generalize (ethP b).1.2.2.2 = l at *
    simp only [c0, ac_seq, ac_block, ac_cond, ac_region, at_normal, ao_nil, ao_cons, if_f, as_call, as_alloc, as_store, as_move, as_assign, as_binOp, as_load, as_fieldAddr, as_indexAddr, as_extract, macL, frameA, u8A, u16A, i64, fr_false, List.contains_nil, Nat.reduceBEq, beq_self_eq_true, Int.cast_ofNat_Int, Bool.and_self, hk_some, hopG, rd, aopsD, heapF, frzW, tlN, constT, evT, lk, putT, binF, loadF, cellsF, ovw, argsF, okCell, constA, cellA, TK.isAgg, Value.oneCell', List.length_cons, List.length_nil, List.getElem?_cons_zero, List.getElem?_cons_succ, List.drop_zero, List.drop_succ_cons, List.take_zero, List.take_succ_cons, List.take_nil, List.set_cons_zero, List.set_cons_succ, List.nil_append, List.cons_append, List.all_cons, List.all_nil, Option.map_some, Nat.reduceAdd, Nat.reduceMul, Nat.reduceSub, Nat.reduceEqDiff, Nat.reduceLeDiff, Nat.succ_ne_zero, ne_eq, not_false_eq_true, true_and, and_self, eq_self, reduceCtorEq, Bool.false_eq_true, Bool.not_true, ↓reduceIte, Int.reduceToNat, Int.reduceLT, Int.reduceLE, Int.reduceNeg, Nat.zero_add, Nat.add_zero, Nat.le_refl, TT29, TT30, TT37, TT56, TT61]
    refine ACall.intro (mine_a d s c.m1 t l) ?_
    cases c1 : (mEq d c.m1 || mEq d m255)
    · rw [show roFr c.m1 d t l = .no 11 from if_neg (by simp [c1])]
      simp only [RO.x, RO.why, ac_ret, ac_seq, ac_cond, ac_region, at_normal, at_ret, ab_ret, ae_ret, ao_nil, ao_cons, if_t, as_assign, as_unOp, boA, fr_false, List.contains_nil, Nat.reduceBEq, beq_self_eq_true, hk_some, hopG, rd, aopsD, constT, evT, lk, putT, unF, resF, resL, constA, cellA, Option.map_some, Option.bind_some, Nat.reduceSub, Nat.reduceEqDiff, Nat.reduceLeDiff, and_true, and_self, eq_self, Bool.false_eq_true, Bool.not_false, ↓reduceIte, Int.reduceNeg]
    · have P : roFr c.m1 d t l = if t = 2048 then if mEq d m255 = true then .no 11 else roPk l else if t = 2054 then roArp l else .no 14 := if_pos c1
      rw [P]
      simp only [ac_seq, ac_cond, ac_region, at_normal, ao_nil, ao_cons, if_f, as_assign, as_binOp, as_unOp, as_load, as_fieldAddr, boA, fr_false, List.contains_nil, Nat.reduceBEq, beq_self_eq_true, hk_some, hopG, rd, aopsD, constT, evT, lk, putT, binF, unF, loadF, constA, cellA, TK.isAgg, List.getElem?_cons_zero, List.getElem?_cons_succ, List.drop_zero, List.drop_succ_cons, Option.map_some, Nat.reduceSub, Nat.reduceEqDiff, Nat.reduceLeDiff, Nat.succ_ne_zero, ne_eq, not_false_eq_true, true_and, eq_self, Bool.false_eq_true, Bool.not_true, ↓reduceIte, Int.reduceNeg, Nat.zero_add, TT23, TT56]
      cases c2 : decide (t = 2048)
      · rw [if_neg (dF.1 c2)]
        simp only [ac_seq, ac_cond, ac_region, at_normal, ao_nil, ao_cons, if_f, as_assign, as_binOp, as_load, as_fieldAddr, fr_false, List.contains_nil, beq_self_eq_true, hk_some, hopG, rd, aopsD, constT, evT, lk, putT, binF, loadF, constA, cellA, TK.isAgg, List.getElem?_cons_zero, List.getElem?_cons_succ, List.drop_zero, List.drop_succ_cons, Option.map_some, Nat.reduceSub, Nat.reduceEqDiff, Nat.reduceLeDiff, Nat.succ_ne_zero, ne_eq, not_false_eq_true, true_and, eq_self, Bool.false_eq_true, ↓reduceIte, Int.reduceNeg, Nat.zero_add, TT23, TT56]
        cases c3 : decide (t = 2054)
        · rw [if_neg (dF.1 c3)]
          simp only [RO.x, RO.why, ac_ret, ac_seq, ac_region, at_normal, at_ret, ab_ret, ae_ret, ao_nil, ao_cons, if_t, as_assign, fr_false, List.contains_nil, beq_self_eq_true, rd, aopsD, constT, evT, lk, putT, resF, resL, constA, cellA, Option.map_some, Option.bind_some, Nat.reduceSub, Nat.reduceEqDiff, Nat.reduceLeDiff, and_true, and_self, eq_self, Bool.false_eq_true, Bool.not_false, ↓reduceIte, Int.reduceNeg]
        · rw [if_pos (dT.1 c3)]
          simp only [ac_skip, ac_seq, ac_region, at_normal, ab_normal, ao_cons, if_f, as_call, as_load, as_fieldAddr, fr_false, List.contains_nil, beq_self_eq_true, hk_some, hopG, rd, aopsD, frzW, frzR, evT, lk, putT, loadF, argsF, TK.isAgg, List.getElem?_cons_zero, List.getElem?_cons_succ, List.drop_zero, List.drop_succ_cons, Option.map_some, Nat.reduceSub, Nat.reduceEqDiff, Nat.reduceLeDiff, Nat.succ_ne_zero, ne_eq, not_false_eq_true, true_and, eq_self, Bool.false_eq_true, Bool.not_true, ↓reduceIte, Int.reduceNeg, Nat.zero_add, TT38, TT56]
          by_cases hn : l.length < 28
          · rw [show roArp l = .no 9 from if_pos hn]
            refine ACall.intro (arpParse_s l hn) ?_
            simp only [RO.x, RO.why, ac_ret, ac_seq, ac_cond, ac_region, at_normal, at_ret, ae_ret, ao_nil, ao_cons, if_t, as_alloc, as_store, as_move, as_assign, as_binOp, as_extract, macL, arpA, u8A, u16A, u32A, i64, fr_false, List.contains_nil, beq_self_eq_true, decide_false, Bool.and_self, Int.reduceEq, hk_some, hopG, rd, aopsD, heapF, constT, evT, lk, putT, binF, cellsF, ovw, okCell, resF, resL, constA, cellA, Value.oneCell', List.length_cons, List.length_nil, List.getElem?_cons_zero, List.getElem?_cons_succ, List.set_cons_zero, List.set_cons_succ, List.nil_append, List.cons_append, List.all_cons, List.all_nil, Option.map_some, Option.bind_some, Nat.reduceAdd, Nat.reduceSub, Nat.reduceEqDiff, Nat.reduceLeDiff, and_true, and_self, eq_self, Bool.false_eq_true, Bool.not_false, ↓reduceIte, Int.reduceNeg, Nat.zero_add, Nat.le_refl, TT61, TT155]
          · rw [show roArp l = if (arpP l).2 = 0 then .arp (arpP l).1.1 (arpP l).1.2.1 (arpP l).1.2.2.1 (arpP l).1.2.2.2.1 (arpP l).1.2.2.2.2 else .no 9 from if_neg hn]
            refine ACall.intro (arpParse_a l (by omega) (by omega)) ?_
            rcases arpP_e l with c4 | c4
            · rw [if_pos c4]
              simp only [c4, RO.x, RO.why, ac_skip, ac_ret, ac_seq, ac_cond, ac_region, at_normal, ae_ret, ao_nil, ao_cons, if_f, as_alloc, as_store, as_move, as_assign, as_binOp, as_load, as_extract, macL, arpA, u8A, u16A, u32A, i64, fr_false, List.contains_nil, beq_self_eq_true, decide_true, Bool.and_self, hk_some, hopG, rd, as_makeInterface, aopsD, heapF, constT, evT, lk, putT, binF, loadF, cellsF, ovw, okCell, resF, resL, constA, cellA, TK.isAgg, Value.oneCell', List.length_cons, List.length_nil, List.getElem?_cons_zero, List.getElem?_cons_succ, List.drop_zero, List.take_succ_cons, List.take_nil, List.set_cons_zero, List.set_cons_succ, List.nil_append, List.cons_append, List.all_cons, List.all_nil, Option.map_some, Option.bind_some, Nat.reduceAdd, Nat.reduceSub, Nat.reduceEqDiff, Nat.reduceLeDiff, and_true, and_self, eq_self, Bool.false_eq_true, Bool.not_true, ↓reduceIte, Int.reduceNeg, Nat.zero_add, Nat.le_refl, TT61, TT155]
            · rw [if_neg (by omega)]
              simp only [c4, RO.x, RO.why, ac_ret, ac_seq, ac_cond, ac_region, at_normal, at_ret, ae_ret, ao_nil, ao_cons, if_t, as_alloc, as_store, as_move, as_assign, as_binOp, as_extract, macL, arpA, u8A, u16A, u32A, i64, fr_false, List.contains_nil, beq_self_eq_true, decide_false, Bool.and_self, Int.reduceEq, hk_some, hopG, rd, aopsD, heapF, constT, evT, lk, putT, binF, cellsF, ovw, okCell, resF, resL, constA, cellA, Value.oneCell', List.length_cons, List.length_nil, List.getElem?_cons_zero, List.getElem?_cons_succ, List.set_cons_zero, List.set_cons_succ, List.nil_append, List.cons_append, List.all_cons, List.all_nil, Option.map_some, Option.bind_some, Nat.reduceAdd, Nat.reduceSub, Nat.reduceEqDiff, Nat.reduceLeDiff, and_true, and_self, eq_self, Bool.false_eq_true, Bool.not_false, ↓reduceIte, Int.reduceNeg, Nat.zero_add, Nat.le_refl, TT61, TT155]
      · rw [if_pos (dT.1 c2)]
        simp only [ac_seq, ac_region, ao_cons, if_t, as_call, as_load, fr_false, List.contains_nil, beq_self_eq_true, hk_some, hopG, rd, aopsD, frzW, frzR, evT, lk, putT, loadF, argsF, TK.isAgg, List.length_cons, List.length_nil, List.getElem?_cons_zero, List.getElem?_cons_succ, List.drop_zero, List.take_succ_cons, List.take_nil, Option.map_some, Nat.reduceAdd, Nat.reduceSub, Nat.reduceEqDiff, Nat.reduceLeDiff, true_and, eq_self, Bool.false_eq_true, ↓reduceIte, Int.reduceNeg, Nat.zero_add, Nat.le_refl, TT56]
        refine ACall.intro (recvPacket_a d s t l (by omega)) ?_
        generalize (if mEq d m255 = true then RO.no 11 else roPk l) = r
        cases r
        · simp only [RO.x, RO.why, ac_ret, at_normal, at_ret, ab_ret, ae_ret, ao_nil, ao_cons, as_assign, as_extract, i64, beq_self_eq_true, hk_some, hopG, rd, evT, lk, putT, resF, resL, List.getElem?_cons_zero, List.getElem?_cons_succ, Option.map_some, Option.bind_some, Nat.reduceSub, Nat.reduceEqDiff, and_true, and_self, eq_self, ↓reduceIte, Int.reduceNeg]
        · simp only [RO.x, RO.why, ac_ret, at_normal, at_ret, ab_ret, ae_ret, ao_nil, ao_cons, as_assign, as_extract, macL, arpA, u8A, u16A, u32A, i64, beq_self_eq_true, hk_some, hopG, rd, evT, lk, putT, resF, resL, List.getElem?_cons_zero, List.getElem?_cons_succ, List.nil_append, List.cons_append, Option.map_some, Option.bind_some, Nat.reduceSub, Nat.reduceEqDiff, and_true, and_self, eq_self, ↓reduceIte, Int.reduceNeg]
        · simp only [RO.x, RO.why, ac_ret, at_normal, at_ret, ab_ret, ae_ret, ao_nil, ao_cons, as_assign, as_extract, pktL, pktA, u8A, u16A, u32A, i64, boA, beq_self_eq_true, hk_some, hopG, rd, evT, lk, putT, resF, resL, List.getElem?_cons_zero, List.getElem?_cons_succ, Option.map_some, Option.bind_some, Nat.reduceSub, Nat.reduceEqDiff, and_true, and_self, eq_self, ↓reduceIte, Int.reduceNeg]
end Go.Proofs.Ytafajmnlknmfiaa
