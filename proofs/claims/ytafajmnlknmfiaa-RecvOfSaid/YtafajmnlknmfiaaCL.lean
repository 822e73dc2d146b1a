/- Package ether and its reference. -/
import Derived.Test.YtafajmnlknmfiaaCF
import Derived.Test.YtafajmnlknmfiaaCJ
namespace Go.Proofs.Ytafajmnlknmfiaa
set_option linter.unusedSimpArgs false
set_option linter.unusedVariables false
open Go.RowKit

theorem iw1 : IntKind.i64.wrap 1 = 1 := by decide
theorem iw2 : IntKind.i64.wrap 2 = 2 := by decide
theorem iw3 : IntKind.i64.wrap 3 = 3 := by decide
theorem iw4 : IntKind.i64.wrap 4 = 4 := by decide
theorem iw5 : IntKind.i64.wrap 5 = 5 := by decide
theorem iw6 : IntKind.i64.wrap 6 = 6 := by decide
theorem macB_six (m : Nat → Int) : macB m 6 = [u8 (m 0), u8 (m 1), u8 (m 2), u8 (m 3), u8 (m 4), u8 (m 5)] := rfl
/-- A frame's bytes. -/
def ethB (d s : Nat → Int) (t : Int) (l : List UInt8) : List UInt8 := macB d 6 ++ macB s 6 ++ put16 [t] ++ l
set_option maxHeartbeats 1000000 in
set_option maxRecDepth 100000 in
theorem refMacAt_a (b : List UInt8) (n : Nat) (h : n + 6 ≤ b.length) (hb : b.length ≤ 100000) : ASpec Try.prog 194 [.bs b, i64 n] (macA (macAt b n)) := by
  have e0 : IntKind.i64.wrap (n : Int) = n := i64_in (by omega) (by omega)
  have e1 : IntKind.i64.wrap ((n : Int) + 1) = n + 1 := i64_in (by omega) (by omega)
  have e2 : IntKind.i64.wrap ((n : Int) + 2) = n + 2 := i64_in (by omega) (by omega)
  have e3 : IntKind.i64.wrap ((n : Int) + 3) = n + 3 := i64_in (by omega) (by omega)
  have e4 : IntKind.i64.wrap ((n : Int) + 4) = n + 4 := i64_in (by omega) (by omega)
  have e5 : IntKind.i64.wrap ((n : Int) + 5) = n + 5 := i64_in (by omega) (by omega)
  have t1 : ((n : Int) + 1).toNat = n + 1 := by omega
  have t2 : ((n : Int) + 2).toNat = n + 2 := by omega
  have t3 : ((n : Int) + 3).toNat = n + 3 := by omega
  have t4 : ((n : Int) + 4).toNat = n + 4 := by omega
  have t5 : ((n : Int) + 5).toNat = n + 5 := by omega
  refine ASpec.of_body TT_ok Try.mixed _ [.cell 4 29] ([], []) Try.func194 (by kernel_rfl) rfl rfl (by simp only [Try.ntmps194, List.length_cons, List.length_nil]; omega) rfl (by kernel_rfl) ?_
  simp only [argE_cons, argE_nil, ac_seq, ac_block, ac_region, ac_loop, at_normal, ao_nil, ao_cons, as_alloc, as_store, as_assign, as_build, macL, macA, u8A, i64, fr_false, List.contains_nil, beq_self_eq_true, Bool.and_self, hk_some, hopG, rd, aopsD, heapF, constT, evT, lk, putT, cellsF, ovw, fillF, buildF, partsF, okCell, constA, cellA, Value.oneCell', List.length_cons, List.length_nil, List.getElem?_cons_zero, List.getElem?_cons_succ, List.set_cons_zero, List.set_cons_succ, List.nil_append, List.cons_append, List.all_cons, List.all_nil, Option.map_some, Nat.reduceAdd, Nat.reduceSub, Nat.reduceEqDiff, Nat.reduceLeDiff, true_and, and_self, eq_self, Bool.false_eq_true, ↓reduceIte, Nat.zero_add, Nat.le_refl, TT29]
  refine .inl ⟨7, ?_⟩
  simp only [unr, Int.add_zero, Int.toNat_natCast, e0, e1, e2, e3, e4, e5, t1, t2, t3, t4, t5, iw1, iw2, iw3, iw4, iw5, iw6, ac_skip, ac_exit, ac_ret, ac_seq, ac_block, ac_cond, ac_region, at_normal, at_exit, ab_normal, ab_exit, ae_ret, ao_nil, ao_cons, if_t, if_f, as_store, as_move, as_assign, as_binOp, as_load, as_indexAddr, fr_false, fr_nil, fr_cons, List.contains_nil, beq_self_eq_true, Int.cast_ofNat_Int, decide_true, decide_false, Bool.and_self, hk_some, hopG, rd, aopsD, heapF, constT, evT, lk, putT, binF, loadF, cellsF, ovw, okCell, resF, resL, constA, cellA, TK.isAgg, Value.oneCell', List.length_cons, List.length_nil, List.getElem?_cons_zero, List.getElem?_cons_succ, List.drop_zero, List.take_succ_cons, List.take_nil, List.set_cons_zero, List.set_cons_succ, List.all_cons, List.all_nil, Option.map_some, Option.bind_some, Nat.reduceAdd, Nat.reduceSub, Nat.reduceEqDiff, Nat.reduceLeDiff, Nat.succ_ne_zero, true_and, and_true, and_self, eq_self, reduceCtorEq, Bool.false_eq_true, ↓reduceIte, Int.toNat_zero, Int.reduceToNat, Int.reduceLT, Int.reduceLE, Int.reduceAdd, Nat.mul_one, Nat.zero_add, Nat.add_zero, Nat.le_refl, TT3, TT5, TT29, TT38]
  exact ⟨by omega, by omega, by omega, by omega, by omega, by omega, by simp only [macAt, Nat.add_zero]⟩
/-- Which frame bytes are, or why none. -/
def ethP (b : List UInt8) : ((Nat → Int) × (Nat → Int) × Int × List UInt8) × Int :=
  if b.length < 14 then ((m0, m0, 0, []), 4) else if get16 b 12 < 1536 then ((m0, m0, 0, []), 3) else ((macAt b 0, macAt b 6, get16 b 12, b.drop 14), 0)
theorem macAt_take (b : List UInt8) (n i : Nat) (h : i < n) : macAt (b.take n) 0 i = macAt b 0 i := by
  simp only [macAt, List.getD, Nat.zero_add]
  rw [List.getElem?_take, if_pos h]
theorem macAt_cut (b : List UInt8) (o n i : Nat) (h : i < n) : macAt ((b.drop o).take n) 0 i = macAt b o i := by
  simp only [macAt, List.getD, Nat.zero_add]
  rw [List.getElem?_take, if_pos h, List.getElem?_drop]
set_option maxRecDepth 100000 in
theorem etherParse_a (b : List UInt8) (hl : b.length ≤ 100000) :
    ASpec Try.prog 122 [.bs b] (.tup [frameA (ethP b).1.1 (ethP b).1.2.1 (ethP b).1.2.2.1 (ethP b).1.2.2.2, i64 (ethP b).2]) := by
  have hsm : small b := by simp only [small]; omega
  have n1 := get16_bd b 12
  refine ASpec.of_body TT_ok Try.mixed _ [.cell 2 56, .tmp 3] ([], []) Try.func122 (by kernel_rfl) rfl rfl (by simp only [Try.ntmps122, List.length_cons, List.length_nil]; omega) rfl (by kernel_rfl) ?_
  simp only [argE_cons, argE_nil, ac_seq, ac_cond, ac_region, at_normal, ao_nil, ao_cons, as_alloc, as_move, as_assign, as_binOp, as_len, macL, frameA, u8A, u16A, i64, fr_false, List.contains_nil, beq_self_eq_true, hk_some, hopG, hopF, rd, aopsD, heapF, constT, evT, lk, putT, lenF, binF, constA, cellA, List.length_nil, List.nil_append, List.cons_append, Option.map_some, Nat.reduceSub, Nat.reduceLeDiff, Nat.succ_ne_zero, true_and, eq_self, Bool.false_eq_true, ↓reduceIte, Nat.zero_add, TT3, TT38, TT56]
  refine AIf.intro (fun c1 => ?_) (fun c1 => ?_)
  · simp only [c1, ac_ret, ac_seq, ac_region, at_normal, at_ret, ae_ret, ao_nil, ao_cons, as_store, as_assign, as_build, fr_false, fr_nil, fr_cons, List.contains_nil, beq_self_eq_true, Bool.and_self, hk_some, hopG, rd, aopsD, heapF, constT, evT, lk, putT, loadF, cellsF, ovw, fillF, buildF, partsF, okCell, resF, resL, constA, cellA, TK.isAgg, Value.oneCell', List.length_cons, List.length_nil, List.getElem?_cons_zero, List.drop_zero, List.take_succ_cons, List.take_nil, List.set_cons_zero, List.set_cons_succ, List.all_cons, List.all_nil, Option.map_some, Option.bind_some, Nat.reduceAdd, Nat.reduceSub, Nat.reduceEqDiff, Nat.reduceLeDiff, true_and, and_true, and_self, eq_self, Bool.false_eq_true, ↓reduceIte, Nat.zero_add, Nat.le_refl, TT56]
    rw [dT] at c1
    rw [show ethP b = ((m0, m0, 0, []), 4) from if_pos (by omega)]
    rfl
  · simp only [c1, ac_skip, ac_seq, ac_region, at_normal, ao_cons, as_call, as_move, fr_false, List.contains_nil, beq_self_eq_true, rd, aopsD, frzW, frzR, constT, evT, lk, putT, argsF, constA, cellA, Option.map_some, Nat.reduceSub, Nat.reduceLeDiff, Nat.succ_ne_zero, eq_self, Bool.false_eq_true, ↓reduceIte]
    rw [dF] at c1
    refine ACall.intro (get16_a b 12 (by omega)) ?_
    simp only [ac_seq, ac_cond, ac_region, at_normal, ao_nil, ao_cons, as_move, as_assign, as_binOp, as_extract, u16A, boA, fr_false, List.contains_nil, beq_self_eq_true, hk_some, hopG, rd, aopsD, constT, evT, lk, putT, binF, constA, cellA, List.getElem?_cons_zero, List.getElem?_cons_succ, Option.map_some, Nat.reduceSub, Nat.reduceEqDiff, Nat.reduceLeDiff, true_and, eq_self, Bool.false_eq_true, ↓reduceIte, TT23]
    refine AIf.intro (fun c2 => ?_) (fun c2 => ?_)
    · simp only [c2, ac_ret, ac_seq, ac_region, at_normal, at_ret, ae_ret, ao_nil, ao_cons, as_store, as_assign, as_build, fr_false, fr_nil, fr_cons, List.contains_nil, beq_self_eq_true, Bool.and_self, hk_some, hopG, rd, aopsD, heapF, constT, evT, lk, putT, loadF, cellsF, ovw, fillF, buildF, partsF, okCell, resF, resL, constA, cellA, TK.isAgg, Value.oneCell', List.length_cons, List.length_nil, List.getElem?_cons_zero, List.drop_zero, List.take_succ_cons, List.take_nil, List.set_cons_zero, List.set_cons_succ, List.all_cons, List.all_nil, Option.map_some, Option.bind_some, Nat.reduceAdd, Nat.reduceSub, Nat.reduceEqDiff, Nat.reduceLeDiff, true_and, and_true, and_self, eq_self, Bool.false_eq_true, ↓reduceIte, Nat.zero_add, Nat.le_refl, TT56]
      rw [dT] at c2
      rw [show ethP b = ((m0, m0, 0, []), 3) from by rw [ethP, if_neg (by omega), if_pos (by omega)]]
      rfl
    · simp only [c2, ac_skip, ac_seq, ac_region, at_normal, ao_cons, as_call, as_move, as_binOp, as_len, fr_false, List.contains_nil, beq_self_eq_true, hk_some, hopG, hopF, rd, aopsD, frzW, frzR, constT, evT, lk, putT, lenF, binF, argsF, constA, cellA, Option.map_some, Nat.reduceSub, Nat.reduceEqDiff, Nat.reduceLeDiff, Nat.succ_ne_zero, true_and, eq_self, Bool.false_eq_true, ↓reduceIte, TT3, TT38]
      rw [dF] at c2
      have hp : ethP b = ((macAt b 0, macAt b 6, get16 b 12, b.drop 14), 0) := by rw [ethP, if_neg (by omega), if_neg (by omega)]
      rw [hp]
      have e14 : IntKind.i64.wrap ((b.length : Int) - 14) = (b.length : Int) - 14 := i64_in (by omega) (by omega)
      have hc : cutB b 14 ((b.length : Int) - 14) = b.drop 14 := cutB_all b (n := 14) (by omega)
      simp only [e14]
      refine ACall.intro (cut_a b 14 _ (by omega) hsm) ?_
      simp only [hc, ac_seq, ac_region, at_normal, ao_nil, ao_cons, as_call, as_move, as_assign, as_extract, as_slice, boA, fr_false, List.contains_nil, Nat.reduceBEq, beq_self_eq_true, hk_some, hopG, rd, aopsD, frzW, tlN, constT, evT, lk, putT, bndF, cutF, argsF, constA, cellA, List.length_cons, List.length_nil, List.getElem?_cons_zero, List.getElem?_cons_succ, List.drop_zero, Option.map_some, Option.map_none, Option.bind_some, Nat.reduceAdd, Nat.reduceSub, Nat.reduceEqDiff, Nat.reduceLeDiff, Nat.succ_ne_zero, true_and, eq_self, ↓reduceIte, Int.toNat_zero, Int.reduceToNat, Int.reduceLE, Int.reduceSub, Nat.zero_add, TT38]
      refine ⟨by omega, ACall.intro (mac_a (b.take 6) (by simp; omega)) ?_⟩
      simp only [ao_cons, as_call, as_move, as_slice, macL, macA, u8A, Nat.reduceBEq, hk_some, hopG, rd, frzW, constT, evT, lk, putT, bndF, cutF, argsF, constA, cellA, Option.map_some, Option.bind_some, Nat.reduceSub, Nat.succ_ne_zero, true_and, eq_self, ↓reduceIte, Int.reduceToNat, Int.reduceLE, Int.reduceSub, TT38]
      refine ⟨by omega, ACall.intro (mac_a ((b.drop 6).take 6) (by simp; omega)) ?_⟩
      simp only [macAt_take b 6 0 (by omega), macAt_take b 6 1 (by omega), macAt_take b 6 2 (by omega), macAt_take b 6 3 (by omega), macAt_take b 6 4 (by omega), macAt_take b 6 5 (by omega), macAt_cut b 6 6 0 (by omega), macAt_cut b 6 6 1 (by omega), macAt_cut b 6 6 2 (by omega), macAt_cut b 6 6 3 (by omega), macAt_cut b 6 6 4 (by omega), macAt_cut b 6 6 5 (by omega), ac_ret, at_normal, ae_ret, ao_nil, ao_cons, as_store, as_move, as_assign, as_build, macL, macA, u8A, fr_nil, fr_cons, Nat.reduceBEq, Bool.and_self, hk_some, hopG, rd, heapF, constT, evT, lk, putT, loadF, cellsF, ovw, fillF, buildF, partsF, okCell, resF, resL, constA, cellA, TK.isAgg, Value.oneCell', List.length_cons, List.length_nil, List.getElem?_cons_zero, List.getElem?_cons_succ, List.drop_zero, List.take_succ_cons, List.take_nil, List.set_cons_zero, List.set_cons_succ, List.all_cons, List.all_nil, Option.map_some, Option.bind_some, Nat.reduceAdd, Nat.reduceSub, Nat.reduceEqDiff, Nat.reduceLeDiff, and_true, and_self, eq_self, ↓reduceIte, Nat.zero_add, Nat.le_refl, TT56]
theorem get_b12 (b : List UInt8) (h : 14 ≤ b.length) : (num ((b.drop 12).take 2) : Int) % 65536 = get16 b 12 := by
  have hb : thereB b.length 12 2 = true := thereB_iff.2 (by omega)
  rw [get16, if_pos hb]
  rfl
set_option maxRecDepth 100000 in
theorem refParse04_a (b : List UInt8) (hl : b.length ≤ 100000) :
    ASpec Try.prog 168 [.bs b] (.tup [frameA (ethP b).1.1 (ethP b).1.2.1 (ethP b).1.2.2.1 (ethP b).1.2.2.2, i64 (ethP b).2]) := by
  have hsm : small b := by simp only [small]; omega
  have n1 := get16_bd b 12
  refine ASpec.of_body TT_ok Try.mixed _ [.cell 2 56, .tmp 3] ([], []) Try.func168 (by kernel_rfl) rfl rfl (by simp only [Try.ntmps168, List.length_cons, List.length_nil]; omega) rfl (by kernel_rfl) ?_
  simp only [argE_cons, argE_nil, ac_seq, ac_cond, ac_region, at_normal, ao_nil, ao_cons, as_alloc, as_move, as_assign, as_binOp, as_len, macL, frameA, u8A, u16A, i64, fr_false, List.contains_nil, beq_self_eq_true, hk_some, hopG, hopF, rd, aopsD, heapF, constT, evT, lk, putT, lenF, binF, constA, cellA, List.length_nil, List.nil_append, List.cons_append, Option.map_some, Nat.reduceSub, Nat.reduceLeDiff, Nat.succ_ne_zero, true_and, eq_self, Bool.false_eq_true, ↓reduceIte, Nat.zero_add, TT3, TT38, TT56]
  refine AIf.intro (fun c1 => ?_) (fun c1 => ?_)
  · simp only [c1, ac_ret, ac_seq, ac_region, at_normal, at_ret, ae_ret, ao_nil, ao_cons, as_store, as_assign, as_build, fr_false, fr_nil, fr_cons, List.contains_nil, beq_self_eq_true, Bool.and_self, hk_some, hopG, rd, aopsD, heapF, constT, evT, lk, putT, loadF, cellsF, ovw, fillF, buildF, partsF, okCell, resF, resL, constA, cellA, TK.isAgg, Value.oneCell', List.length_cons, List.length_nil, List.getElem?_cons_zero, List.drop_zero, List.take_succ_cons, List.take_nil, List.set_cons_zero, List.set_cons_succ, List.all_cons, List.all_nil, Option.map_some, Option.bind_some, Nat.reduceAdd, Nat.reduceSub, Nat.reduceEqDiff, Nat.reduceLeDiff, true_and, and_true, and_self, eq_self, Bool.false_eq_true, ↓reduceIte, Nat.zero_add, Nat.le_refl, TT56]
    rw [dT] at c1
    rw [show ethP b = ((m0, m0, 0, []), 4) from if_pos (by omega)]
    rfl
  · simp only [c1, ac_skip, ac_seq, ac_region, at_normal, ao_cons, as_call, as_move, fr_false, List.contains_nil, beq_self_eq_true, rd, aopsD, frzW, frzR, constT, evT, lk, putT, argsF, constA, cellA, Option.map_some, Nat.reduceSub, Nat.reduceLeDiff, Nat.succ_ne_zero, eq_self, Bool.false_eq_true, ↓reduceIte]
    rw [dF] at c1
    have hg := refGet_a b 12 2 (by omega) (by omega)
    have hv : (if thereB b.length 12 ((2 : Nat) : Int) then (num ((b.drop (12 : Int).toNat).take 2) : Int) else 0) = get16 b 12 := by
      have hb : thereB b.length 12 ((2 : Nat) : Int) = true := thereB_iff.2 (by omega)
      rw [if_pos hb, ← get_b12 b (by omega)]
      have := (split16 (l := b) (n := 12) (by omega)).2
      show (num ((b.drop 12).take 2) : Int) = _
      exact (Int.emod_eq_of_lt (by omega) (by omega)).symm
    rw [hv] at hg
    refine ACall.intro hg ?_
    simp only [ac_seq, ac_cond, ac_region, at_normal, ao_nil, ao_cons, as_move, as_assign, as_binOp, as_extract, u32A, boA, fr_false, List.contains_nil, beq_self_eq_true, Int.cast_ofNat_Int, hk_some, hopG, rd, aopsD, constT, evT, lk, putT, binF, constA, cellA, List.getElem?_cons_zero, List.getElem?_cons_succ, Option.map_some, Nat.reduceSub, Nat.reduceEqDiff, Nat.reduceLeDiff, true_and, eq_self, Bool.false_eq_true, ↓reduceIte, TT22]
    refine AIf.intro (fun c2 => ?_) (fun c2 => ?_)
    · simp only [c2, ac_ret, ac_seq, ac_region, at_normal, at_ret, ae_ret, ao_nil, ao_cons, as_store, as_assign, as_build, fr_false, fr_nil, fr_cons, List.contains_nil, beq_self_eq_true, Bool.and_self, hk_some, hopG, rd, aopsD, heapF, constT, evT, lk, putT, loadF, cellsF, ovw, fillF, buildF, partsF, okCell, resF, resL, constA, cellA, TK.isAgg, Value.oneCell', List.length_cons, List.length_nil, List.getElem?_cons_zero, List.drop_zero, List.take_succ_cons, List.take_nil, List.set_cons_zero, List.set_cons_succ, List.all_cons, List.all_nil, Option.map_some, Option.bind_some, Nat.reduceAdd, Nat.reduceSub, Nat.reduceEqDiff, Nat.reduceLeDiff, true_and, and_true, and_self, eq_self, Bool.false_eq_true, ↓reduceIte, Nat.zero_add, Nat.le_refl, TT56]
      rw [dT] at c2
      rw [show ethP b = ((m0, m0, 0, []), 3) from by rw [ethP, if_neg (by omega), if_pos (by omega)]]
      rfl
    · simp only [c2, ac_skip, ac_seq, ac_region, at_normal, ao_cons, as_call, as_move, as_binOp, as_len, fr_false, List.contains_nil, beq_self_eq_true, hk_some, hopG, hopF, rd, aopsD, frzW, frzR, constT, evT, lk, putT, lenF, binF, argsF, constA, cellA, Option.map_some, Nat.reduceSub, Nat.reduceEqDiff, Nat.reduceLeDiff, Nat.succ_ne_zero, true_and, eq_self, Bool.false_eq_true, ↓reduceIte, TT3, TT38]
      rw [dF] at c2
      have hp : ethP b = ((macAt b 0, macAt b 6, get16 b 12, b.drop 14), 0) := by rw [ethP, if_neg (by omega), if_neg (by omega)]
      rw [hp]
      have e14 : IntKind.i64.wrap ((b.length : Int) - 14) = (b.length : Int) - 14 := i64_in (by omega) (by omega)
      have e16 : IntKind.u16.wrap (get16 b 12) = get16 b 12 := u16_in (by omega) (by omega)
      have hc : cutB b 14 ((b.length : Int) - 14) = b.drop 14 := cutB_all b (n := 14) (by omega)
      simp only [e14]
      refine ACall.intro (refCut_a b 14 _ (by omega) hsm) ?_
      simp only [hc, ac_seq, ac_region, at_normal, ao_nil, ao_cons, as_call, as_move, as_assign, as_extract, boA, fr_false, List.contains_nil, beq_self_eq_true, hk_some, hopG, rd, aopsD, frzW, frzR, constT, evT, lk, putT, argsF, constA, cellA, List.getElem?_cons_zero, List.getElem?_cons_succ, Option.map_some, Nat.reduceSub, Nat.reduceEqDiff, Nat.reduceLeDiff, Nat.succ_ne_zero, true_and, eq_self, Bool.false_eq_true, ↓reduceIte]
      refine ACall.intro (refMacAt_a b 0 (by omega) hl) ?_
      simp only [ao_cons, as_call, as_move, macL, macA, u8A, beq_self_eq_true, rd, frzW, frzR, constT, evT, lk, putT, argsF, constA, cellA, Option.map_some, Nat.reduceSub, Nat.succ_ne_zero, eq_self, ↓reduceIte]
      refine ACall.intro (refMacAt_a b 6 (by omega) hl) ?_
      simp only [e16, ac_ret, at_normal, ae_ret, ao_nil, ao_cons, as_store, as_move, as_assign, as_convert, as_build, macL, macA, u8A, fr_nil, fr_cons, beq_self_eq_true, Bool.and_self, hk_some, hopG, rd, heapF, constT, evT, lk, putT, convF, loadF, cellsF, ovw, fillF, buildF, partsF, okCell, resF, resL, constA, cellA, TK.isAgg, Value.oneCell', List.length_cons, List.length_nil, List.getElem?_cons_zero, List.getElem?_cons_succ, List.drop_zero, List.take_succ_cons, List.take_nil, List.set_cons_zero, List.set_cons_succ, List.all_cons, List.all_nil, Option.map_some, Option.bind_some, Nat.reduceAdd, Nat.reduceSub, Nat.reduceEqDiff, Nat.reduceLeDiff, and_true, and_self, eq_self, ↓reduceIte, Nat.zero_add, Nat.le_refl, TT22, TT23, TT56]
theorem mEq_of {a b : Nat → Int} (h : ∀ i, i < 6 → a i = b i) : mEq a b = true := by
  simp [mEq, h 0 (by omega), h 1 (by omega), h 2 (by omega), h 3 (by omega), h 4 (by omega), h 5 (by omega)]
theorem mEq_self (a : Nat → Int) : mEq a a = true := mEq_of fun _ _ => rfl
theorem u8_of (x : UInt8) : u8 (x.toNat : Int) = x := UInt8.toNat_inj.1 (by
  have := u8_toNat (x.toNat : Int)
  have := x.toNat_lt
  omega)
theorem macB_at (b : List UInt8) (o : Nat) (h : o + 6 ≤ b.length) : macB (macAt b o) 6 = (b.drop o).take 6 := by
  apply List.ext_getElem
  · simp [macB]; omega
  · intro i h1 h2
    have hi : o + i < b.length := by simp at h2; omega
    simp [macB, macAt, List.getD, hi, u8_of]
theorem macAt_B (a : List UInt8) (m : Nat → Int) (b : List UInt8) (hm : macOk m) (i : Nat) (hi : i < 6) : macAt (a ++ (macB m 6 ++ b)) a.length i = m i := by
  have hl : i < (macB m 6).length := by simpa [macB] using hi
  have : (a ++ (macB m 6 ++ b)).getD (a.length + i) 0 = u8 (m i) := by
    simp only [List.getD]
    rw [List.getElem?_append_right (by omega), Nat.add_sub_cancel_left, List.getElem?_append_left hl]
    simp [macB, hi]
  simp only [macAt, this]
  have := u8_toNat (m i)
  have := hm i hi
  omega
theorem ethB_P (b : List UInt8) (h : 14 ≤ b.length) : ethB (macAt b 0) (macAt b 6) (get16 b 12) (b.drop 14) = b := by
  have h1 := (split16 (l := b) (n := 12) (by omega))
  have e : (num ((b.drop 12).take 2) : Int) = get16 b 12 := by
    rw [← get_b12 b h]
    exact (Int.emod_eq_of_lt (by omega) (by omega)).symm
  rw [ethB, macB_at b 0 (by omega), macB_at b 6 (by omega), ← e, List.append_assoc]
  conv => rhs; rw [h1.1]
  congr 1
  rw [List.drop_zero, show 12 = 6 + 6 from rfl, List.take_add]
theorem ethB_len (d s : Nat → Int) (t : Int) (l : List UInt8) : (ethB d s t l).length = 14 + l.length := by simp [ethB, macB, length_put16]; omega
set_option maxRecDepth 100000 in
theorem lives04_a : ASpec Try.prog 46 [] (boA true) := by
  refine ASpec.of_body TT_ok Try.mixed _ [.tmp 0] ([], []) Try.func46 (by kernel_rfl) rfl rfl (by simp only [Try.ntmps46, List.length_nil]; omega) rfl (by kernel_rfl) ?_
  simp only [argE_nil, ac_seq, ac_region, at_normal, ao_nil, ao_cons, as_call, as_assign, as_buildSlice, boA, fr_false, List.contains_nil, beq_self_eq_true, hk_some, hopG, rd, aopsD, frzW, frzR, constT, evT, lk, putT, cellsF, ovw, fillF, bytesOf, makeSF, partsF, argsF, constA, cellA, Value.oneCell', List.length_cons, List.length_nil, List.set_cons_zero, List.set_cons_succ, List.nil_append, List.cons_append, List.replicate_succ, List.replicate_zero, List.flatten_cons, List.flatten_nil, List.append_nil, Option.map_some, Nat.reduceAdd, Nat.reduceSub, Nat.reduceLeDiff, true_and, and_self, eq_self, Bool.false_eq_true, ↓reduceIte, Int.reduceLE, Nat.mul_one, Nat.zero_add, Nat.le_refl, TT5, TT38]
  refine ACall.intro (etherParse_a [u8 1, u8 2, u8 3, u8 4, u8 5, u8 6, u8 2, u8 0, u8 0, u8 0, u8 0, u8 1, u8 8, u8 6, u8 9] (by simp)) ?_
  have h1 : (ethP [u8 1, u8 2, u8 3, u8 4, u8 5, u8 6, u8 2, u8 0, u8 0, u8 0, u8 0, u8 1, u8 8, u8 6, u8 9]) = ((macAt [u8 1, u8 2, u8 3, u8 4, u8 5, u8 6, u8 2, u8 0, u8 0, u8 0, u8 0, u8 1, u8 8, u8 6, u8 9] 0, macAt [u8 1, u8 2, u8 3, u8 4, u8 5, u8 6, u8 2, u8 0, u8 0, u8 0, u8 0, u8 1, u8 8, u8 6, u8 9] 6, 2054, [u8 9]), 0) := by
    rw [ethP, show get16 [u8 1, u8 2, u8 3, u8 4, u8 5, u8 6, u8 2, u8 0, u8 0, u8 0, u8 0, u8 1, u8 8, u8 6, u8 9] 12 = 2054 by decide]
    rfl
  have h2 : macAt [u8 1, u8 2, u8 3, u8 4, u8 5, u8 6, u8 2, u8 0, u8 0, u8 0, u8 0, u8 1, u8 8, u8 6, u8 9] 6 5 = 1 := by decide
  simp only [h1, h2, ac_ret, ac_seq, ac_region, at_normal, ae_ret, ao_nil, ao_cons, ao_guard_t, st_at, pk_at, if_t, as_pick, as_alloc, as_store, as_move, as_assign, as_binOp, as_load, as_fieldAddr, as_indexAddr, as_extract, as_len, macL, frameA, u8A, u16A, i64, fr_false, List.contains_nil, beq_self_eq_true, Int.cast_ofNat_Int, decide_true, Bool.and_self, hk_some, hopG, hopF, rd, aopsD, heapF, constT, evT, lk, putT, GV, gdst, lenF, binF, loadF, cellsF, ovw, okCell, resF, resL, constA, cellA, TK.isAgg, Value.oneCell', List.length_cons, List.length_nil, List.getElem?_cons_zero, List.getElem?_cons_succ, List.drop_zero, List.drop_succ_cons, List.set_cons_zero, List.set_cons_succ, List.nil_append, List.cons_append, List.all_cons, List.all_nil, Option.map_some, Option.bind_some, Nat.reduceAdd, Nat.reduceSub, Nat.reduceEqDiff, Nat.reduceLeDiff, Nat.succ_ne_zero, ne_eq, not_false_eq_true, and_true, and_self, eq_self, Bool.false_eq_true, ↓reduceIte, Int.reduceToNat, Int.reduceLT, Int.reduceLE, Nat.mul_one, Nat.zero_add, Nat.le_refl, TT3, TT5, TT23, TT29, TT38, TT56, TT61]
theorem get16_put (a b : List UInt8) (s : Int) (hs : 0 ≤ s ∧ s ≤ 65535) : get16 (a ++ (put16 [s] ++ b)) a.length = s := by
  have hb : thereB (a ++ (put16 [s] ++ b)).length a.length 2 = true := thereB_iff.2 (by simp [length_put16]; omega)
  rw [get16, if_pos hb, Int.toNat_natCast, List.drop_left, List.take_left' (by simp [length_put16])]
  have q1 := u8_toNat (s / 256)
  have q2 := u8_toNat s
  simp only [put16, num_two]
  omega
theorem ethP_B (d s : Nat → Int) (t : Int) (l : List UInt8) (ht : 0 ≤ t ∧ t ≤ 65535) : ethP (ethB d s t l) = if t < 1536 then ((m0, m0, 0, []), 3) else ((macAt (ethB d s t l) 0, macAt (ethB d s t l) 6, t, l), 0) := by
  have hl := ethB_len d s t l
  have g : get16 (ethB d s t l) 12 = t := by
    have := get16_put (macB d 6 ++ macB s 6) l t ht
    rw [ethB, List.append_assoc]
    simpa [macB] using this
  have hd : (ethB d s t l).drop 14 = l := by
    rw [ethB, List.drop_left' (by simp [macB, length_put16])]
  rw [ethP, if_neg (by omega), g, hd]
theorem ethB_d (d s : Nat → Int) (t : Int) (l : List UInt8) (hd : macOk d) : mEq (macAt (ethB d s t l) 0) d = true := mEq_of fun i hi => by
  have := macAt_B [] d (macB s 6 ++ (put16 [t] ++ l)) hd i hi
  rw [← this]
  simp [ethB]
theorem ethB_s (d s : Nat → Int) (t : Int) (l : List UInt8) (hs : macOk s) : mEq (macAt (ethB d s t l) 6) s = true := mEq_of fun i hi => by
  have := macAt_B (macB d 6) s (put16 [t] ++ l) hs i hi
  rw [← this]
  simp [ethB, macB]
end Go.Proofs.Ytafajmnlknmfiaa
