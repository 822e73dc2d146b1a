/- Package arp and its reference. -/
import Derived.Test.YtafajmnlknmfiaaCL
namespace Go.Proofs.Ytafajmnlknmfiaa
set_option linter.unusedSimpArgs false
set_option linter.unusedVariables false
open Go.RowKit

def arp0 : List UInt8 := [u8 0, u8 1, u8 8, u8 0, u8 6, u8 4]
/-- A packet's bytes. -/
def arpB (o : Int) (s : Nat → Int) (x : Int) (d : Nat → Int) (y : Int) : List UInt8 := arp0 ++ put16 [o] ++ macB s 6 ++ put32 [x] ++ macB d 6 ++ put32 [y]
set_option maxRecDepth 100000 in
theorem arpFirst_a : ASpec Try.prog 193 [] (.bs arp0) := by
  refine ASpec.of_body TT_ok Try.mixed _ [.tmp 0] ([], []) Try.func193 (by kernel_rfl) rfl rfl (by simp only [Try.ntmps193, List.length_nil]; omega) rfl (by kernel_rfl) ?_
  simp only [argE_nil, ac_ret, ac_seq, ac_region, at_normal, ae_ret, ao_nil, ao_cons, as_assign, as_buildSlice, fr_false, List.contains_nil, beq_self_eq_true, hk_some, hopG, rd, aopsD, constT, evT, lk, putT, cellsF, ovw, fillF, bytesOf, makeSF, partsF, resF, resL, constA, cellA, Value.oneCell', List.length_cons, List.length_nil, List.set_cons_zero, List.set_cons_succ, List.nil_append, List.cons_append, List.replicate_succ, List.replicate_zero, List.flatten_cons, List.flatten_nil, List.append_nil, Option.map_some, Option.bind_some, Nat.reduceAdd, Nat.reduceSub, Nat.reduceLeDiff, true_and, and_true, and_self, eq_self, Bool.false_eq_true, ↓reduceIte, Int.reduceLE, Nat.mul_one, Nat.zero_add, Nat.le_refl, TT5, TT38]
  rfl
set_option maxRecDepth 100000 in
theorem arpMac_a (b : List UInt8) (n : Nat) (h : n + 6 ≤ b.length) (hb : b.length ≤ 100000) : ASpec Try.prog 192 [.bs b, i64 n] (macA (macAt b n)) := by
  have e : (b.drop n).take (b.length - n) = b.drop n := List.take_of_length_le (by simp)
  have t1 : ((b.length : Int) - n).toNat = b.length - n := by omega
  have g : ∀ i, (b.drop n).getD i 0 = b.getD (n + i) 0 := by intro i; simp [List.getD]
  refine ASpec.of_body TT_ok Try.mixed _ [.cell 4 29] ([], []) Try.func192 (by kernel_rfl) rfl rfl (by simp only [Try.ntmps192, List.length_cons, List.length_nil]; omega) rfl (by kernel_rfl) ?_
  simp only [t1, Int.toNat_natCast, e, g, macAt, List.length_drop, argE_cons, argE_nil, ac_ret, ac_seq, ac_region, at_normal, ae_ret, ao_nil, ao_cons, as_alloc, as_store, as_move, as_load, as_slice, as_copy, bytesAt, macL, macA, u8A, i64, fr_false, fr_nil, fr_cons, List.contains_nil, Nat.reduceBEq, beq_self_eq_true, Int.cast_ofNat_Int, Bool.and_self, hk_some, hopG, rd, aopsD, heapF, tlN, constT, evT, lk, putT, loadF, cellsF, ovw, bndF, cutF, okCell, resF, resL, constA, cellA, TK.isAgg, Value.oneCell', List.length_cons, List.length_nil, List.getElem?_cons_zero, List.getElem?_cons_succ, List.drop_zero, List.take_succ_cons, List.take_nil, List.set_cons_zero, List.set_cons_succ, List.nil_append, List.cons_append, List.all_cons, List.all_nil, Option.map_some, Option.map_none, Option.bind_some, Nat.reduceAdd, Nat.reduceSub, Nat.reduceEqDiff, Nat.reduceLeDiff, Nat.succ_ne_zero, true_and, and_true, and_self, eq_self, reduceCtorEq, Bool.false_eq_true, ↓reduceIte, Nat.zero_add, Nat.add_zero, Nat.le_refl, TT29, TT38]
  exact ⟨by omega, by omega⟩
set_option maxRecDepth 100000 in
theorem refPut05_a (o : Int) (s : Nat → Int) (x : Int) (d : Nat → Int) (y : Int) (ho : 0 ≤ o ∧ o ≤ 65535) (hs : macOk s) (hx : 0 ≤ x ∧ x ≤ 4294967295) (hd : macOk d) (hy : 0 ≤ y ∧ y ≤ 4294967295) : ASpec Try.prog 195 [arpA o s x d y] (.bs (arpB o s x d y)) := by
  refine ASpec.of_body TT_ok Try.mixed _ [.tmp 2] ([], []) Try.func195 (by kernel_rfl) rfl rfl (by simp only [Try.ntmps195, List.length_cons, List.length_nil]; omega) rfl (by kernel_rfl) ?_
  simp only [u8bd, u8w, u8m, tdivN (a := o) (b := 256) (by omega), tmodN (a := o) (b := 256) (by omega), u16_in (n := o / 256) (by omega) (by omega), argE_cons, argE_nil, ac_seq, ac_region, at_normal, ao_nil, ao_cons, as_call, as_box, as_move, as_assign, as_binOp, as_convert, as_load, as_fieldAddr, as_buildSlice, macL, arpA, u8A, u16A, u32A, fr_false, List.contains_nil, Nat.reduceBEq, beq_self_eq_true, Int.reduceEq, hk_some, hopG, rd, aopsD, heapF, frzW, tlN, constT, evT, lk, putT, binF, convF, loadF, cellsF, ovw, fillF, bytesOf, makeSF, partsF, argsF, constA, cellA, TK.isAgg, Value.oneCell', List.length_cons, List.length_nil, List.getElem?_cons_zero, List.getElem?_cons_succ, List.drop_zero, List.drop_succ_cons, List.take_zero, List.take_succ_cons, List.set_cons_zero, List.set_cons_succ, List.nil_append, List.cons_append, List.replicate_succ, List.replicate_zero, List.flatten_cons, List.flatten_nil, List.append_nil, Option.map_some, Nat.reduceAdd, Nat.reduceSub, Nat.reduceEqDiff, Nat.reduceLeDiff, Nat.succ_ne_zero, ne_eq, not_false_eq_true, true_and, and_self, eq_self, Bool.false_eq_true, ↓reduceIte, Int.reduceLE, Nat.mul_one, Nat.zero_add, Nat.add_zero, Nat.le_refl, TT5, TT23, TT29, TT38, TT155]
  refine ACall.intro (refMac_a s hs) ?_
  simp only [ao_cons, as_call, as_load, as_fieldAddr, Nat.reduceBEq, hk_some, hopG, rd, frzW, constT, evT, lk, putT, loadF, argsF, constA, cellA, TK.isAgg, List.getElem?_cons_zero, List.getElem?_cons_succ, List.drop_zero, List.drop_succ_cons, Option.map_some, Nat.reduceSub, Nat.reduceEqDiff, Nat.succ_ne_zero, ne_eq, not_false_eq_true, true_and, eq_self, Bool.false_eq_true, ↓reduceIte, Nat.zero_add, TT22, TT155]
  refine ACall.intro (refPut_a x 4 hx (by omega)) ?_
  simp only [lowB_four, ao_cons, as_call, Nat.reduceBEq, rd, frzW, evT, lk, putT, argsF, Option.map_some, Nat.reduceSub, Nat.reduceEqDiff, eq_self, ↓reduceIte]
  refine ACall.intro (add_a (macB s 6) (put32 [x]) (by simp [macB, length_put32])) ?_
  simp only [ao_cons, as_call, Nat.reduceBEq, rd, frzW, evT, lk, putT, argsF, Option.map_some, Nat.reduceSub, Nat.reduceEqDiff, eq_self, ↓reduceIte]
  refine ACall.intro (add_a [u8 0, u8 1, u8 8, u8 0, u8 6, u8 4, u8 (o / 256), u8 o] (macB s 6 ++ put32 [x]) (by simp [macB, length_put32])) ?_
  simp only [ac_seq, ac_region, at_normal, ao_nil, ao_cons, as_call, as_move, as_assign, as_load, as_fieldAddr, fr_false, List.contains_nil, Nat.reduceBEq, hk_some, hopG, rd, aopsD, frzW, tlN, evT, lk, putT, loadF, argsF, TK.isAgg, List.length_cons, List.length_nil, List.getElem?_cons_zero, List.getElem?_cons_succ, List.drop_zero, List.drop_succ_cons, List.take_zero, List.take_succ_cons, List.nil_append, List.cons_append, Option.map_some, Nat.reduceAdd, Nat.reduceSub, Nat.reduceEqDiff, Nat.reduceLeDiff, Nat.succ_ne_zero, ne_eq, not_false_eq_true, true_and, eq_self, ↓reduceIte, Nat.zero_add, TT29, TT155]
  refine ACall.intro (refMac_a d hd) ?_
  simp only [ao_cons, as_call, as_load, as_fieldAddr, Nat.reduceBEq, hk_some, hopG, rd, frzW, constT, evT, lk, putT, loadF, argsF, constA, cellA, TK.isAgg, List.getElem?_cons_zero, List.getElem?_cons_succ, List.drop_zero, List.drop_succ_cons, Option.map_some, Nat.reduceSub, Nat.reduceEqDiff, Nat.succ_ne_zero, ne_eq, not_false_eq_true, true_and, eq_self, Bool.false_eq_true, ↓reduceIte, Nat.zero_add, TT22, TT155]
  refine ACall.intro (refPut_a y 4 hy (by omega)) ?_
  simp only [lowB_four, ao_cons, as_call, Nat.reduceBEq, rd, frzW, evT, lk, putT, argsF, Option.map_some, Nat.reduceSub, Nat.reduceEqDiff, eq_self, ↓reduceIte]
  refine ACall.intro (add_a (macB d 6) (put32 [y]) (by simp [macB, length_put32])) ?_
  simp only [ao_cons, as_call, Nat.reduceBEq, rd, frzW, evT, lk, putT, argsF, Option.map_some, Nat.reduceSub, Nat.reduceEqDiff, eq_self, ↓reduceIte]
  refine ACall.intro (add_a ([u8 0, u8 1, u8 8, u8 0, u8 6, u8 4, u8 (o / 256), u8 o] ++ (macB s 6 ++ put32 [x])) (macB d 6 ++ put32 [y]) (by simp [macB, length_put32])) ?_
  simp only [ac_ret, at_normal, ae_ret, ao_nil, ao_cons, as_assign, Nat.reduceBEq, rd, evT, lk, putT, resF, resL, List.nil_append, List.cons_append, Option.map_some, Option.bind_some, Nat.reduceSub, true_and, and_true, eq_self, ↓reduceIte]
  simp [arpB, arp0, put16]
/-- Which packet bytes begin with, or why none. -/
def uni (m : Nat → Int) : Bool := !decide (m 0 % 2 = 1) && !mEq m m0
def arpQ (b : List UInt8) : Bool := b.take 6 == arp0 && (decide (get16 b 6 = 1) || decide (get16 b 6 = 2)) && uni (macAt b 8)
def arpP (b : List UInt8) : (Int × (Nat → Int) × Int × (Nat → Int) × Int) × Int :=
  if arpQ b then ((get16 b 6, macAt b 8, get32 b 14, macAt b 18, get32 b 24), 0) else ((0, m0, 0, m0, 0), 3)
set_option maxRecDepth 100000 in
theorem arpParse_s (b : List UInt8) (hl : b.length < 28) : ASpec Try.prog 166 [.bs b] (.tup [arpA 0 m0 0 m0 0, i64 4]) := by
  refine ASpec.of_body TT_ok Try.mixed _ [.cell 2 155, .tmp 3] ([], []) Try.func166 (by kernel_rfl) rfl rfl (by simp only [Try.ntmps166, List.length_cons, List.length_nil]; omega) rfl (by kernel_rfl) ?_
  simp only [decide_eq_true (show (b.length : Int) < 28 by omega), argE_cons, argE_nil, ac_ret, ac_seq, ac_cond, ac_region, at_normal, at_ret, ae_ret, ao_nil, ao_cons, if_t, as_alloc, as_store, as_move, as_assign, as_binOp, as_build, as_len, macL, arpA, u8A, u16A, u32A, i64, fr_false, fr_nil, fr_cons, List.contains_nil, beq_self_eq_true, Bool.and_self, hk_some, hopG, hopF, rd, aopsD, heapF, constT, evT, lk, putT, lenF, binF, loadF, cellsF, ovw, fillF, buildF, partsF, okCell, resF, resL, constA, cellA, TK.isAgg, Value.oneCell', List.length_cons, List.length_nil, List.getElem?_cons_zero, List.drop_zero, List.take_succ_cons, List.take_nil, List.set_cons_zero, List.set_cons_succ, List.nil_append, List.cons_append, List.all_cons, List.all_nil, Option.map_some, Option.bind_some, Nat.reduceAdd, Nat.reduceSub, Nat.reduceEqDiff, Nat.reduceLeDiff, Nat.succ_ne_zero, true_and, and_true, and_self, eq_self, Bool.false_eq_true, ↓reduceIte, Nat.zero_add, Nat.le_refl, TT3, TT38, TT155]
  try rfl
set_option maxRecDepth 100000 in
theorem arpParse_a (b : List UInt8) (hn : 28 ≤ b.length) (hl : b.length ≤ 100000) : ASpec Try.prog 166 [.bs b] (.tup [arpA (arpP b).1.1 (arpP b).1.2.1 (arpP b).1.2.2.1 (arpP b).1.2.2.2.1 (arpP b).1.2.2.2.2, i64 (arpP b).2]) := by
  have hm := macAt_ok b 8
  have n1 := get16_bd b 6
  refine ASpec.of_body TT_ok Try.mixed _ [.cell 2 155, .tmp 3] ([], []) Try.func166 (by kernel_rfl) rfl rfl (by simp only [Try.ntmps166, List.length_cons, List.length_nil]; omega) rfl (by kernel_rfl) ?_
  simp only [decide_eq_false (show ¬ (b.length : Int) < 28 by omega), argE_cons, argE_nil, ac_skip, ac_seq, ac_cond, ac_region, at_normal, ao_nil, ao_cons, if_f, as_call, as_alloc, as_move, as_assign, as_binOp, as_len, macL, arpA, u8A, u16A, u32A, i64, fr_false, List.contains_nil, beq_self_eq_true, hk_some, hopG, hopF, rd, aopsD, heapF, frzW, frzR, constT, evT, lk, putT, lenF, binF, argsF, constA, cellA, List.length_nil, List.nil_append, List.cons_append, Option.map_some, Nat.reduceSub, Nat.reduceLeDiff, Nat.succ_ne_zero, true_and, eq_self, Bool.false_eq_true, ↓reduceIte, Nat.zero_add, TT3, TT38, TT155]
  refine ACall.intro (arpMac_a b 8 (by omega) hl) ?_
  simp only [ao_cons, as_call, as_move, macL, macA, u8A, beq_self_eq_true, rd, frzW, frzR, constT, evT, lk, putT, argsF, constA, cellA, Option.map_some, Nat.reduceSub, Nat.succ_ne_zero, eq_self, ↓reduceIte]
  refine ACall.intro (arpMac_a b 18 (by omega) hl) ?_
  simp only [ac_seq, ac_region, at_normal, ao_nil, ao_cons, as_call, as_alloc, as_store, as_move, as_build, macL, macA, u8A, fr_false, List.contains_nil, beq_self_eq_true, Bool.and_self, hk_some, hopG, rd, aopsD, heapF, frzW, frzR, constT, evT, lk, putT, cellsF, ovw, fillF, buildF, partsF, argsF, okCell, constA, cellA, Value.oneCell', List.length_cons, List.length_nil, List.getElem?_cons_zero, List.getElem?_cons_succ, List.set_cons_zero, List.set_cons_succ, List.nil_append, List.cons_append, List.all_cons, List.all_nil, Option.map_some, Nat.reduceAdd, Nat.reduceSub, Nat.reduceEqDiff, Nat.reduceLeDiff, Nat.succ_ne_zero, true_and, and_self, eq_self, Bool.false_eq_true, ↓reduceIte, Nat.zero_add, Nat.le_refl, TT155]
  refine ACall.intro (get16_a b 6 (by omega)) ?_
  simp only [ac_seq, ac_region, at_normal, ao_nil, ao_cons, as_call, as_store, as_move, as_fieldAddr, as_extract, u16A, boA, fr_false, List.contains_nil, beq_self_eq_true, Bool.and_self, hk_some, hopG, rd, aopsD, heapF, frzW, frzR, constT, evT, lk, putT, cellsF, ovw, argsF, okCell, constA, cellA, Value.oneCell', List.length_cons, List.length_nil, List.getElem?_cons_zero, List.getElem?_cons_succ, List.set_cons_zero, List.set_cons_succ, List.all_cons, List.all_nil, Option.map_some, Nat.reduceAdd, Nat.reduceSub, Nat.reduceEqDiff, Nat.reduceLeDiff, Nat.succ_ne_zero, ne_eq, not_false_eq_true, true_and, and_self, eq_self, Bool.false_eq_true, ↓reduceIte, Nat.zero_add, Nat.add_zero, TT23, TT155]
  refine ACall.intro (get32_a b 14 (by omega)) ?_
  simp only [ac_seq, ac_region, at_normal, ao_nil, ao_cons, as_call, as_store, as_move, as_fieldAddr, as_extract, u32A, boA, fr_false, List.contains_nil, beq_self_eq_true, Bool.and_self, hk_some, hopG, rd, aopsD, heapF, frzW, frzR, constT, evT, lk, putT, cellsF, ovw, argsF, okCell, constA, cellA, Value.oneCell', List.length_cons, List.length_nil, List.getElem?_cons_zero, List.getElem?_cons_succ, List.set_cons_zero, List.set_cons_succ, List.all_cons, List.all_nil, Option.map_some, Nat.reduceAdd, Nat.reduceSub, Nat.reduceEqDiff, Nat.reduceLeDiff, Nat.succ_ne_zero, ne_eq, not_false_eq_true, true_and, and_self, eq_self, Bool.false_eq_true, ↓reduceIte, Nat.zero_add, TT22, TT155]
  refine ACall.intro (get32_a b 24 (by omega)) ?_
  simp only [ac_seq, ac_block, ac_region, at_normal, ao_nil, ao_cons, as_call, as_store, as_move, as_fieldAddr, as_extract, as_slice, u32A, boA, fr_false, List.contains_nil, Nat.reduceBEq, beq_self_eq_true, Bool.and_self, hk_some, hopG, rd, aopsD, heapF, frzW, tlN, constT, evT, lk, putT, cellsF, ovw, bndF, cutF, argsF, okCell, constA, cellA, Value.oneCell', List.length_cons, List.length_nil, List.getElem?_cons_zero, List.getElem?_cons_succ, List.drop_zero, List.set_cons_zero, List.set_cons_succ, List.all_cons, List.all_nil, Option.map_some, Option.map_none, Option.bind_some, Nat.reduceAdd, Nat.reduceSub, Nat.reduceEqDiff, Nat.reduceLeDiff, Nat.succ_ne_zero, ne_eq, not_false_eq_true, true_and, and_self, eq_self, ↓reduceIte, Int.toNat_zero, Int.reduceToNat, Int.reduceLE, Int.reduceSub, Nat.zero_add, Nat.le_refl, TT22, TT38, TT155]
  refine ⟨by omega, ACall.intro arpFirst_a ?_⟩
  simp only [ao_cons, as_call, Nat.reduceBEq, rd, frzW, evT, lk, putT, argsF, Option.map_some, Nat.reduceSub, Nat.reduceEqDiff, eq_self, ↓reduceIte]
  refine ACall.intro (same_a (b.take 6) arp0) ?_
  cases k1 : (b.take 6 == arp0)
  · have hq : arpQ b = false := by simp [arpQ, k1]
    have hp : arpP b = ((0, m0, 0, m0, 0), 3) := by rw [arpP, hq]; rfl
    rw [hp]
    simp only [ac_skip, ac_ret, ac_seq, ac_cond, ac_region, at_normal, ab_normal, ae_ret, ao_nil, ao_cons, if_t, as_store, as_assign, as_unOp, as_build, boA, fr_false, fr_nil, fr_cons, List.contains_nil, Nat.reduceBEq, beq_self_eq_true, Bool.and_self, hk_some, hopG, rd, aopsD, heapF, constT, evT, lk, putT, unF, loadF, cellsF, ovw, fillF, buildF, partsF, okCell, resF, resL, constA, cellA, TK.isAgg, Value.oneCell', List.length_cons, List.length_nil, List.getElem?_cons_zero, List.drop_zero, List.take_succ_cons, List.take_nil, List.set_cons_zero, List.set_cons_succ, List.all_cons, List.all_nil, Option.map_some, Option.bind_some, Nat.reduceAdd, Nat.reduceSub, Nat.reduceEqDiff, Nat.reduceLeDiff, true_and, and_true, and_self, eq_self, Bool.false_eq_true, Bool.not_false, ↓reduceIte, Nat.zero_add, Nat.le_refl, TT155]
    rfl
  · simp only [ac_seq, ac_cond, ac_region, at_normal, ao_nil, ao_cons, ao_guard_t, if_f, as_move, as_assign, as_binOp, as_unOp, as_load, as_fieldAddr, boA, fr_false, List.contains_nil, Nat.reduceBEq, beq_self_eq_true, hk_some, hopG, rd, aopsD, constT, evT, lk, putT, GV, gdst, binF, unF, loadF, constA, cellA, TK.isAgg, List.getElem?_cons_zero, List.getElem?_cons_succ, List.drop_zero, Option.map_some, Nat.reduceSub, Nat.reduceEqDiff, Nat.reduceLeDiff, Nat.succ_ne_zero, ne_eq, not_false_eq_true, true_and, eq_self, Bool.false_eq_true, Bool.not_true, ↓reduceIte, Nat.add_zero, TT23, TT155]
    cases k2 : decide (get16 b 6 = 1)
    · cases k3 : decide (get16 b 6 = 2)
      · have hq : arpQ b = false := by simp only [arpQ, k2, k3, Bool.or_false, Bool.and_false, Bool.false_and]
        have hp : arpP b = ((0, m0, 0, m0, 0), 3) := by rw [arpP, hq]; rfl
        rw [hp]
        simp only [k3, ac_skip, ac_ret, ac_seq, ac_cond, ac_region, at_normal, ab_normal, ae_ret, ao_nil, ao_cons, ao_guard_t, st_at, pk_at, if_t, as_pick, as_store, as_assign, as_binOp, as_load, as_fieldAddr, as_build, fr_false, fr_nil, fr_cons, List.contains_nil, beq_self_eq_true, Bool.and_self, hk_some, hopG, rd, aopsD, heapF, constT, evT, lk, putT, GV, gdst, binF, loadF, cellsF, ovw, fillF, buildF, partsF, okCell, resF, resL, constA, cellA, TK.isAgg, Value.oneCell', List.length_cons, List.length_nil, List.getElem?_cons_zero, List.getElem?_cons_succ, List.drop_zero, List.take_succ_cons, List.take_nil, List.set_cons_zero, List.set_cons_succ, List.all_cons, List.all_nil, Option.map_some, Option.bind_some, Nat.reduceAdd, Nat.reduceSub, Nat.reduceEqDiff, Nat.reduceLeDiff, Nat.succ_ne_zero, ne_eq, not_false_eq_true, true_and, and_true, and_self, eq_self, Bool.false_eq_true, Bool.not_false, ↓reduceIte, Nat.zero_add, Nat.add_zero, Nat.le_refl, TT23, TT155]
        rfl
      · simp only [k3, ac_seq, ac_cond, ac_region, at_normal, ao_nil, ao_cons, ao_guard_t, st_at, pk_at, if_t, if_f, as_pick, as_call, as_assign, as_binOp, as_load, as_fieldAddr, fr_false, List.contains_nil, beq_self_eq_true, hk_some, hopG, rd, aopsD, frzW, frzR, constT, evT, lk, putT, GV, gdst, binF, loadF, argsF, constA, cellA, TK.isAgg, List.length_cons, List.length_nil, List.getElem?_cons_zero, List.getElem?_cons_succ, List.drop_zero, List.drop_succ_cons, List.take_zero, List.take_succ_cons, Option.map_some, Nat.reduceAdd, Nat.reduceSub, Nat.reduceEqDiff, Nat.reduceLeDiff, Nat.succ_ne_zero, ne_eq, not_false_eq_true, true_and, eq_self, Bool.false_eq_true, Bool.not_true, Bool.not_false, ↓reduceIte, Nat.zero_add, Nat.add_zero, TT23, TT29, TT155]
        refine ACall.intro (unicast_a (macAt b 8) hm) ?_
        simp only [ac_cond, at_normal, ao_nil, ao_cons, as_assign, as_unOp, boA, beq_self_eq_true, hk_some, hopG, rd, evT, lk, putT, unF, Option.map_some, Nat.reduceSub, true_and, eq_self, ↓reduceIte]
        cases k4 : (!decide (macAt b 8 0 % 2 = 1) && !mEq (macAt b 8) m0)
        · have hq : arpQ b = false := by simp only [arpQ, uni, k1, k2, k3, k4, Bool.and_false]
          have hp : arpP b = ((0, m0, 0, m0, 0), 3) := by rw [arpP, hq]; rfl
          rw [hp]
          simp only [ac_skip, ac_ret, ac_seq, ac_region, at_normal, ab_normal, ae_ret, ao_nil, ao_cons, if_t, as_store, as_assign, as_build, fr_false, fr_nil, fr_cons, List.contains_nil, beq_self_eq_true, Bool.and_self, hk_some, hopG, rd, aopsD, heapF, constT, evT, lk, putT, loadF, cellsF, ovw, fillF, buildF, partsF, okCell, resF, resL, constA, cellA, TK.isAgg, Value.oneCell', List.length_cons, List.length_nil, List.getElem?_cons_zero, List.drop_zero, List.take_succ_cons, List.take_nil, List.set_cons_zero, List.set_cons_succ, List.all_cons, List.all_nil, Option.map_some, Option.bind_some, Nat.reduceAdd, Nat.reduceSub, Nat.reduceEqDiff, Nat.reduceLeDiff, true_and, and_true, and_self, eq_self, Bool.false_eq_true, Bool.not_false, ↓reduceIte, Nat.zero_add, Nat.le_refl, TT155]
          rfl
        · have hq : arpQ b = true := by simp only [arpQ, uni, k1, k2, k3, k4, Bool.or_true, Bool.and_self]
          have hp : arpP b = ((get16 b 6, macAt b 8, get32 b 14, macAt b 18, get32 b 24), 0) := by rw [arpP, hq]; rfl
          rw [hp]
          simp only [ac_ret, ac_seq, ac_region, at_normal, at_ret, ab_ret, ae_ret, ao_nil, ao_cons, if_f, as_store, as_assign, as_load, fr_false, fr_nil, fr_cons, List.contains_nil, beq_self_eq_true, Bool.and_self, hk_some, hopG, rd, aopsD, heapF, constT, evT, lk, putT, loadF, cellsF, ovw, okCell, resF, resL, constA, cellA, TK.isAgg, Value.oneCell', List.length_cons, List.length_nil, List.getElem?_cons_zero, List.getElem?_cons_succ, List.drop_zero, List.take_succ_cons, List.take_nil, List.set_cons_zero, List.set_cons_succ, List.all_cons, List.all_nil, Option.map_some, Option.bind_some, Nat.reduceAdd, Nat.reduceSub, Nat.reduceEqDiff, Nat.reduceLeDiff, and_true, and_self, eq_self, Bool.false_eq_true, Bool.not_true, ↓reduceIte, Nat.zero_add, Nat.le_refl, TT155]
    · simp only [ac_seq, ac_cond, ac_region, at_normal, ao_nil, ao_cons, ao_guard_t, sk_at, pk_at, if_f, as_pick, as_call, as_assign, as_load, as_fieldAddr, fr_false, List.contains_nil, beq_self_eq_true, hk_some, hopG, rd, aopsD, frzW, frzR, constT, evT, lk, putT, GV, gdst, loadF, argsF, constA, cellA, TK.isAgg, List.length_cons, List.length_nil, List.getElem?_cons_zero, List.getElem?_cons_succ, List.drop_zero, List.drop_succ_cons, List.take_zero, List.take_succ_cons, Option.map_some, Nat.reduceAdd, Nat.reduceSub, Nat.reduceEqDiff, Nat.reduceLeDiff, Nat.succ_ne_zero, ne_eq, not_false_eq_true, true_and, eq_self, Bool.false_eq_true, Bool.not_true, ↓reduceIte, Nat.zero_add, TT29, TT155]
      refine ACall.intro (unicast_a (macAt b 8) hm) ?_
      simp only [ac_cond, at_normal, ao_nil, ao_cons, as_assign, as_unOp, boA, beq_self_eq_true, hk_some, hopG, rd, evT, lk, putT, unF, Option.map_some, Nat.reduceSub, true_and, eq_self, ↓reduceIte]
      cases k4 : (!decide (macAt b 8 0 % 2 = 1) && !mEq (macAt b 8) m0)
      · have hq : arpQ b = false := by simp only [arpQ, uni, k1, k2, k4, Bool.and_false]
        have hp : arpP b = ((0, m0, 0, m0, 0), 3) := by rw [arpP, hq]; rfl
        rw [hp]
        simp only [ac_skip, ac_ret, ac_seq, ac_region, at_normal, ab_normal, ae_ret, ao_nil, ao_cons, if_t, as_store, as_assign, as_build, fr_false, fr_nil, fr_cons, List.contains_nil, beq_self_eq_true, Bool.and_self, hk_some, hopG, rd, aopsD, heapF, constT, evT, lk, putT, loadF, cellsF, ovw, fillF, buildF, partsF, okCell, resF, resL, constA, cellA, TK.isAgg, Value.oneCell', List.length_cons, List.length_nil, List.getElem?_cons_zero, List.drop_zero, List.take_succ_cons, List.take_nil, List.set_cons_zero, List.set_cons_succ, List.all_cons, List.all_nil, Option.map_some, Option.bind_some, Nat.reduceAdd, Nat.reduceSub, Nat.reduceEqDiff, Nat.reduceLeDiff, true_and, and_true, and_self, eq_self, Bool.false_eq_true, Bool.not_false, ↓reduceIte, Nat.zero_add, Nat.le_refl, TT155]
        rfl
      · have hq : arpQ b = true := by simp only [arpQ, uni, k1, k2, k4, Bool.true_or, Bool.and_self]
        have hp : arpP b = ((get16 b 6, macAt b 8, get32 b 14, macAt b 18, get32 b 24), 0) := by rw [arpP, hq]; rfl
        rw [hp]
        simp only [ac_ret, ac_seq, ac_region, at_normal, at_ret, ab_ret, ae_ret, ao_nil, ao_cons, if_f, as_store, as_assign, as_load, fr_false, fr_nil, fr_cons, List.contains_nil, beq_self_eq_true, Bool.and_self, hk_some, hopG, rd, aopsD, heapF, constT, evT, lk, putT, loadF, cellsF, ovw, okCell, resF, resL, constA, cellA, TK.isAgg, Value.oneCell', List.length_cons, List.length_nil, List.getElem?_cons_zero, List.getElem?_cons_succ, List.drop_zero, List.take_succ_cons, List.take_nil, List.set_cons_zero, List.set_cons_succ, List.all_cons, List.all_nil, Option.map_some, Option.bind_some, Nat.reduceAdd, Nat.reduceSub, Nat.reduceEqDiff, Nat.reduceLeDiff, and_true, and_self, eq_self, Bool.false_eq_true, Bool.not_true, ↓reduceIte, Nat.zero_add, Nat.le_refl, TT155]
theorem put16_get (b : List UInt8) (n : Nat) (h : n + 2 ≤ b.length) : put16 [get16 b n] = (b.drop n).take 2 := by
  have hb : thereB b.length n 2 = true := thereB_iff.2 (by omega)
  have h1 := split16 (l := b) (n := n) h
  have e : get16 b n = (num ((b.drop n).take 2) : Int) := by
    rw [get16, if_pos hb, Int.toNat_natCast]
    omega
  rw [e]
  have := congrArg (fun l => (l.drop n).take 2) h1.1
  exact (this.trans (by rw [List.drop_left' (by simp; omega), List.take_left' (by simp [length_put16])])).symm
theorem put32_get (b : List UInt8) (n : Nat) (h : n + 4 ≤ b.length) : put32 [get32 b n] = (b.drop n).take 4 := by
  have hb : thereB b.length n 4 = true := thereB_iff.2 (by omega)
  have e : get32 b n = (num ((b.drop n).take 4) : Int) := by
    rw [get32, if_pos hb, Int.toNat_natCast]
  rw [e]
  obtain ⟨x, y, z, u, r, e⟩ : ∃ x y z u r, b.drop n = x :: y :: z :: u :: r := by
    match hd : b.drop n with
    | [] => have := congrArg List.length hd; simp at this; omega
    | [x] => have := congrArg List.length hd; simp at this; omega
    | [x, y] => have := congrArg List.length hd; simp at this; omega
    | [x, y, z] => have := congrArg List.length hd; simp at this; omega
    | x :: y :: z :: u :: r => exact ⟨x, y, z, u, r, rfl⟩
  rw [e]
  have l1 := x.toNat_lt
  have l2 := y.toNat_lt
  have l3 := z.toNat_lt
  have l4 := u.toNat_lt
  have hn : (num [x, y, z, u] : Int) = x.toNat * 16777216 + y.toNat * 65536 + z.toNat * 256 + u.toNat := by
    simp [num]
    omega
  simp only [List.take_succ_cons, List.take_zero, put32, hn]
  have a1 := u8_toNat (((x.toNat : Int) * 16777216 + y.toNat * 65536 + z.toNat * 256 + u.toNat) / 16777216)
  have a2 := u8_toNat (((x.toNat : Int) * 16777216 + y.toNat * 65536 + z.toNat * 256 + u.toNat) / 65536)
  have a3 := u8_toNat (((x.toNat : Int) * 16777216 + y.toNat * 65536 + z.toNat * 256 + u.toNat) / 256)
  have a4 := u8_toNat ((x.toNat : Int) * 16777216 + y.toNat * 65536 + z.toNat * 256 + u.toNat)
  rw [show u8 (((x.toNat : Int) * 16777216 + y.toNat * 65536 + z.toNat * 256 + u.toNat) / 16777216) = x from UInt8.toNat_inj.1 (by omega),
    show u8 (((x.toNat : Int) * 16777216 + y.toNat * 65536 + z.toNat * 256 + u.toNat) / 65536) = y from UInt8.toNat_inj.1 (by omega),
    show u8 (((x.toNat : Int) * 16777216 + y.toNat * 65536 + z.toNat * 256 + u.toNat) / 256) = z from UInt8.toNat_inj.1 (by omega),
    show u8 ((x.toNat : Int) * 16777216 + y.toNat * 65536 + z.toNat * 256 + u.toNat) = u from UInt8.toNat_inj.1 (by omega)]
theorem get32_bd (b : List UInt8) (at_ : Int) : 0 ≤ get32 b at_ ∧ get32 b at_ ≤ 4294967295 := by
  unfold get32
  split
  · have := num_lt ((b.drop at_.toNat).take 4)
    omega
  · omega
theorem arpB_at (b : List UInt8) (h : 28 ≤ b.length) : arpB (get16 b 6) (macAt b 8) (get32 b 14) (macAt b 18) (get32 b 24) = arp0 ++ (b.drop 6).take 22 := by
  rw [arpB, show get16 b 6 = get16 b ((6 : Nat) : Int) from rfl, put16_get b 6 (by omega), macB_at b 8 (by omega), show get32 b 14 = get32 b ((14 : Nat) : Int) from rfl, put32_get b 14 (by omega), macB_at b 18 (by omega), show get32 b 24 = get32 b ((24 : Nat) : Int) from rfl, put32_get b 24 (by omega)]
  simp only [List.append_assoc]
  congr 1
  rw [show (22 : Nat) = 2 + (6 + (4 + (6 + 4))) from rfl, List.take_add, List.take_add, List.take_add, List.take_add]
  simp only [List.drop_drop]
theorem arpB_same (b : List UInt8) (h : 28 ≤ b.length) : (arpB (get16 b 6) (macAt b 8) (get32 b 14) (macAt b 18) (get32 b 24) == b.take 28) = (b.take 6 == arp0) := by
  rw [arpB_at b h, show b.take 28 = b.take 6 ++ (b.drop 6).take 22 by rw [show (28 : Nat) = 6 + 22 from rfl, List.take_add], Bool.eq_iff_iff]
  simp only [beq_iff_eq]
  constructor
  · intro e
    exact (List.append_inj e (by simp [arp0]; omega)).1.symm
  · intro e
    rw [e]
set_option maxRecDepth 100000 in
theorem refParse05_s (b : List UInt8) (hl : b.length < 28) : ASpec Try.prog 169 [.bs b] (.tup [arpA 0 m0 0 m0 0, i64 4]) := by
  refine ASpec.of_body TT_ok Try.mixed _ [.cell 2 155, .tmp 3] ([], []) Try.func169 (by kernel_rfl) rfl rfl (by simp only [Try.ntmps169, List.length_cons, List.length_nil]; omega) rfl (by kernel_rfl) ?_
  simp only [decide_eq_true (show (b.length : Int) < 28 by omega), argE_cons, argE_nil, ac_ret, ac_seq, ac_cond, ac_region, at_normal, at_ret, ae_ret, ao_nil, ao_cons, if_t, as_alloc, as_store, as_move, as_assign, as_binOp, as_build, as_len, macL, arpA, u8A, u16A, u32A, i64, fr_false, fr_nil, fr_cons, List.contains_nil, beq_self_eq_true, Bool.and_self, hk_some, hopG, hopF, rd, aopsD, heapF, constT, evT, lk, putT, lenF, binF, loadF, cellsF, ovw, fillF, buildF, partsF, okCell, resF, resL, constA, cellA, TK.isAgg, Value.oneCell', List.length_cons, List.length_nil, List.getElem?_cons_zero, List.drop_zero, List.take_succ_cons, List.take_nil, List.set_cons_zero, List.set_cons_succ, List.nil_append, List.cons_append, List.all_cons, List.all_nil, Option.map_some, Option.bind_some, Nat.reduceAdd, Nat.reduceSub, Nat.reduceEqDiff, Nat.reduceLeDiff, Nat.succ_ne_zero, true_and, and_true, and_self, eq_self, Bool.false_eq_true, ↓reduceIte, Nat.zero_add, Nat.le_refl, TT3, TT38, TT155]
  try rfl
set_option maxHeartbeats 1000000 in
set_option maxRecDepth 100000 in
theorem refParse05_a (b : List UInt8) (hn : 28 ≤ b.length) (hl : b.length ≤ 100000) : ASpec Try.prog 169 [.bs b] (.tup [arpA (arpP b).1.1 (arpP b).1.2.1 (arpP b).1.2.2.1 (arpP b).1.2.2.2.1 (arpP b).1.2.2.2.2, i64 (arpP b).2]) := by
  have hm := macAt_ok b 8
  have n1 := get16_bd b 6
  have e6 : IntKind.u16.wrap (get16 b 6) = get16 b 6 := u16_in (by omega) (by omega)
  have hg := refGet_a b 6 2 (by omega) (by omega)
  have hv : (if thereB b.length 6 ((2 : Nat) : Int) then (num ((b.drop (6 : Int).toNat).take 2) : Int) else 0) = get16 b 6 := by
    have hb : thereB b.length 6 ((2 : Nat) : Int) = true := thereB_iff.2 (by omega)
    have hb2 : thereB b.length 6 2 = true := thereB_iff.2 (by omega)
    rw [if_pos hb, get16, if_pos hb2]
    have := (split16 (l := b) (n := 6) (by omega)).2
    show (num ((b.drop 6).take 2) : Int) = ((num ((b.drop 6).take 2) % 65536 : Nat) : Int)
    omega
  rw [hv] at hg
  have b0 := hm 0 (by omega)
  have b1 := hm 1 (by omega)
  have b2 := hm 2 (by omega)
  have b3 := hm 3 (by omega)
  have b4 := hm 4 (by omega)
  have b5 := hm 5 (by omega)
  have v0 : IntKind.i64.wrap (macAt b 8 0) = macAt b 8 0 := i64_in (by have := hm 0 (by omega); omega) (by have := hm 0 (by omega); omega)
  have v1 : IntKind.i64.wrap (macAt b 8 1) = macAt b 8 1 := i64_in (by have := hm 1 (by omega); omega) (by have := hm 1 (by omega); omega)
  have v2 : IntKind.i64.wrap (macAt b 8 2) = macAt b 8 2 := i64_in (by have := hm 2 (by omega); omega) (by have := hm 2 (by omega); omega)
  have v3 : IntKind.i64.wrap (macAt b 8 3) = macAt b 8 3 := i64_in (by have := hm 3 (by omega); omega) (by have := hm 3 (by omega); omega)
  have v4 : IntKind.i64.wrap (macAt b 8 4) = macAt b 8 4 := i64_in (by have := hm 4 (by omega); omega) (by have := hm 4 (by omega); omega)
  have v5 : IntKind.i64.wrap (macAt b 8 5) = macAt b 8 5 := i64_in (by have := hm 5 (by omega); omega) (by have := hm 5 (by omega); omega)
  have z1 : IntKind.i64.wrap (0 + macAt b 8 0) = 0 + macAt b 8 0 := i64_in (by omega) (by omega)
  have z2 : IntKind.i64.wrap (0 + macAt b 8 0 + macAt b 8 1) = 0 + macAt b 8 0 + macAt b 8 1 := i64_in (by omega) (by omega)
  have z3 : IntKind.i64.wrap (0 + macAt b 8 0 + macAt b 8 1 + macAt b 8 2) = 0 + macAt b 8 0 + macAt b 8 1 + macAt b 8 2 := i64_in (by omega) (by omega)
  have z4 : IntKind.i64.wrap (0 + macAt b 8 0 + macAt b 8 1 + macAt b 8 2 + macAt b 8 3) = 0 + macAt b 8 0 + macAt b 8 1 + macAt b 8 2 + macAt b 8 3 := i64_in (by omega) (by omega)
  have z5 : IntKind.i64.wrap (0 + macAt b 8 0 + macAt b 8 1 + macAt b 8 2 + macAt b 8 3 + macAt b 8 4) = 0 + macAt b 8 0 + macAt b 8 1 + macAt b 8 2 + macAt b 8 3 + macAt b 8 4 := i64_in (by omega) (by omega)
  have z6 : IntKind.i64.wrap (0 + macAt b 8 0 + macAt b 8 1 + macAt b 8 2 + macAt b 8 3 + macAt b 8 4 + macAt b 8 5) = 0 + macAt b 8 0 + macAt b 8 1 + macAt b 8 2 + macAt b 8 3 + macAt b 8 4 + macAt b 8 5 := i64_in (by omega) (by omega)
  have hg14 : ASpec Try.prog 87 [.bs b, i64 14, i64 (4 : Nat)] (.tup [u32A (get32 b 14), boA (thereB b.length 14 (4 : Nat))]) := refGet_a b 14 4 (by omega) (by omega)
  have hg24 : ASpec Try.prog 87 [.bs b, i64 24, i64 (4 : Nat)] (.tup [u32A (get32 b 24), boA (thereB b.length 24 (4 : Nat))]) := refGet_a b 24 4 (by omega) (by omega)
  have n2 := get32_bd b 14
  have n3 := get32_bd b 24
  have hsame := arpB_same b hn
  have hsum : decide (0 + macAt b 8 0 + macAt b 8 1 + macAt b 8 2 + macAt b 8 3 + macAt b 8 4 + macAt b 8 5 = 0) = mEq (macAt b 8) m0 := by
    unfold mEq m0
    exact decide_eq_decide.2 ⟨fun h => ⟨by omega, by omega, by omega, by omega, by omega, by omega⟩, fun ⟨h0, h1, h2, h3, h4, h5⟩ => by omega⟩
  refine ASpec.of_body TT_ok Try.mixed _ [.cell 2 155, .tmp 3] ([], []) Try.func169 (by kernel_rfl) rfl rfl (by simp only [Try.ntmps169, List.length_cons, List.length_nil]; omega) rfl (by kernel_rfl) ?_
  simp only [decide_eq_false (show ¬ (b.length : Int) < 28 by omega), argE_cons, argE_nil, ac_skip, ac_seq, ac_cond, ac_region, at_normal, ao_nil, ao_cons, if_f, as_call, as_alloc, as_move, as_assign, as_binOp, as_len, macL, arpA, u8A, u16A, u32A, i64, fr_false, List.contains_nil, beq_self_eq_true, hk_some, hopG, hopF, rd, aopsD, heapF, frzW, frzR, constT, evT, lk, putT, lenF, binF, argsF, constA, cellA, List.length_nil, List.nil_append, List.cons_append, Option.map_some, Nat.reduceSub, Nat.reduceLeDiff, Nat.succ_ne_zero, true_and, eq_self, Bool.false_eq_true, ↓reduceIte, Nat.zero_add, TT3, TT38, TT155]
  refine ACall.intro (refMacAt_a b 8 (by omega) hl) ?_
  simp only [ao_cons, as_call, as_move, macL, macA, u8A, beq_self_eq_true, rd, frzW, frzR, constT, evT, lk, putT, argsF, constA, cellA, Option.map_some, Nat.reduceSub, Nat.succ_ne_zero, eq_self, ↓reduceIte]
  refine ACall.intro (refMacAt_a b 18 (by omega) hl) ?_
  simp only [ac_seq, ac_region, at_normal, ao_nil, ao_cons, as_call, as_alloc, as_store, as_move, as_build, macL, macA, u8A, fr_false, List.contains_nil, beq_self_eq_true, Bool.and_self, hk_some, hopG, rd, aopsD, heapF, frzW, frzR, constT, evT, lk, putT, cellsF, ovw, fillF, buildF, partsF, argsF, okCell, constA, cellA, Value.oneCell', List.length_cons, List.length_nil, List.getElem?_cons_zero, List.getElem?_cons_succ, List.set_cons_zero, List.set_cons_succ, List.nil_append, List.cons_append, List.all_cons, List.all_nil, Option.map_some, Nat.reduceAdd, Nat.reduceSub, Nat.reduceEqDiff, Nat.reduceLeDiff, Nat.succ_ne_zero, true_and, and_self, eq_self, Bool.false_eq_true, ↓reduceIte, Nat.zero_add, Nat.le_refl, TT155]
  refine ACall.intro hg ?_
  simp only [e6, ac_seq, ac_region, at_normal, ao_nil, ao_cons, as_call, as_store, as_move, as_assign, as_convert, as_fieldAddr, as_extract, u32A, boA, fr_false, List.contains_nil, beq_self_eq_true, Int.cast_ofNat_Int, Bool.and_self, hk_some, hopG, rd, aopsD, heapF, frzW, frzR, constT, evT, lk, putT, convF, cellsF, ovw, argsF, okCell, constA, cellA, Value.oneCell', List.length_cons, List.length_nil, List.getElem?_cons_zero, List.getElem?_cons_succ, List.set_cons_zero, List.set_cons_succ, List.all_cons, List.all_nil, Option.map_some, Nat.reduceAdd, Nat.reduceSub, Nat.reduceEqDiff, Nat.reduceLeDiff, Nat.succ_ne_zero, ne_eq, not_false_eq_true, true_and, and_self, eq_self, Bool.false_eq_true, ↓reduceIte, Nat.zero_add, Nat.add_zero, TT22, TT23, TT155]
  refine ACall.intro hg14 ?_
  simp only [ac_seq, ac_region, at_normal, ao_nil, ao_cons, as_call, as_store, as_move, as_fieldAddr, as_extract, u32A, boA, fr_false, List.contains_nil, beq_self_eq_true, Int.cast_ofNat_Int, Bool.and_self, hk_some, hopG, rd, aopsD, heapF, frzW, frzR, constT, evT, lk, putT, cellsF, ovw, argsF, okCell, constA, cellA, Value.oneCell', List.length_cons, List.length_nil, List.getElem?_cons_zero, List.getElem?_cons_succ, List.set_cons_zero, List.set_cons_succ, List.all_cons, List.all_nil, Option.map_some, Nat.reduceAdd, Nat.reduceSub, Nat.reduceEqDiff, Nat.reduceLeDiff, Nat.succ_ne_zero, ne_eq, not_false_eq_true, true_and, and_self, eq_self, Bool.false_eq_true, ↓reduceIte, Nat.zero_add, TT22, TT155]
  refine ACall.intro hg24 ?_
  simp only [ac_seq, ac_block, ac_region, ac_loop, at_normal, ao_nil, ao_cons, as_store, as_move, as_assign, as_fieldAddr, as_extract, u32A, boA, fr_false, List.contains_nil, beq_self_eq_true, Int.cast_ofNat_Int, Bool.and_self, hk_some, hopG, rd, aopsD, heapF, constT, evT, lk, putT, cellsF, ovw, okCell, constA, cellA, Value.oneCell', List.length_cons, List.length_nil, List.getElem?_cons_zero, List.getElem?_cons_succ, List.set_cons_zero, List.set_cons_succ, List.all_cons, List.all_nil, Option.map_some, Nat.reduceAdd, Nat.reduceSub, Nat.reduceEqDiff, Nat.reduceLeDiff, Nat.succ_ne_zero, ne_eq, not_false_eq_true, true_and, and_self, eq_self, Bool.false_eq_true, ↓reduceIte, Nat.zero_add, Nat.le_refl, TT22, TT155]
  refine .inl ⟨7, ?_⟩
  simp only [unr, iw1, iw2, iw3, iw4, iw5, iw6, v0, v1, v2, v3, v4, v5, z1, z2, z3, z4, z5, z6, ac_skip, ac_exit, ac_seq, ac_block, ac_cond, ac_region, at_normal, at_exit, ab_normal, ab_exit, ao_nil, ao_cons, if_t, if_f, as_call, as_move, as_assign, as_binOp, as_convert, as_load, as_fieldAddr, as_indexAddr, fr_false, List.contains_nil, Nat.reduceBEq, beq_self_eq_true, Int.cast_ofNat_Int, decide_true, decide_false, hk_some, hopG, rd, aopsD, frzW, tlN, constT, evT, lk, putT, binF, convF, loadF, argsF, constA, cellA, TK.isAgg, List.length_cons, List.length_nil, List.getElem?_cons_zero, List.getElem?_cons_succ, List.drop_zero, List.drop_succ_cons, List.take_succ_cons, List.take_nil, Option.map_some, Nat.reduceAdd, Nat.reduceSub, Nat.reduceEqDiff, Nat.reduceLeDiff, Nat.succ_ne_zero, ne_eq, not_false_eq_true, true_and, and_self, eq_self, Bool.false_eq_true, ↓reduceIte, Int.toNat_zero, Int.reduceToNat, Int.reduceLT, Int.reduceLE, Int.reduceAdd, Nat.mul_one, Nat.zero_add, Nat.add_zero, Nat.le_refl, TT3, TT5, TT29, TT155]
  refine ACall.intro (refPut05_a (get16 b 6) (macAt b 8) (get32 b 14) (macAt b 18) (get32 b 24) n1 hm n2 (macAt_ok b 18) n3) ?_
  simp only [ao_cons, as_call, as_move, as_slice, Nat.reduceBEq, hk_some, hopG, rd, frzW, constT, evT, lk, putT, bndF, cutF, argsF, constA, cellA, List.drop_zero, Option.map_some, Option.map_none, Option.bind_some, Nat.reduceSub, Nat.reduceEqDiff, Nat.succ_ne_zero, true_and, eq_self, ↓reduceIte, Int.toNat_zero, Int.reduceToNat, Int.reduceLE, Int.reduceSub, TT38]
  refine ⟨by omega, ACall.intro (refSame_a (arpB (get16 b 6) (macAt b 8) (get32 b 14) (macAt b 18) (get32 b 24)) (b.take 28)) ?_⟩
  rw [hsame]
  have hm2 : (macAt b 8 0).tmod 2 = macAt b 8 0 % 2 := tmodN (by omega)
  cases k1 : (b.take 6 == arp0)
  · have hq : arpQ b = false := by simp [arpQ, k1]
    have hp : arpP b = ((0, m0, 0, m0, 0), 3) := by rw [arpP, hq]; rfl
    rw [hp]
    simp only [ac_ret, ac_seq, ac_cond, ac_region, at_normal, at_ret, ae_ret, ao_nil, ao_cons, ao_guard_f, sk_at, pk_at, if_t, as_pick, as_store, as_move, as_assign, as_unOp, as_build, boA, fr_false, fr_nil, fr_cons, List.contains_nil, Nat.reduceBEq, beq_self_eq_true, Bool.and_self, hk_some, hopG, rd, aopsD, heapF, constT, evT, lk, putT, GV, gdst, unF, loadF, cellsF, ovw, fillF, buildF, partsF, okCell, resF, resL, constA, cellA, TK.isAgg, Value.oneCell', List.length_cons, List.length_nil, List.getElem?_cons_zero, List.drop_zero, List.take_succ_cons, List.take_nil, List.set_cons_zero, List.set_cons_succ, List.all_cons, List.all_nil, Option.map_some, Option.bind_some, Nat.reduceAdd, Nat.reduceSub, Nat.reduceEqDiff, Nat.reduceLeDiff, true_and, and_true, and_self, eq_self, Bool.false_eq_true, Bool.not_false, ↓reduceIte, Nat.zero_add, Nat.le_refl, TT155]
    rfl
  · simp only [ao_cons, ao_guard_f, st_at, pk_at, if_f, as_pick, as_move, as_binOp, as_unOp, boA, Nat.reduceBEq, hk_some, hopG, rd, constT, evT, lk, putT, GV, gdst, binF, unF, constA, cellA, Option.map_some, Nat.reduceSub, Nat.reduceEqDiff, true_and, eq_self, Bool.not_true, ↓reduceIte, TT22]
    refine AIf.intro (fun c1 => ?_) (fun c1 => ?_)
    · have hq : arpQ b = false := by
        rw [dT] at c1
        simp only [arpQ, decide_eq_false (show ¬ get16 b 6 = 1 by omega), decide_eq_false (show ¬ get16 b 6 = 2 by omega), Bool.or_false, Bool.and_false, Bool.false_and]
      have hp : arpP b = ((0, m0, 0, m0, 0), 3) := by rw [arpP, hq]; rfl
      rw [hp]
      simp only [c1, ac_ret, ac_seq, ac_cond, ac_region, at_normal, at_ret, ae_ret, ao_nil, ao_cons, ao_guard_f, sk_at, pk_at, if_t, as_pick, as_store, as_move, as_assign, as_build, fr_false, fr_nil, fr_cons, List.contains_nil, Nat.reduceBEq, beq_self_eq_true, Bool.and_self, hk_some, hopG, rd, aopsD, heapF, constT, evT, lk, putT, GV, gdst, loadF, cellsF, ovw, fillF, buildF, partsF, okCell, resF, resL, constA, cellA, TK.isAgg, Value.oneCell', List.length_cons, List.length_nil, List.getElem?_cons_zero, List.drop_zero, List.take_succ_cons, List.take_nil, List.set_cons_zero, List.set_cons_succ, List.all_cons, List.all_nil, Option.map_some, Option.bind_some, Nat.reduceAdd, Nat.reduceSub, Nat.reduceEqDiff, Nat.reduceLeDiff, true_and, and_true, and_self, eq_self, Bool.false_eq_true, ↓reduceIte, Nat.zero_add, Nat.le_refl, TT155]
      rfl
    · simp only [c1, ao_cons, ao_guard_f, st_at, pk_at, if_f, as_pick, as_move, as_binOp, Nat.reduceBEq, hk_some, hopG, rd, constT, evT, lk, putT, GV, gdst, binF, constA, cellA, Option.map_some, Nat.reduceSub, Nat.reduceEqDiff, true_and, eq_self, ↓reduceIte, TT22]
      refine AIf.intro (fun c2 => ?_) (fun c2 => ?_)
      · have hq : arpQ b = false := by
          rw [dT] at c2
          simp only [arpQ, decide_eq_false (show ¬ get16 b 6 = 1 by omega), decide_eq_false (show ¬ get16 b 6 = 2 by omega), Bool.or_false, Bool.and_false, Bool.false_and]
        have hp : arpP b = ((0, m0, 0, m0, 0), 3) := by rw [arpP, hq]; rfl
        rw [hp]
        simp only [c2, ac_ret, ac_seq, ac_cond, ac_region, at_normal, at_ret, ae_ret, ao_nil, ao_cons, ao_guard_f, sk_at, pk_at, if_t, as_pick, as_store, as_move, as_assign, as_build, fr_false, fr_nil, fr_cons, List.contains_nil, Nat.reduceBEq, beq_self_eq_true, Bool.and_self, hk_some, hopG, rd, aopsD, heapF, constT, evT, lk, putT, GV, gdst, loadF, cellsF, ovw, fillF, buildF, partsF, okCell, resF, resL, constA, cellA, TK.isAgg, Value.oneCell', List.length_cons, List.length_nil, List.getElem?_cons_zero, List.drop_zero, List.take_succ_cons, List.take_nil, List.set_cons_zero, List.set_cons_succ, List.all_cons, List.all_nil, Option.map_some, Option.bind_some, Nat.reduceAdd, Nat.reduceSub, Nat.reduceEqDiff, Nat.reduceLeDiff, true_and, and_true, and_self, eq_self, Bool.false_eq_true, ↓reduceIte, Nat.zero_add, Nat.le_refl, TT155]
        rfl
      · have hk : (decide (get16 b 6 = 1) || decide (get16 b 6 = 2)) = true := by
          rw [dF] at c1 c2
          simp only [Bool.or_eq_true, decide_eq_true_eq]
          omega
        simp only [c2, hm2, ao_cons, ao_guard_f, st_at, pk_at, if_f, as_pick, as_move, as_binOp, as_load, as_fieldAddr, as_indexAddr, Nat.reduceBEq, Int.cast_ofNat_Int, Int.reduceEq, hk_some, hopG, rd, constT, evT, lk, putT, GV, gdst, binF, loadF, constA, cellA, TK.isAgg, List.getElem?_cons_zero, List.getElem?_cons_succ, List.drop_zero, List.drop_succ_cons, Option.map_some, Nat.reduceSub, Nat.reduceEqDiff, Nat.succ_ne_zero, ne_eq, not_false_eq_true, true_and, and_self, eq_self, Bool.false_eq_true, ↓reduceIte, Int.toNat_zero, Int.reduceLT, Int.reduceLE, Nat.mul_one, Nat.zero_add, Nat.add_zero, TT5, TT29, TT155]
        refine AIf.intro (fun c3 => ?_) (fun c3 => ?_)
        · have hq : arpQ b = false := by simp only [arpQ, uni, c3, Bool.not_true, Bool.false_and, Bool.and_false]
          have hp : arpP b = ((0, m0, 0, m0, 0), 3) := by rw [arpP, hq]; rfl
          rw [hp]
          simp only [c3, ac_ret, ac_seq, ac_cond, ac_region, at_normal, at_ret, ae_ret, ao_nil, ao_cons, ao_guard_f, sk_at, pk_at, if_t, as_pick, as_store, as_assign, as_build, fr_false, fr_nil, fr_cons, List.contains_nil, Nat.reduceBEq, beq_self_eq_true, Bool.and_self, hk_some, hopG, rd, aopsD, heapF, constT, evT, lk, putT, GV, gdst, loadF, cellsF, ovw, fillF, buildF, partsF, okCell, resF, resL, constA, cellA, TK.isAgg, Value.oneCell', List.length_cons, List.length_nil, List.getElem?_cons_zero, List.drop_zero, List.take_succ_cons, List.take_nil, List.set_cons_zero, List.set_cons_succ, List.all_cons, List.all_nil, Option.map_some, Option.bind_some, Nat.reduceAdd, Nat.reduceSub, Nat.reduceEqDiff, Nat.reduceLeDiff, true_and, and_true, and_self, eq_self, Bool.false_eq_true, ↓reduceIte, Nat.zero_add, Nat.le_refl, TT155]
          rfl
        · simp only [c3, hsum, ac_cond, at_normal, ao_nil, ao_cons, ao_guard_f, st_at, pk_at, if_f, as_pick, as_move, as_binOp, Nat.reduceBEq, hk_some, hopG, rd, constT, evT, lk, putT, GV, gdst, binF, constA, cellA, Option.map_some, Nat.reduceSub, Nat.reduceEqDiff, true_and, eq_self, ↓reduceIte, TT3]
          refine AIf.intro (fun c4 => ?_) (fun c4 => ?_)
          · have hq : arpQ b = false := by simp only [arpQ, uni, c4, Bool.not_true, Bool.and_false]
            have hp : arpP b = ((0, m0, 0, m0, 0), 3) := by rw [arpP, hq]; rfl
            rw [hp]
            simp only [c4, ac_ret, ac_seq, ac_region, at_normal, at_ret, ae_ret, ao_nil, ao_cons, as_store, as_assign, as_build, fr_false, fr_nil, fr_cons, List.contains_nil, beq_self_eq_true, Bool.and_self, hk_some, hopG, rd, aopsD, heapF, constT, evT, lk, putT, loadF, cellsF, ovw, fillF, buildF, partsF, okCell, resF, resL, constA, cellA, TK.isAgg, Value.oneCell', List.length_cons, List.length_nil, List.getElem?_cons_zero, List.drop_zero, List.take_succ_cons, List.take_nil, List.set_cons_zero, List.set_cons_succ, List.all_cons, List.all_nil, Option.map_some, Option.bind_some, Nat.reduceAdd, Nat.reduceSub, Nat.reduceEqDiff, Nat.reduceLeDiff, true_and, and_true, and_self, eq_self, Bool.false_eq_true, ↓reduceIte, Nat.zero_add, Nat.le_refl, TT155]
            rfl
          · have hq : arpQ b = true := by simp only [arpQ, uni, k1, hk, c3, c4, Bool.not_false, Bool.and_self]
            have hp : arpP b = ((get16 b 6, macAt b 8, get32 b 14, macAt b 18, get32 b 24), 0) := by rw [arpP, hq]; rfl
            rw [hp]
            simp only [c4, ac_skip, ac_ret, ac_seq, ac_region, at_normal, ae_ret, ao_nil, ao_cons, as_store, as_assign, as_load, fr_false, fr_nil, fr_cons, List.contains_nil, beq_self_eq_true, Bool.and_self, hk_some, hopG, rd, aopsD, heapF, constT, evT, lk, putT, loadF, cellsF, ovw, okCell, resF, resL, constA, cellA, TK.isAgg, Value.oneCell', List.length_cons, List.length_nil, List.getElem?_cons_zero, List.getElem?_cons_succ, List.drop_zero, List.take_succ_cons, List.take_nil, List.set_cons_zero, List.set_cons_succ, List.all_cons, List.all_nil, Option.map_some, Option.bind_some, Nat.reduceAdd, Nat.reduceSub, Nat.reduceEqDiff, Nat.reduceLeDiff, and_true, and_self, eq_self, Bool.false_eq_true, ↓reduceIte, Nat.zero_add, Nat.le_refl, TT155]
end Go.Proofs.Ytafajmnlknmfiaa
