/- Package ether and its reference. -/
import Derived.Test.YtdbaehpfjpghfaaCF
import Derived.Test.YtdbaehpfjpghfaaCK
namespace Go.Proofs.Ytdbaehpfjpghfaa
set_option linter.unusedSimpArgs false
set_option linter.unusedVariables false
open Go.RowKit

theorem iw1 : IntKind.i64.wrap 1 = 1 := by decide
theorem iw2 : IntKind.i64.wrap 2 = 2 := by decide
theorem iw3 : IntKind.i64.wrap 3 = 3 := by decide
theorem iw4 : IntKind.i64.wrap 4 = 4 := by decide
theorem iw5 : IntKind.i64.wrap 5 = 5 := by decide
theorem iw6 : IntKind.i64.wrap 6 = 6 := by decide
theorem macB_six (m : Nat → Int) : macB m 6 = [u8 (m 0), u8 (m 1), u8 (m 2), u8 (m 3), u8 (m 4), u8 (m 5)] := rfl
/-- A frame's bytes. -/
def ethB (d s : Nat → Int) (t : Int) (l : List UInt8) : List UInt8 := macB d 6 ++ macB s 6 ++ put16 [t] ++ l
set_option maxRecDepth 100000 in
theorem etherPut_a (d s : Nat → Int) (t : Int) (l : List UInt8) (hd : macOk d) (hs : macOk s) (ht : 0 ≤ t ∧ t ≤ 65535) (hl : l.length ≤ 100000) : ASpec Try.prog 68 [frameA d s t l] (.bs (ethB d s t l)) := by
  refine ASpec.of_body TT_ok Try.mixed _ [.tmp 2] [1, 2] Try.func68 (by kernel_rfl) rfl rfl (by simp only [Try.ntmps68, List.length_cons, List.length_nil]; omega) rfl (by kernel_rfl) ?_
  simp only [argE_cons, argE_nil, ac_seq, ac_region, at_normal, ao_nil, ao_cons, as_call, as_box, as_assign, as_fieldAddr, as_buildSlice, as_slice, macL, frameA, u8A, u16A, fr_false, fr_nil, fr_cons, List.contains_nil, List.contains_cons, Bool.or_false, Nat.reduceBEq, beq_self_eq_true, Int.cast_ofNat_Int, hk_some, hopF, heapF, evT, lk, putT, cellsF, ovw, fillF, bytesOf, makeSF, bndF, cutAF, partsF, argsF, constA, cellA, List.length_cons, List.length_nil, List.getElem?_cons_zero, List.getElem?_cons_succ, List.drop_zero, List.drop_succ_cons, List.take_zero, List.take_succ_cons, List.take_nil, List.set_cons_zero, List.set_cons_succ, List.nil_append, List.cons_append, List.replicate_succ, List.replicate_zero, List.flatten_cons, List.flatten_nil, List.append_nil, Option.map_some, Option.map_none, Option.bind_some, Nat.reduceAdd, Nat.reduceEqDiff, Nat.reduceLeDiff, Nat.succ_ne_zero, ne_eq, not_false_eq_true, true_and, and_true, and_self, eq_self, ↓reduceIte, Int.toNat_zero, Int.reduceToNat, Int.reduceLE, Int.reduceSub, Nat.mul_one, Nat.zero_add, Nat.add_zero, Nat.zero_lt_succ, Nat.le_refl, TT29, TT38, TT56, TT261]
  refine ⟨⟨hd 0 (by omega), hd 1 (by omega), hd 2 (by omega), hd 3 (by omega), hd 4 (by omega), hd 5 (by omega)⟩, ⟨hs 0 (by omega), hs 1 (by omega), hs 2 (by omega), hs 3 (by omega), hs 4 (by omega), hs 5 (by omega)⟩, ?_⟩
  refine ACall.intro (join_a [macB d 6, macB s 6] (by simp [small, macB])) ?_
  simp only [ac_seq, ac_region, at_normal, ao_nil, ao_cons, as_call, as_move, as_assign, as_load, as_fieldAddr, as_buildSlice, fr_nil, fr_cons, List.contains_nil, List.contains_cons, Bool.or_false, Nat.reduceBEq, beq_self_eq_true, Bool.or_true, hk_some, hopF, evT, lk, putT, loadF, cellsF, ovw, fillF, makeSF, partsF, argsF, TK.isAgg, Value.oneCell', List.length_cons, List.length_nil, List.getElem?_cons_zero, List.getElem?_cons_succ, List.drop_zero, List.drop_succ_cons, List.set_cons_zero, List.replicate_succ, List.replicate_zero, List.flatten_cons, List.flatten_nil, List.append_nil, Option.map_some, Nat.reduceEqDiff, Nat.reduceLeDiff, Nat.succ_ne_zero, ne_eq, not_false_eq_true, true_and, and_self, eq_self, Bool.false_eq_true, ↓reduceIte, Nat.mul_one, Nat.zero_add, Nat.zero_lt_succ, Nat.le_refl, TT23, TT56, TT264]
  refine ACall.intro (put16_a (macB d 6 ++ macB s 6) [t] (by simp [macB]) (by simpa using ht)) ?_
  simp only [ao_cons, as_call, as_load, as_fieldAddr, as_buildSlice, hk_some, hopF, evT, lk, putT, loadF, cellsF, ovw, fillF, makeSF, partsF, argsF, TK.isAgg, List.length_cons, List.length_nil, List.getElem?_cons_zero, List.getElem?_cons_succ, List.drop_zero, List.drop_succ_cons, List.set_cons_zero, List.set_cons_succ, List.nil_append, List.cons_append, List.replicate_succ, List.replicate_zero, List.flatten_cons, List.flatten_nil, List.append_nil, Option.map_some, Nat.reduceAdd, Nat.reduceEqDiff, Nat.reduceLeDiff, Nat.succ_ne_zero, ne_eq, not_false_eq_true, true_and, and_self, eq_self, Bool.false_eq_true, ↓reduceIte, Nat.mul_one, Nat.zero_add, Nat.zero_lt_succ, Nat.le_refl, TT38, TT56, TT261]
  refine ACall.intro (join_a [macB d 6 ++ macB s 6 ++ put16 [t], l] (by simp [small, macB, length_put16]; omega)) ?_
  simp only [ac_ret, at_normal, ae_ret, ao_nil, ao_cons, as_assign, evT, lk, putT, resF, resL, List.flatten_cons, List.flatten_nil, List.append_nil, Option.map_some, Option.bind_some, true_and, and_true, eq_self, ↓reduceIte]
  rfl
set_option maxHeartbeats 1000000 in
set_option maxRecDepth 100000 in
theorem refMacAt_a (b : List UInt8) (n : Nat) (h : n + 6 ≤ b.length) (hb : b.length ≤ 100000) : ASpec Try.prog 167 [.bs b, i64 n] (macA (macAt b n)) := by
  have e0 : IntKind.i64.wrap (n : Int) = n := i64_in (by omega) (by omega)
  have e1 : IntKind.i64.wrap ((n : Int) + 1) = n + 1 := i64_in (by omega) (by omega)
  have e2 : IntKind.i64.wrap ((n : Int) + 2) = n + 2 := i64_in (by omega) (by omega)
  have e3 : IntKind.i64.wrap ((n : Int) + 3) = n + 3 := i64_in (by omega) (by omega)
  have e4 : IntKind.i64.wrap ((n : Int) + 4) = n + 4 := i64_in (by omega) (by omega)
  have e5 : IntKind.i64.wrap ((n : Int) + 5) = n + 5 := i64_in (by omega) (by omega)
  have t1 : ((n : Int) + 1).toNat = n + 1 := by omega
  have t2 : ((n : Int) + 2).toNat = n + 2 := by omega
  have t3 : ((n : Int) + 3).toNat = n + 3 := by omega
  have t4 : ((n : Int) + 4).toNat = n + 4 := by omega
  have t5 : ((n : Int) + 5).toNat = n + 5 := by omega
  refine ASpec.of_body TT_ok Try.mixed _ [.cell 4 29] [] Try.func167 (by kernel_rfl) rfl rfl (by simp only [Try.ntmps167, List.length_cons, List.length_nil]; omega) rfl (by kernel_rfl) ?_
  simp only [argE_cons, argE_nil, ac_seq, ac_block, ac_region, ac_loop, at_normal, ao_nil, ao_cons, as_alloc, as_store, as_assign, as_build, macL, macA, u8A, i64, fr_false, List.contains_nil, Bool.and_self, hk_some, hopF, heapF, evT, lk, putT, cellsF, ovw, fillF, buildF, partsF, okCell, constA, cellA, Value.oneCell', List.length_cons, List.length_nil, List.getElem?_cons_zero, List.getElem?_cons_succ, List.set_cons_zero, List.set_cons_succ, List.nil_append, List.cons_append, List.all_cons, List.all_nil, Option.map_some, Nat.reduceAdd, Nat.reduceEqDiff, true_and, and_self, eq_self, ↓reduceIte, Nat.zero_add, Nat.le_refl, TT29]
  refine .inl ⟨7, ?_⟩
  simp only [unr, Int.add_zero, Int.toNat_natCast, e0, e1, e2, e3, e4, e5, t1, t2, t3, t4, t5, iw1, iw2, iw3, iw4, iw5, iw6, ac_skip, ac_exit, ac_ret, ac_seq, ac_block, ac_cond, ac_region, at_normal, at_exit, ab_normal, ab_exit, ae_ret, ao_nil, ao_cons, if_t, if_f, as_store, as_move, as_assign, as_binOp, as_load, as_indexAddr, fr_false, List.contains_nil, Int.cast_ofNat_Int, decide_true, decide_false, Bool.and_self, hk_some, hopF, heapF, evT, lk, putT, binF, loadF, cellsF, ovw, okCell, resF, resL, constA, cellA, TK.isAgg, Value.oneCell', List.length_cons, List.length_nil, List.getElem?_cons_zero, List.getElem?_cons_succ, List.drop_zero, List.take_succ_cons, List.take_nil, List.set_cons_zero, List.set_cons_succ, List.all_cons, List.all_nil, Option.map_some, Option.bind_some, Nat.reduceAdd, Nat.reduceEqDiff, Nat.reduceLeDiff, Nat.succ_ne_zero, true_and, and_true, and_self, eq_self, reduceCtorEq, Bool.false_eq_true, ↓reduceIte, Int.toNat_zero, Int.reduceToNat, Int.reduceLT, Int.reduceLE, Int.reduceAdd, Nat.mul_one, Nat.zero_add, Nat.add_zero, Nat.le_refl, TT3, TT5, TT29, TT38]
  exact ⟨by omega, by omega, by omega, by omega, by omega, by omega, by simp only [macAt, Nat.add_zero]⟩
set_option maxRecDepth 100000 in
theorem refPut04_a (d s : Nat → Int) (t : Int) (l : List UInt8) (hd : macOk d) (hs : macOk s) (ht : 0 ≤ t ∧ t ≤ 65535) (hl : l.length ≤ 100000) : ASpec Try.prog 70 [frameA d s t l] (.bs (ethB d s t l)) := by
  have e1 : IntKind.u32.wrap t = t := u32_in (by omega) (by omega)
  refine ASpec.of_body TT_ok Try.mixed _ [.tmp 2] [] Try.func70 (by kernel_rfl) rfl rfl (by simp only [Try.ntmps70, List.length_cons, List.length_nil]; omega) rfl (by kernel_rfl) ?_
  simp only [argE_cons, argE_nil, ac_seq, ac_region, at_normal, ao_nil, ao_cons, as_call, as_box, as_assign, as_load, as_fieldAddr, macL, frameA, u8A, u16A, fr_false, List.contains_nil, hk_some, hopF, heapF, evT, lk, putT, loadF, cellsF, argsF, constA, cellA, TK.isAgg, List.length_cons, List.length_nil, List.getElem?_cons_zero, List.drop_zero, List.take_zero, List.take_succ_cons, List.nil_append, List.cons_append, Option.map_some, Nat.reduceAdd, Nat.reduceEqDiff, Nat.reduceLeDiff, Nat.succ_ne_zero, ne_eq, not_false_eq_true, true_and, eq_self, ↓reduceIte, Nat.zero_add, Nat.add_zero, TT29, TT56]
  refine ACall.intro (refMac_a d hd) ?_
  simp only [ao_cons, as_call, as_load, as_fieldAddr, hk_some, hopF, evT, lk, putT, loadF, argsF, TK.isAgg, List.length_cons, List.length_nil, List.getElem?_cons_zero, List.getElem?_cons_succ, List.drop_zero, List.drop_succ_cons, List.take_zero, List.take_succ_cons, Option.map_some, Nat.reduceAdd, Nat.reduceEqDiff, Nat.reduceLeDiff, Nat.succ_ne_zero, ne_eq, not_false_eq_true, true_and, eq_self, ↓reduceIte, Nat.zero_add, TT29, TT56]
  refine ACall.intro (refMac_a s hs) ?_
  simp only [ao_cons, as_call, evT, lk, putT, argsF, Option.map_some, Nat.reduceEqDiff, eq_self, ↓reduceIte]
  refine ACall.intro (add_a (macB d 6) (macB s 6) (by simp [macB])) ?_
  simp only [e1, ao_cons, as_call, as_convert, as_load, as_fieldAddr, hk_some, hopF, evT, lk, putT, convF, loadF, argsF, constA, cellA, TK.isAgg, List.getElem?_cons_zero, List.getElem?_cons_succ, List.drop_zero, List.drop_succ_cons, Option.map_some, Nat.reduceEqDiff, Nat.succ_ne_zero, ne_eq, not_false_eq_true, true_and, eq_self, Bool.false_eq_true, ↓reduceIte, Nat.zero_add, TT22, TT23, TT56]
  refine ACall.intro (refPut_a t 2 (by omega) (by omega)) ?_
  simp only [lowB_two, ao_cons, as_call, as_load, as_fieldAddr, hk_some, hopF, evT, lk, putT, loadF, argsF, TK.isAgg, List.getElem?_cons_zero, List.getElem?_cons_succ, List.drop_zero, List.drop_succ_cons, Option.map_some, Nat.reduceEqDiff, Nat.succ_ne_zero, ne_eq, not_false_eq_true, true_and, eq_self, Bool.false_eq_true, ↓reduceIte, Nat.zero_add, TT38, TT56]
  refine ACall.intro (add_a (put16 [t]) l (by simp [length_put16]; omega)) ?_
  simp only [ao_cons, as_call, evT, lk, putT, argsF, Option.map_some, Nat.reduceEqDiff, eq_self, ↓reduceIte]
  refine ACall.intro (add_a (macB d 6 ++ macB s 6) (put16 [t] ++ l) (by simp [macB, length_put16]; omega)) ?_
  simp only [ac_ret, at_normal, ae_ret, ao_nil, ao_cons, as_assign, evT, lk, putT, resF, resL, Option.map_some, Option.bind_some, true_and, and_true, eq_self, ↓reduceIte]
  simp [ethB]
set_option maxRecDepth 100000 in
theorem refSame04_a (d s d' s' : Nat → Int) (t t' : Int) (l l' : List UInt8) : ASpec Try.prog 67 [frameA d s t l, frameA d' s' t' l'] (boA (mEq d d' && (mEq s s' && (decide (t = t') && (l == l'))))) := by
  refine ASpec.of_body TT_ok Try.mixed _ [.tmp 4] [] Try.func67 (by kernel_rfl) rfl rfl (by simp only [Try.ntmps67, List.length_cons, List.length_nil]; omega) rfl (by kernel_rfl) ?_
  simp only [mEq_list, argE_cons, argE_nil, ac_seq, ac_region, at_normal, ao_nil, ao_cons, ao_guard_t, as_box, as_move, as_assign, as_binOp, as_load, as_fieldAddr, macL, frameA, u8A, u16A, boA, fr_false, List.contains_nil, hk_some, hopF, heapF, evT, lk, putT, GV, gdst, binF, loadF, cellsF, intsOf, constA, cellA, TK.isAgg, List.length_cons, List.length_nil, List.getElem?_cons_zero, List.getElem?_cons_succ, List.drop_zero, List.take_zero, List.take_succ_cons, List.nil_append, List.cons_append, Option.map_some, Option.bind_some, Nat.reduceAdd, Nat.reduceEqDiff, Nat.reduceLeDiff, Nat.succ_ne_zero, ne_eq, not_false_eq_true, true_and, and_true, eq_self, reduceCtorEq, ↓reduceIte, Nat.zero_add, Nat.add_zero, TT29, TT56]
  refine AIf.intro (fun h1 => ?_) (fun h1 => ?_)
  · simp only [h1, mEq_list, ao_cons, ao_guard_t, st_at, pk_at, if_t, as_pick, as_move, as_binOp, as_load, as_fieldAddr, Bool.true_and, hk_some, hopF, evT, lk, putT, GV, gdst, binF, loadF, intsOf, TK.isAgg, List.length_cons, List.length_nil, List.getElem?_cons_zero, List.getElem?_cons_succ, List.drop_zero, List.drop_succ_cons, List.take_zero, List.take_succ_cons, Option.map_some, Option.bind_some, Nat.reduceAdd, Nat.reduceEqDiff, Nat.reduceLeDiff, Nat.succ_ne_zero, ne_eq, not_false_eq_true, true_and, and_true, eq_self, ↓reduceIte, Nat.zero_add, TT29, TT56]
    refine AIf.intro (fun h2 => ?_) (fun h2 => ?_)
    · simp only [h2, ao_cons, ao_guard_t, st_at, pk_at, if_t, as_pick, as_move, as_binOp, as_load, as_fieldAddr, Bool.true_and, hk_some, hopF, evT, lk, putT, GV, gdst, binF, loadF, TK.isAgg, List.getElem?_cons_zero, List.getElem?_cons_succ, List.drop_zero, List.drop_succ_cons, Option.map_some, Nat.reduceEqDiff, Nat.succ_ne_zero, ne_eq, not_false_eq_true, true_and, eq_self, Bool.false_eq_true, ↓reduceIte, Nat.zero_add, TT23, TT56]
      refine AIf.intro (fun h3 => ?_) (fun h3 => ?_)
      · simp only [h3, ao_guard_t, st_at, if_t, as_call, as_load, as_fieldAddr, Bool.true_and, hk_some, hopF, evT, lk, putT, GV, gdst, loadF, argsF, TK.isAgg, List.getElem?_cons_zero, List.getElem?_cons_succ, List.drop_zero, List.drop_succ_cons, Option.map_some, Nat.reduceEqDiff, Nat.succ_ne_zero, ne_eq, not_false_eq_true, true_and, eq_self, Bool.false_eq_true, ↓reduceIte, Nat.zero_add, TT38, TT56]
        refine ACall.intro (refSame_a l l') ?_
        simp only [ac_ret, at_normal, ae_ret, ao_nil, ao_cons, pk_at, if_t, as_pick, as_assign, boA, evT, lk, putT, resF, resL, Option.map_some, Option.bind_some, Nat.reduceEqDiff, and_true, and_self, eq_self, ↓reduceIte]
      · simp only [h3, ac_ret, at_normal, ae_ret, ao_nil, ao_cons, ao_guard_t, sk_at, pk_at, if_f, as_pick, as_assign, Bool.false_and, evT, lk, putT, GV, gdst, resF, resL, constA, cellA, Option.map_some, Option.bind_some, Nat.reduceEqDiff, and_true, and_self, eq_self, ↓reduceIte]
    · simp only [h2, ac_ret, at_normal, ae_ret, ao_nil, ao_cons, ao_guard_t, sk_at, pk_at, if_f, as_pick, as_move, as_assign, Bool.false_and, evT, lk, putT, GV, gdst, resF, resL, constA, cellA, Option.map_some, Option.bind_some, Nat.reduceEqDiff, and_true, and_self, eq_self, ↓reduceIte]
  · simp only [h1, ac_ret, at_normal, ae_ret, ao_nil, ao_cons, ao_guard_t, sk_at, pk_at, if_f, as_pick, as_move, as_assign, Bool.false_and, evT, lk, putT, GV, gdst, resF, resL, constA, cellA, Option.map_some, Option.bind_some, Nat.reduceEqDiff, and_true, and_self, eq_self, ↓reduceIte]
set_option maxRecDepth 100000 in
theorem refFew04_a (d s : Nat → Int) (t : Int) (l : List UInt8) : ASpec Try.prog 69 [frameA d s t l] (frameA d s t (l.take 300)) := by
  refine ASpec.of_body TT_ok Try.mixed _ [.cell 2 56] [] Try.func69 (by kernel_rfl) rfl rfl (by simp only [Try.ntmps69, List.length_cons, List.length_nil]; omega) rfl (by kernel_rfl) ?_
  simp only [argE_cons, argE_nil, ac_seq, ac_region, at_normal, ao_nil, ao_cons, as_call, as_box, as_alloc, as_load, as_fieldAddr, macL, frameA, u8A, u16A, fr_false, List.contains_nil, hk_some, hopF, heapF, evT, lk, putT, loadF, cellsF, argsF, constA, cellA, TK.isAgg, List.length_cons, List.length_nil, List.getElem?_cons_zero, List.getElem?_cons_succ, List.drop_zero, List.drop_succ_cons, List.nil_append, List.cons_append, Option.map_some, Nat.reduceEqDiff, Nat.succ_ne_zero, ne_eq, not_false_eq_true, true_and, eq_self, Bool.false_eq_true, ↓reduceIte, Nat.zero_add, TT38, TT56]
  refine ACall.intro (few_a l 300) ?_
  simp only [ac_ret, ac_seq, ac_region, at_normal, ae_ret, ao_nil, ao_cons, as_store, as_load, as_fieldAddr, fr_false, List.contains_nil, Bool.and_self, hk_some, hopF, heapF, evT, lk, putT, loadF, cellsF, ovw, okCell, resF, resL, TK.isAgg, Value.oneCell', List.length_cons, List.length_nil, List.getElem?_cons_zero, List.getElem?_cons_succ, List.drop_zero, List.take_succ_cons, List.take_nil, List.set_cons_zero, List.set_cons_succ, List.all_cons, List.all_nil, Option.map_some, Option.bind_some, Nat.reduceAdd, Nat.reduceEqDiff, Nat.succ_ne_zero, ne_eq, not_false_eq_true, and_true, and_self, eq_self, ↓reduceIte, Nat.zero_add, Nat.le_refl, TT38, TT56]
/-- Which frame bytes are, or why none. -/
def ethP (b : List UInt8) : ((Nat → Int) × (Nat → Int) × Int × List UInt8) × Int :=
  if b.length < 14 then ((m0, m0, 0, []), 4) else if get16 b 12 < 1536 then ((m0, m0, 0, []), 3) else ((macAt b 0, macAt b 6, get16 b 12, b.drop 14), 0)
theorem macAt_take (b : List UInt8) (n i : Nat) (h : i < n) : macAt (b.take n) 0 i = macAt b 0 i := by
  simp only [macAt, List.getD, Nat.zero_add]
  rw [List.getElem?_take, if_pos h]
theorem macAt_cut (b : List UInt8) (o n i : Nat) (h : i < n) : macAt ((b.drop o).take n) 0 i = macAt b o i := by
  simp only [macAt, List.getD, Nat.zero_add]
  rw [List.getElem?_take, if_pos h, List.getElem?_drop]
set_option maxRecDepth 100000 in
theorem etherParse_a (b : List UInt8) (hl : b.length ≤ 100000) :
    ASpec Try.prog 65 [.bs b] (.tup [frameA (ethP b).1.1 (ethP b).1.2.1 (ethP b).1.2.2.1 (ethP b).1.2.2.2, i64 (ethP b).2]) := by
  have hsm : small b := by simp only [small]; omega
  have n1 := get16_bd b 12
  refine ASpec.of_body TT_ok Try.mixed _ [.cell 2 56, .tmp 3] [] Try.func65 (by kernel_rfl) rfl rfl (by simp only [Try.ntmps65, List.length_cons, List.length_nil]; omega) rfl (by kernel_rfl) ?_
  simp only [argE_cons, argE_nil, ac_seq, ac_cond, ac_region, at_normal, ao_nil, ao_cons, as_alloc, as_move, as_assign, as_binOp, as_len, macL, frameA, u8A, u16A, i64, fr_false, List.contains_nil, hk_some, hopF, heapF, evT, lk, putT, lenF, binF, constA, cellA, List.length_nil, List.nil_append, List.cons_append, Option.map_some, Nat.succ_ne_zero, true_and, eq_self, ↓reduceIte, Nat.zero_add, TT3, TT38, TT56]
  refine AIf.intro (fun c1 => ?_) (fun c1 => ?_)
  · simp only [c1, ac_ret, ac_seq, ac_region, at_normal, at_ret, ae_ret, ao_nil, ao_cons, as_store, as_assign, as_build, fr_false, List.contains_nil, Bool.and_self, hk_some, hopF, heapF, evT, lk, putT, loadF, cellsF, ovw, fillF, buildF, partsF, okCell, resF, resL, constA, cellA, TK.isAgg, Value.oneCell', List.length_cons, List.length_nil, List.getElem?_cons_zero, List.drop_zero, List.take_succ_cons, List.take_nil, List.set_cons_zero, List.set_cons_succ, List.all_cons, List.all_nil, Option.map_some, Option.bind_some, Nat.reduceAdd, Nat.reduceEqDiff, true_and, and_true, and_self, eq_self, ↓reduceIte, Nat.zero_add, Nat.le_refl, TT56]
    rw [dT] at c1
    rw [show ethP b = ((m0, m0, 0, []), 4) from if_pos (by omega)]
    rfl
  · simp only [c1, ac_skip, ac_seq, ac_region, at_normal, ao_cons, as_call, as_move, fr_false, List.contains_nil, evT, lk, putT, argsF, constA, cellA, Option.map_some, Nat.succ_ne_zero, eq_self, ↓reduceIte]
    rw [dF] at c1
    refine ACall.intro (get16_a b 12 (by omega)) ?_
    simp only [ac_seq, ac_cond, ac_region, at_normal, ao_nil, ao_cons, as_move, as_assign, as_binOp, as_extract, u16A, boA, fr_false, List.contains_nil, hk_some, hopF, evT, lk, putT, binF, constA, cellA, List.getElem?_cons_zero, List.getElem?_cons_succ, Option.map_some, Nat.reduceEqDiff, true_and, eq_self, ↓reduceIte, TT23]
    refine AIf.intro (fun c2 => ?_) (fun c2 => ?_)
    · simp only [c2, ac_ret, ac_seq, ac_region, at_normal, at_ret, ae_ret, ao_nil, ao_cons, as_store, as_assign, as_build, fr_false, List.contains_nil, Bool.and_self, hk_some, hopF, heapF, evT, lk, putT, loadF, cellsF, ovw, fillF, buildF, partsF, okCell, resF, resL, constA, cellA, TK.isAgg, Value.oneCell', List.length_cons, List.length_nil, List.getElem?_cons_zero, List.drop_zero, List.take_succ_cons, List.take_nil, List.set_cons_zero, List.set_cons_succ, List.all_cons, List.all_nil, Option.map_some, Option.bind_some, Nat.reduceAdd, Nat.reduceEqDiff, true_and, and_true, and_self, eq_self, ↓reduceIte, Nat.zero_add, Nat.le_refl, TT56]
      rw [dT] at c2
      rw [show ethP b = ((m0, m0, 0, []), 3) from by rw [ethP, if_neg (by omega), if_pos (by omega)]]
      rfl
    · simp only [c2, ac_skip, ac_seq, ac_region, at_normal, ao_cons, as_call, as_move, as_binOp, as_len, fr_false, List.contains_nil, hk_some, hopF, evT, lk, putT, lenF, binF, argsF, constA, cellA, Option.map_some, Nat.reduceEqDiff, Nat.succ_ne_zero, true_and, eq_self, ↓reduceIte, TT3, TT38]
      rw [dF] at c2
      have hp : ethP b = ((macAt b 0, macAt b 6, get16 b 12, b.drop 14), 0) := by rw [ethP, if_neg (by omega), if_neg (by omega)]
      rw [hp]
      have e14 : IntKind.i64.wrap ((b.length : Int) - 14) = (b.length : Int) - 14 := i64_in (by omega) (by omega)
      have hc : cutB b 14 ((b.length : Int) - 14) = b.drop 14 := cutB_all b (n := 14) (by omega)
      simp only [e14]
      refine ACall.intro (cut_a b 14 _ (by omega) hsm) ?_
      simp only [hc, ac_seq, ac_region, at_normal, ao_nil, ao_cons, as_call, as_move, as_assign, as_extract, as_slice, boA, fr_false, List.contains_nil, hk_some, hopF, evT, lk, putT, bndF, cutF, argsF, constA, cellA, List.getElem?_cons_zero, List.getElem?_cons_succ, List.drop_zero, Option.map_some, Option.map_none, Option.bind_some, Nat.reduceEqDiff, Nat.succ_ne_zero, true_and, eq_self, ↓reduceIte, Int.toNat_zero, Int.reduceToNat, Int.reduceLE, Int.reduceSub, TT38]
      refine ⟨by omega, ACall.intro (mac_a (b.take 6) (by simp; omega)) ?_⟩
      simp only [ao_cons, as_call, as_move, as_slice, macL, macA, u8A, hk_some, hopF, evT, lk, putT, bndF, cutF, argsF, constA, cellA, Option.map_some, Option.bind_some, Nat.succ_ne_zero, true_and, eq_self, ↓reduceIte, Int.reduceToNat, Int.reduceLE, Int.reduceSub, TT38]
      refine ⟨by omega, ACall.intro (mac_a ((b.drop 6).take 6) (by simp; omega)) ?_⟩
      simp only [macAt_take b 6 0 (by omega), macAt_take b 6 1 (by omega), macAt_take b 6 2 (by omega), macAt_take b 6 3 (by omega), macAt_take b 6 4 (by omega), macAt_take b 6 5 (by omega), macAt_cut b 6 6 0 (by omega), macAt_cut b 6 6 1 (by omega), macAt_cut b 6 6 2 (by omega), macAt_cut b 6 6 3 (by omega), macAt_cut b 6 6 4 (by omega), macAt_cut b 6 6 5 (by omega), ac_ret, at_normal, ae_ret, ao_nil, ao_cons, as_store, as_move, as_assign, as_build, macL, macA, u8A, Bool.and_self, hk_some, hopF, heapF, evT, lk, putT, loadF, cellsF, ovw, fillF, buildF, partsF, okCell, resF, resL, constA, cellA, TK.isAgg, Value.oneCell', List.length_cons, List.length_nil, List.getElem?_cons_zero, List.getElem?_cons_succ, List.drop_zero, List.take_succ_cons, List.take_nil, List.set_cons_zero, List.set_cons_succ, List.all_cons, List.all_nil, Option.map_some, Option.bind_some, Nat.reduceAdd, Nat.reduceEqDiff, Nat.reduceLeDiff, and_true, and_self, eq_self, ↓reduceIte, Nat.zero_add, Nat.le_refl, TT56]
theorem get_b12 (b : List UInt8) (h : 14 ≤ b.length) : (num ((b.drop 12).take 2) : Int) % 65536 = get16 b 12 := by
  have hb : thereB b.length 12 2 = true := thereB_iff.2 (by omega)
  rw [get16, if_pos hb]
  rfl
set_option maxRecDepth 100000 in
theorem refParse04_a (b : List UInt8) (hl : b.length ≤ 100000) :
    ASpec Try.prog 66 [.bs b] (.tup [frameA (ethP b).1.1 (ethP b).1.2.1 (ethP b).1.2.2.1 (ethP b).1.2.2.2, i64 (ethP b).2]) := by
  have hsm : small b := by simp only [small]; omega
  have n1 := get16_bd b 12
  refine ASpec.of_body TT_ok Try.mixed _ [.cell 2 56, .tmp 3] [] Try.func66 (by kernel_rfl) rfl rfl (by simp only [Try.ntmps66, List.length_cons, List.length_nil]; omega) rfl (by kernel_rfl) ?_
  simp only [argE_cons, argE_nil, ac_seq, ac_cond, ac_region, at_normal, ao_nil, ao_cons, as_alloc, as_move, as_assign, as_binOp, as_len, macL, frameA, u8A, u16A, i64, fr_false, List.contains_nil, hk_some, hopF, heapF, evT, lk, putT, lenF, binF, constA, cellA, List.length_nil, List.nil_append, List.cons_append, Option.map_some, Nat.succ_ne_zero, true_and, eq_self, ↓reduceIte, Nat.zero_add, TT3, TT38, TT56]
  refine AIf.intro (fun c1 => ?_) (fun c1 => ?_)
  · simp only [c1, ac_ret, ac_seq, ac_region, at_normal, at_ret, ae_ret, ao_nil, ao_cons, as_store, as_assign, as_build, fr_false, List.contains_nil, Bool.and_self, hk_some, hopF, heapF, evT, lk, putT, loadF, cellsF, ovw, fillF, buildF, partsF, okCell, resF, resL, constA, cellA, TK.isAgg, Value.oneCell', List.length_cons, List.length_nil, List.getElem?_cons_zero, List.drop_zero, List.take_succ_cons, List.take_nil, List.set_cons_zero, List.set_cons_succ, List.all_cons, List.all_nil, Option.map_some, Option.bind_some, Nat.reduceAdd, Nat.reduceEqDiff, true_and, and_true, and_self, eq_self, ↓reduceIte, Nat.zero_add, Nat.le_refl, TT56]
    rw [dT] at c1
    rw [show ethP b = ((m0, m0, 0, []), 4) from if_pos (by omega)]
    rfl
  · simp only [c1, ac_skip, ac_seq, ac_region, at_normal, ao_cons, as_call, as_move, fr_false, List.contains_nil, evT, lk, putT, argsF, constA, cellA, Option.map_some, Nat.succ_ne_zero, eq_self, ↓reduceIte]
    rw [dF] at c1
    have hg := refGet_a b 12 2 (by omega) (by omega)
    have hv : (if thereB b.length 12 ((2 : Nat) : Int) then (num ((b.drop (12 : Int).toNat).take 2) : Int) else 0) = get16 b 12 := by
      have hb : thereB b.length 12 ((2 : Nat) : Int) = true := thereB_iff.2 (by omega)
      rw [if_pos hb, ← get_b12 b (by omega)]
      have := (split16 (l := b) (n := 12) (by omega)).2
      show (num ((b.drop 12).take 2) : Int) = _
      exact (Int.emod_eq_of_lt (by omega) (by omega)).symm
    rw [hv] at hg
    refine ACall.intro hg ?_
    simp only [ac_seq, ac_cond, ac_region, at_normal, ao_nil, ao_cons, as_move, as_assign, as_binOp, as_extract, u32A, boA, fr_false, List.contains_nil, Int.cast_ofNat_Int, hk_some, hopF, evT, lk, putT, binF, constA, cellA, List.getElem?_cons_zero, List.getElem?_cons_succ, Option.map_some, Nat.reduceEqDiff, true_and, eq_self, ↓reduceIte, TT22]
    refine AIf.intro (fun c2 => ?_) (fun c2 => ?_)
    · simp only [c2, ac_ret, ac_seq, ac_region, at_normal, at_ret, ae_ret, ao_nil, ao_cons, as_store, as_assign, as_build, fr_false, List.contains_nil, Bool.and_self, hk_some, hopF, heapF, evT, lk, putT, loadF, cellsF, ovw, fillF, buildF, partsF, okCell, resF, resL, constA, cellA, TK.isAgg, Value.oneCell', List.length_cons, List.length_nil, List.getElem?_cons_zero, List.drop_zero, List.take_succ_cons, List.take_nil, List.set_cons_zero, List.set_cons_succ, List.all_cons, List.all_nil, Option.map_some, Option.bind_some, Nat.reduceAdd, Nat.reduceEqDiff, true_and, and_true, and_self, eq_self, ↓reduceIte, Nat.zero_add, Nat.le_refl, TT56]
      rw [dT] at c2
      rw [show ethP b = ((m0, m0, 0, []), 3) from by rw [ethP, if_neg (by omega), if_pos (by omega)]]
      rfl
    · simp only [c2, ac_skip, ac_seq, ac_region, at_normal, ao_cons, as_call, as_move, as_binOp, as_len, fr_false, List.contains_nil, hk_some, hopF, evT, lk, putT, lenF, binF, argsF, constA, cellA, Option.map_some, Nat.reduceEqDiff, Nat.succ_ne_zero, true_and, eq_self, ↓reduceIte, TT3, TT38]
      rw [dF] at c2
      have hp : ethP b = ((macAt b 0, macAt b 6, get16 b 12, b.drop 14), 0) := by rw [ethP, if_neg (by omega), if_neg (by omega)]
      rw [hp]
      have e14 : IntKind.i64.wrap ((b.length : Int) - 14) = (b.length : Int) - 14 := i64_in (by omega) (by omega)
      have e16 : IntKind.u16.wrap (get16 b 12) = get16 b 12 := u16_in (by omega) (by omega)
      have hc : cutB b 14 ((b.length : Int) - 14) = b.drop 14 := cutB_all b (n := 14) (by omega)
      simp only [e14]
      refine ACall.intro (refCut_a b 14 _ (by omega) hsm) ?_
      simp only [hc, ac_seq, ac_region, at_normal, ao_nil, ao_cons, as_call, as_move, as_assign, as_extract, boA, fr_false, List.contains_nil, hk_some, hopF, evT, lk, putT, argsF, constA, cellA, List.getElem?_cons_zero, List.getElem?_cons_succ, Option.map_some, Nat.reduceEqDiff, Nat.succ_ne_zero, true_and, eq_self, ↓reduceIte]
      refine ACall.intro (refMacAt_a b 0 (by omega) hl) ?_
      simp only [ao_cons, as_call, as_move, macL, macA, u8A, evT, lk, putT, argsF, constA, cellA, Option.map_some, Nat.succ_ne_zero, eq_self, ↓reduceIte]
      refine ACall.intro (refMacAt_a b 6 (by omega) hl) ?_
      simp only [e16, ac_ret, at_normal, ae_ret, ao_nil, ao_cons, as_store, as_move, as_assign, as_convert, as_build, macL, macA, u8A, Bool.and_self, hk_some, hopF, heapF, evT, lk, putT, convF, loadF, cellsF, ovw, fillF, buildF, partsF, okCell, resF, resL, constA, cellA, TK.isAgg, Value.oneCell', List.length_cons, List.length_nil, List.getElem?_cons_zero, List.getElem?_cons_succ, List.drop_zero, List.take_succ_cons, List.take_nil, List.set_cons_zero, List.set_cons_succ, List.all_cons, List.all_nil, Option.map_some, Option.bind_some, Nat.reduceAdd, Nat.reduceEqDiff, Nat.reduceLeDiff, and_true, and_self, eq_self, ↓reduceIte, Nat.zero_add, Nat.le_refl, TT22, TT23, TT56]
theorem mEq_of {a b : Nat → Int} (h : ∀ i, i < 6 → a i = b i) : mEq a b = true := by
  simp [mEq, h 0 (by omega), h 1 (by omega), h 2 (by omega), h 3 (by omega), h 4 (by omega), h 5 (by omega)]
theorem mEq_self (a : Nat → Int) : mEq a a = true := mEq_of fun _ _ => rfl
theorem u8_of (x : UInt8) : u8 (x.toNat : Int) = x := UInt8.toNat_inj.1 (by
  have := u8_toNat (x.toNat : Int)
  have := x.toNat_lt
  omega)
theorem macB_at (b : List UInt8) (o : Nat) (h : o + 6 ≤ b.length) : macB (macAt b o) 6 = (b.drop o).take 6 := by
  apply List.ext_getElem
  · simp [macB]; omega
  · intro i h1 h2
    have hi : o + i < b.length := by simp at h2; omega
    simp [macB, macAt, List.getD, hi, u8_of]
theorem macAt_B (a : List UInt8) (m : Nat → Int) (b : List UInt8) (hm : macOk m) (i : Nat) (hi : i < 6) : macAt (a ++ (macB m 6 ++ b)) a.length i = m i := by
  have hl : i < (macB m 6).length := by simpa [macB] using hi
  have : (a ++ (macB m 6 ++ b)).getD (a.length + i) 0 = u8 (m i) := by
    simp only [List.getD]
    rw [List.getElem?_append_right (by omega), Nat.add_sub_cancel_left, List.getElem?_append_left hl]
    simp [macB, hi]
  simp only [macAt, this]
  have := u8_toNat (m i)
  have := hm i hi
  omega
theorem ethB_P (b : List UInt8) (h : 14 ≤ b.length) : ethB (macAt b 0) (macAt b 6) (get16 b 12) (b.drop 14) = b := by
  have h1 := (split16 (l := b) (n := 12) (by omega))
  have e : (num ((b.drop 12).take 2) : Int) = get16 b 12 := by
    rw [← get_b12 b h]
    exact (Int.emod_eq_of_lt (by omega) (by omega)).symm
  rw [ethB, macB_at b 0 (by omega), macB_at b 6 (by omega), ← e, List.append_assoc]
  conv => rhs; rw [h1.1]
  congr 1
  rw [List.drop_zero, show 12 = 6 + 6 from rfl, List.take_add]
theorem ethB_len (d s : Nat → Int) (t : Int) (l : List UInt8) : (ethB d s t l).length = 14 + l.length := by simp [ethB, macB, length_put16]; omega
set_option maxRecDepth 100000 in
theorem lives04_a : ASpec Try.prog 58 [] (boA true) := by
  refine ASpec.of_body TT_ok Try.mixed _ [.tmp 0] [] Try.func58 (by kernel_rfl) rfl rfl (by simp only [Try.ntmps58, List.length_nil]; omega) rfl (by kernel_rfl) ?_
  simp only [argE_nil, ac_seq, ac_region, at_normal, ao_nil, ao_cons, as_call, as_assign, as_buildSlice, boA, fr_false, List.contains_nil, hk_some, hopF, evT, lk, putT, cellsF, ovw, fillF, bytesOf, makeSF, partsF, argsF, constA, cellA, Value.oneCell', List.length_cons, List.length_nil, List.set_cons_zero, List.set_cons_succ, List.nil_append, List.cons_append, List.replicate_succ, List.replicate_zero, List.flatten_cons, List.flatten_nil, List.append_nil, Option.map_some, Nat.reduceAdd, Nat.reduceLeDiff, true_and, and_self, eq_self, ↓reduceIte, Int.reduceLE, Nat.mul_one, Nat.zero_add, Nat.le_refl, TT5, TT38]
  refine ACall.intro (etherParse_a [u8 1, u8 2, u8 3, u8 4, u8 5, u8 6, u8 2, u8 0, u8 0, u8 0, u8 0, u8 1, u8 8, u8 6, u8 9] (by simp)) ?_
  have h1 : (ethP [u8 1, u8 2, u8 3, u8 4, u8 5, u8 6, u8 2, u8 0, u8 0, u8 0, u8 0, u8 1, u8 8, u8 6, u8 9]) = ((macAt [u8 1, u8 2, u8 3, u8 4, u8 5, u8 6, u8 2, u8 0, u8 0, u8 0, u8 0, u8 1, u8 8, u8 6, u8 9] 0, macAt [u8 1, u8 2, u8 3, u8 4, u8 5, u8 6, u8 2, u8 0, u8 0, u8 0, u8 0, u8 1, u8 8, u8 6, u8 9] 6, 2054, [u8 9]), 0) := by
    rw [ethP, show get16 [u8 1, u8 2, u8 3, u8 4, u8 5, u8 6, u8 2, u8 0, u8 0, u8 0, u8 0, u8 1, u8 8, u8 6, u8 9] 12 = 2054 by decide]
    rfl
  have h2 : macAt [u8 1, u8 2, u8 3, u8 4, u8 5, u8 6, u8 2, u8 0, u8 0, u8 0, u8 0, u8 1, u8 8, u8 6, u8 9] 6 5 = 1 := by decide
  simp only [h1, h2, ac_ret, ac_seq, ac_region, at_normal, ae_ret, ao_nil, ao_cons, ao_guard_t, st_at, pk_at, if_t, as_pick, as_alloc, as_store, as_move, as_assign, as_binOp, as_load, as_fieldAddr, as_indexAddr, as_extract, as_len, macL, frameA, u8A, u16A, i64, fr_false, List.contains_nil, Int.cast_ofNat_Int, decide_true, Bool.and_self, hk_some, hopF, heapF, evT, lk, putT, GV, gdst, lenF, binF, loadF, cellsF, ovw, okCell, resF, resL, constA, cellA, TK.isAgg, Value.oneCell', List.length_cons, List.length_nil, List.getElem?_cons_zero, List.getElem?_cons_succ, List.drop_zero, List.drop_succ_cons, List.set_cons_zero, List.set_cons_succ, List.nil_append, List.cons_append, List.all_cons, List.all_nil, Option.map_some, Option.bind_some, Nat.reduceAdd, Nat.reduceEqDiff, Nat.succ_ne_zero, ne_eq, not_false_eq_true, and_true, and_self, eq_self, Bool.false_eq_true, ↓reduceIte, Int.reduceToNat, Int.reduceLT, Int.reduceLE, Nat.mul_one, Nat.zero_add, Nat.le_refl, TT3, TT5, TT23, TT29, TT38, TT56, TT61]
set_option maxRecDepth 100000 in
theorem etherParses_a (l : List UInt8) : ASpec Try.prog 7 [.bs l] (boA true) := by
  have h3 : (l.take 300).length ≤ 300 := by simp; omega
  refine ASpec.of_body TT_ok Try.mixed _ [.tmp 2] [] Try.func7 (by kernel_rfl) rfl rfl (by simp only [Try.ntmps7, List.length_cons, List.length_nil]; omega) rfl (by kernel_rfl) ?_
  simp only [argE_cons, argE_nil, ac_seq, ac_region, at_normal, ao_nil, ao_cons, as_call, as_move, as_assign, boA, fr_false, List.contains_nil, evT, lk, putT, argsF, constA, cellA, Option.map_some, Nat.succ_ne_zero, eq_self, ↓reduceIte, Nat.zero_add]
  refine ACall.intro (few_a l 300) ?_
  generalize l.take 300 = m at *
  simp only [ac_seq, ac_region, at_normal, ao_nil, ao_cons, as_call, as_move, as_assign, fr_false, List.contains_nil, evT, lk, putT, argsF, Option.map_some, eq_self, ↓reduceIte]
  refine ACall.intro (etherParse_a m (by omega)) ?_
  simp only [ac_seq, ac_region, at_normal, ao_nil, ao_cons, as_call, as_alloc, as_store, as_move, as_assign, as_extract, macL, frameA, u8A, u16A, i64, fr_false, List.contains_nil, Bool.and_self, hk_some, hopF, heapF, evT, lk, putT, cellsF, ovw, argsF, okCell, Value.oneCell', List.length_cons, List.length_nil, List.getElem?_cons_zero, List.getElem?_cons_succ, List.set_cons_zero, List.set_cons_succ, List.nil_append, List.cons_append, List.all_cons, List.all_nil, Option.map_some, Nat.reduceAdd, Nat.reduceEqDiff, Nat.succ_ne_zero, true_and, and_self, eq_self, ↓reduceIte, Nat.zero_add, Nat.le_refl, TT56]
  refine ACall.intro (refParse04_a m (by omega)) ?_
  simp only [ac_seq, ac_region, at_normal, ao_nil, ao_cons, as_call, as_alloc, as_store, as_move, as_assign, as_load, as_extract, macL, frameA, u8A, u16A, i64, fr_false, List.contains_nil, Bool.and_self, hk_some, hopF, heapF, evT, lk, putT, loadF, cellsF, ovw, argsF, okCell, TK.isAgg, Value.oneCell', List.length_cons, List.length_nil, List.getElem?_cons_zero, List.getElem?_cons_succ, List.drop_zero, List.take_succ_cons, List.take_nil, List.set_cons_zero, List.set_cons_succ, List.nil_append, List.cons_append, List.all_cons, List.all_nil, Option.map_some, Nat.reduceAdd, Nat.reduceEqDiff, true_and, and_self, eq_self, ↓reduceIte, Nat.zero_add, Nat.le_refl, TT56]
  have hk : ethP m = ((m0, m0, 0, []), 4) ∨ ethP m = ((m0, m0, 0, []), 3) ∨ (ethP m = ((macAt m 0, macAt m 6, get16 m 12, m.drop 14), 0) ∧ 14 ≤ m.length) := by
    unfold ethP
    split
    · exact .inl rfl
    · split
      · exact .inr (.inl rfl)
      · exact .inr (.inr ⟨rfl, by omega⟩)
  rcases hk with hk | hk | ⟨hk, hm⟩
  · rw [hk]
    refine ACall.intro (refSame04_a ..) ?_
    simp only [mEq_self, ao_cons, ao_guard_t, ao_guard_f, st_at, sk_at, pk_at, if_t, as_pick, as_call, as_move, as_binOp, boA, beq_self_eq_true, decide_true, decide_false, Bool.and_self, Int.reduceEq, hk_some, hopF, evT, lk, putT, GV, gdst, binF, argsF, constA, cellA, Option.map_some, Nat.reduceEqDiff, true_and, eq_self, Bool.not_false, ↓reduceIte, TT3, TT61]
    refine ACall.intro lives04_a ?_
    simp only [ac_ret, at_normal, ae_ret, ao_nil, ao_cons, pk_at, if_t, as_pick, as_assign, boA, evT, lk, putT, resF, resL, Option.map_some, Option.bind_some, Nat.reduceEqDiff, and_true, and_self, eq_self, ↓reduceIte]
  · rw [hk]
    refine ACall.intro (refSame04_a ..) ?_
    simp only [mEq_self, ao_cons, ao_guard_t, ao_guard_f, st_at, sk_at, pk_at, if_t, as_pick, as_call, as_move, as_binOp, boA, beq_self_eq_true, decide_true, decide_false, Bool.and_self, Int.reduceEq, hk_some, hopF, evT, lk, putT, GV, gdst, binF, argsF, constA, cellA, Option.map_some, Nat.reduceEqDiff, true_and, eq_self, Bool.not_false, ↓reduceIte, TT3, TT61]
    refine ACall.intro lives04_a ?_
    simp only [ac_ret, at_normal, ae_ret, ao_nil, ao_cons, pk_at, if_t, as_pick, as_assign, boA, evT, lk, putT, resF, resL, Option.map_some, Option.bind_some, Nat.reduceEqDiff, and_true, and_self, eq_self, ↓reduceIte]
  · rw [hk]
    have n1 := get16_bd m 12
    refine ACall.intro (refSame04_a ..) ?_
    simp only [mEq_self, ao_cons, ao_guard_t, ao_guard_f, st_at, pk_at, if_t, if_f, as_pick, as_call, as_move, as_binOp, as_load, boA, beq_self_eq_true, decide_true, Bool.and_self, hk_some, hopF, evT, lk, putT, GV, gdst, binF, loadF, argsF, constA, cellA, TK.isAgg, List.length_cons, List.length_nil, List.getElem?_cons_zero, List.drop_zero, List.take_succ_cons, List.take_nil, Option.map_some, Nat.reduceAdd, Nat.reduceEqDiff, true_and, eq_self, Bool.not_true, ↓reduceIte, Nat.zero_add, Nat.le_refl, TT3, TT56, TT61]
    refine ACall.intro (etherPut_a (macAt m 0) (macAt m 6) (get16 m 12) (m.drop 14) (macAt_ok _ _) (macAt_ok _ _) n1 (by simp; omega)) ?_
    simp only [ethB_P m hm, ao_guard_f, st_at, if_f, as_call, as_move, evT, lk, putT, GV, gdst, argsF, Option.map_some, Nat.reduceEqDiff, Nat.succ_ne_zero, eq_self, ↓reduceIte]
    refine ACall.intro (refSame_a _ _) ?_
    simp only [ao_cons, ao_guard_t, st_at, pk_at, if_t, if_f, as_pick, as_call, as_move, boA, beq_self_eq_true, evT, lk, putT, GV, gdst, argsF, Nat.reduceEqDiff, eq_self, ↓reduceIte]
    refine ACall.intro lives04_a ?_
    simp only [ac_ret, at_normal, ae_ret, ao_nil, ao_cons, pk_at, if_t, as_pick, as_assign, boA, evT, lk, putT, resF, resL, Option.map_some, Option.bind_some, Nat.reduceEqDiff, and_true, and_self, eq_self, ↓reduceIte]
theorem ethP_B (d s : Nat → Int) (t : Int) (l : List UInt8) (ht : 0 ≤ t ∧ t ≤ 65535) : ethP (ethB d s t l) = if t < 1536 then ((m0, m0, 0, []), 3) else ((macAt (ethB d s t l) 0, macAt (ethB d s t l) 6, t, l), 0) := by
  have hl := ethB_len d s t l
  have g : get16 (ethB d s t l) 12 = t := by
    have := get16_put (macB d 6 ++ macB s 6) l t ht
    rw [ethB, List.append_assoc]
    simpa [macB] using this
  have hd : (ethB d s t l).drop 14 = l := by
    rw [ethB, List.drop_left' (by simp [macB, length_put16])]
  rw [ethP, if_neg (by omega), g, hd]
theorem ethB_d (d s : Nat → Int) (t : Int) (l : List UInt8) (hd : macOk d) : mEq (macAt (ethB d s t l) 0) d = true := mEq_of fun i hi => by
  have := macAt_B [] d (macB s 6 ++ (put16 [t] ++ l)) hd i hi
  rw [← this]
  simp [ethB]
theorem ethB_s (d s : Nat → Int) (t : Int) (l : List UInt8) (hs : macOk s) : mEq (macAt (ethB d s t l) 6) s = true := mEq_of fun i hi => by
  have := macAt_B (macB d 6) s (put16 [t] ++ l) hs i hi
  rw [← this]
  simp [ethB, macB]
set_option maxRecDepth 100000 in
theorem etherPuts_a (d s : Nat → Int) (t : Int) (l : List UInt8) (hd : macOk d) (hs : macOk s) (ht : 0 ≤ t ∧ t ≤ 65535) : ASpec Try.prog 8 [frameA d s t l] (boA true) := by
  have h3 : (l.take 300).length ≤ 300 := by simp; omega
  refine ASpec.of_body TT_ok Try.mixed _ [.tmp 2] [] Try.func8 (by kernel_rfl) rfl rfl (by simp only [Try.ntmps8, List.length_cons, List.length_nil]; omega) rfl (by kernel_rfl) ?_
  simp only [argE_cons, argE_nil, ac_seq, ac_region, at_normal, ao_nil, ao_cons, as_call, as_box, as_assign, as_load, macL, frameA, u8A, u16A, boA, fr_false, List.contains_nil, hk_some, hopF, heapF, evT, lk, putT, loadF, cellsF, argsF, constA, cellA, TK.isAgg, List.length_cons, List.length_nil, List.getElem?_cons_zero, List.drop_zero, List.take_succ_cons, List.take_nil, List.nil_append, List.cons_append, Option.map_some, Nat.reduceAdd, Nat.reduceEqDiff, true_and, eq_self, ↓reduceIte, Nat.zero_add, Nat.le_refl, TT56]
  refine ACall.intro (refFew04_a d s t l) ?_
  generalize l.take 300 = m at *
  simp only [ac_seq, ac_region, at_normal, ao_nil, ao_cons, as_call, as_store, as_load, macL, frameA, u8A, u16A, fr_false, List.contains_nil, Bool.and_self, hk_some, hopF, heapF, evT, lk, putT, loadF, cellsF, ovw, argsF, okCell, TK.isAgg, Value.oneCell', List.length_cons, List.length_nil, List.getElem?_cons_zero, List.drop_zero, List.take_succ_cons, List.take_nil, List.set_cons_zero, List.set_cons_succ, List.nil_append, List.cons_append, List.all_cons, List.all_nil, Option.map_some, Nat.reduceAdd, Nat.reduceEqDiff, true_and, and_self, eq_self, ↓reduceIte, Nat.zero_add, Nat.le_refl, TT56]
  refine ACall.intro (etherPut_a d s t m hd hs ht (by omega)) ?_
  simp only [ac_seq, ac_region, at_normal, ao_nil, ao_cons, as_call, as_move, as_assign, as_load, fr_false, List.contains_nil, hk_some, hopF, evT, lk, putT, loadF, argsF, TK.isAgg, List.length_cons, List.length_nil, List.getElem?_cons_zero, List.drop_zero, List.take_succ_cons, List.take_nil, Option.map_some, Nat.reduceAdd, Nat.reduceEqDiff, true_and, eq_self, ↓reduceIte, Nat.zero_add, Nat.le_refl, TT56]
  refine ACall.intro (refPut04_a d s t m hd hs ht (by omega)) ?_
  simp only [ao_cons, as_call, evT, lk, putT, argsF, Option.map_some, Nat.reduceEqDiff, eq_self, ↓reduceIte]
  refine ACall.intro (refSame_a _ _) ?_
  simp only [ac_skip, ac_seq, ac_cond, ac_region, at_normal, ao_nil, ao_cons, if_f, as_call, as_move, as_unOp, boA, fr_false, List.contains_nil, beq_self_eq_true, hk_some, hopF, evT, lk, putT, unF, argsF, Option.map_some, Nat.reduceEqDiff, true_and, eq_self, Bool.not_true, ↓reduceIte]
  have hl := ethB_len d s t m
  refine ACall.intro (etherParse_a (ethB d s t m) (by omega)) ?_
  simp only [ac_seq, ac_cond, ac_region, at_normal, ao_nil, ao_cons, as_alloc, as_store, as_move, as_assign, as_binOp, as_load, as_fieldAddr, as_extract, macL, frameA, u8A, u16A, i64, fr_false, List.contains_nil, Bool.and_self, hk_some, hopF, heapF, evT, lk, putT, binF, loadF, cellsF, ovw, okCell, constA, cellA, TK.isAgg, Value.oneCell', List.length_cons, List.length_nil, List.getElem?_cons_zero, List.getElem?_cons_succ, List.drop_zero, List.drop_succ_cons, List.set_cons_zero, List.set_cons_succ, List.nil_append, List.cons_append, List.all_cons, List.all_nil, Option.map_some, Nat.reduceAdd, Nat.reduceEqDiff, Nat.succ_ne_zero, ne_eq, not_false_eq_true, true_and, and_self, eq_self, Bool.false_eq_true, ↓reduceIte, Nat.zero_add, Nat.le_refl, TT23, TT56]
  rw [ethP_B d s t m ht]
  by_cases hc : t < 1536
  · rw [if_pos hc]
    simp only [hc, ac_seq, ac_region, ao_cons, ao_guard_t, st_at, if_t, as_call, as_move, as_binOp, as_load, as_build, fr_false, List.contains_nil, decide_true, hk_some, hopF, evT, lk, putT, GV, gdst, binF, loadF, fillF, buildF, partsF, argsF, constA, cellA, TK.isAgg, List.length_cons, List.length_nil, List.getElem?_cons_zero, List.getElem?_cons_succ, List.drop_zero, List.take_succ_cons, List.take_nil, Option.map_some, Nat.reduceAdd, Nat.reduceEqDiff, true_and, eq_self, ↓reduceIte, Nat.zero_add, Nat.le_refl, TT56, TT61]
    refine ACall.intro (refSame04_a m0 m0 m0 m0 0 0 [] []) ?_
    simp only [mEq_self, ao_cons, ao_guard_t, st_at, pk_at, if_t, as_pick, as_call, as_move, boA, beq_self_eq_true, decide_true, Bool.and_self, evT, lk, putT, GV, gdst, argsF, Nat.reduceEqDiff, eq_self, ↓reduceIte]
    refine ACall.intro lives04_a ?_
    simp only [ac_ret, at_normal, at_ret, ae_ret, ao_nil, ao_cons, pk_at, if_t, as_pick, as_assign, boA, evT, lk, putT, resF, resL, Option.map_some, Option.bind_some, Nat.reduceEqDiff, and_true, and_self, eq_self, ↓reduceIte]
  · rw [if_neg hc]
    simp only [hc, ac_skip, ac_seq, ac_region, at_normal, ao_cons, ao_guard_t, st_at, if_t, if_f, as_call, as_move, as_binOp, as_load, fr_false, List.contains_nil, decide_true, decide_false, hk_some, hopF, evT, lk, putT, GV, gdst, binF, loadF, argsF, constA, cellA, TK.isAgg, List.length_cons, List.length_nil, List.getElem?_cons_zero, List.getElem?_cons_succ, List.drop_zero, List.take_succ_cons, List.take_nil, Option.map_some, Nat.reduceAdd, Nat.reduceEqDiff, true_and, eq_self, ↓reduceIte, Nat.zero_add, Nat.le_refl, TT56, TT61]
    refine ACall.intro (refSame04_a ..) ?_
    simp only [ethB_d d s t m hd, ethB_s d s t m hs, ao_cons, ao_guard_t, st_at, pk_at, if_t, as_pick, as_call, as_move, boA, beq_self_eq_true, decide_true, Bool.and_self, evT, lk, putT, GV, gdst, argsF, Nat.reduceEqDiff, eq_self, ↓reduceIte]
    refine ACall.intro lives04_a ?_
    simp only [ac_ret, at_normal, ae_ret, ao_nil, ao_cons, pk_at, if_t, as_pick, as_assign, boA, evT, lk, putT, resF, resL, Option.map_some, Option.bind_some, Nat.reduceEqDiff, and_true, and_self, eq_self, ↓reduceIte]
end Go.Proofs.Ytdbaehpfjpghfaa
