/- The statements of arp. -/
import Derived.Test.YtdbaehpfjpghfaaCM
namespace Go.Proofs.Ytdbaehpfjpghfaa
set_option linter.unusedSimpArgs false
set_option linter.unusedVariables false
open Go.RowKit

theorem arpB_len (o : Int) (s : Nat → Int) (x : Int) (d : Nat → Int) (y : Int) : (arpB o s x d y).length = 28 := by simp [arpB, arp0, macB, length_put16, length_put32]
theorem arpB_o (o : Int) (s : Nat → Int) (x : Int) (d : Nat → Int) (y : Int) (r : List UInt8) (ho : 0 ≤ o ∧ o ≤ 65535) : get16 (arpB o s x d y ++ r) 6 = o := by
  have := get16_put arp0 (macB s 6 ++ put32 [x] ++ macB d 6 ++ put32 [y] ++ r) o ho
  simpa [arpB, List.append_assoc, arp0] using this
theorem arpB_s (o : Int) (s : Nat → Int) (x : Int) (d : Nat → Int) (y : Int) (r : List UInt8) (hs : macOk s) (i : Nat) (hi : i < 6) : macAt (arpB o s x d y ++ r) 8 i = s i := by
  have := macAt_B (arp0 ++ put16 [o]) s (put32 [x] ++ macB d 6 ++ put32 [y] ++ r) hs i hi
  rw [← this]
  simp [arpB, List.append_assoc, arp0, length_put16]
theorem arpB_x (o : Int) (s : Nat → Int) (x : Int) (d : Nat → Int) (y : Int) (r : List UInt8) (hx : 0 ≤ x ∧ x ≤ 4294967295) : get32 (arpB o s x d y ++ r) 14 = x := by
  have := get32_put (arp0 ++ put16 [o] ++ macB s 6) (macB d 6 ++ put32 [y] ++ r) x hx
  simpa [arpB, List.append_assoc, arp0, macB, length_put16] using this
theorem arpB_d (o : Int) (s : Nat → Int) (x : Int) (d : Nat → Int) (y : Int) (r : List UInt8) (hd : macOk d) (i : Nat) (hi : i < 6) : macAt (arpB o s x d y ++ r) 18 i = d i := by
  have := macAt_B (arp0 ++ put16 [o] ++ macB s 6 ++ put32 [x]) d (put32 [y] ++ r) hd i hi
  rw [← this]
  simp [arpB, List.append_assoc, arp0, macB, length_put16, length_put32]
theorem arpB_y (o : Int) (s : Nat → Int) (x : Int) (d : Nat → Int) (y : Int) (r : List UInt8) (hy : 0 ≤ y ∧ y ≤ 4294967295) : get32 (arpB o s x d y ++ r) 24 = y := by
  have := get32_put (arp0 ++ put16 [o] ++ macB s 6 ++ put32 [x] ++ macB d 6) r y hy
  simpa [arpB, List.append_assoc, arp0, macB, length_put16, length_put32] using this
theorem arpB_q (o : Int) (s : Nat → Int) (x : Int) (d : Nat → Int) (y : Int) (r : List UInt8) (ho : 0 ≤ o ∧ o ≤ 65535) (hs : macOk s) : arpQ (arpB o s x d y ++ r) = ((decide (o = 1) || decide (o = 2)) && uni s) := by
  have e : (arpB o s x d y ++ r).take 6 = arp0 := by
    simp only [arpB, List.append_assoc]
    rw [List.take_left' (by simp [arp0])]
  have eu : uni (macAt (arpB o s x d y ++ r) 8) = uni s := by
    simp only [uni, mEq, arpB_s o s x d y r hs 0 (by omega), arpB_s o s x d y r hs 1 (by omega), arpB_s o s x d y r hs 2 (by omega), arpB_s o s x d y r hs 3 (by omega), arpB_s o s x d y r hs 4 (by omega), arpB_s o s x d y r hs 5 (by omega)]
  rw [arpQ, e, arpB_o o s x d y r ho, eu]
  simp
def m2 : Nat → Int | 0 => 2 | _ => 0
theorem m2_ok : macOk m2 := fun i _ => by unfold m2; split <;> omega
theorem m0_ok : macOk m0 := fun i _ => by simp [m0]
set_option maxRecDepth 100000 in
theorem lives05_a : ASpec Try.prog 96 [] (boA true) := by
  have hl := arpB_len 1 m2 5 m0 6
  have hq : arpQ (arpB 1 m2 5 m0 6) = true := by
    have := arpB_q 1 m2 5 m0 6 [] (by omega) m2_ok
    rw [List.append_nil] at this
    rw [this]
    decide
  have hp : arpP (arpB 1 m2 5 m0 6) = ((get16 (arpB 1 m2 5 m0 6) 6, macAt (arpB 1 m2 5 m0 6) 8, get32 (arpB 1 m2 5 m0 6) 14, macAt (arpB 1 m2 5 m0 6) 18, get32 (arpB 1 m2 5 m0 6) 24), 0) := by rw [arpP, hq]; rfl
  have f1 := arpB_o 1 m2 5 m0 6 [] (by omega)
  have f2 := arpB_x 1 m2 5 m0 6 [] (by omega)
  have f3 := arpB_y 1 m2 5 m0 6 [] (by omega)
  have f4 := arpB_s 1 m2 5 m0 6 [] m2_ok
  have f5 := arpB_d 1 m2 5 m0 6 [] m0_ok
  rw [List.append_nil] at f1 f2 f3 f4 f5
  refine ASpec.of_body TT_ok Try.mixed _ [.tmp 0] [] Try.func96 (by kernel_rfl) rfl rfl (by simp only [Try.ntmps96, List.length_nil]; omega) rfl (by kernel_rfl) ?_
  simp only [argE_nil, ac_seq, ac_region, at_normal, ao_nil, ao_cons, as_call, as_assign, as_build, boA, fr_false, List.contains_nil, hk_some, hopF, evT, lk, putT, cellsF, ovw, fillF, buildF, partsF, argsF, constA, cellA, Value.oneCell', List.length_cons, List.length_nil, List.set_cons_zero, Option.map_some, Nat.reduceAdd, Nat.reduceLeDiff, true_and, and_self, eq_self, ↓reduceIte, Nat.mul_one, Nat.zero_add, TT29]
  refine ACall.intro (arpAsk_a m2 5 6) ?_
  simp only [ac_seq, ac_region, at_normal, ao_nil, ao_cons, as_call, as_alloc, as_store, as_load, macL, arpA, u8A, u16A, u32A, fr_false, List.contains_nil, Bool.and_self, hk_some, hopF, heapF, evT, lk, putT, loadF, cellsF, ovw, argsF, okCell, TK.isAgg, Value.oneCell', List.length_cons, List.length_nil, List.getElem?_cons_zero, List.drop_zero, List.take_succ_cons, List.take_nil, List.set_cons_zero, List.set_cons_succ, List.nil_append, List.cons_append, List.all_cons, List.all_nil, Option.map_some, Nat.reduceAdd, Nat.reduceEqDiff, true_and, and_self, eq_self, ↓reduceIte, Nat.zero_add, Nat.le_refl, TT113]
  refine ACall.intro (arpPut_a 1 m2 5 m0 6 (by omega) m2_ok (by omega) m0_ok (by omega)) ?_
  simp only [ao_cons, as_call, evT, lk, putT, argsF, Option.map_some, eq_self, ↓reduceIte]
  refine ACall.intro (arpParse_a (arpB 1 m2 5 m0 6) (by omega) (by omega)) ?_
  rw [hp]
  simp only [f1, f2, f3, f4 0 (by omega), f4 1 (by omega), f4 2 (by omega), f4 3 (by omega), f4 4 (by omega), f4 5 (by omega), f5 0 (by omega), f5 1 (by omega), f5 2 (by omega), f5 3 (by omega), f5 4 (by omega), f5 5 (by omega), ac_seq, ac_region, at_normal, ao_nil, ao_cons, ao_guard_t, st_at, pk_at, if_t, as_pick, as_call, as_alloc, as_store, as_move, as_assign, as_binOp, as_load, as_extract, macL, arpA, u8A, u16A, u32A, i64, fr_false, List.contains_nil, decide_true, Bool.and_self, hk_some, hopF, heapF, evT, lk, putT, GV, gdst, binF, loadF, cellsF, ovw, intsK, argsF, okCell, constA, cellA, TK.isAgg, Value.oneCell', List.length_cons, List.length_nil, List.getElem?_cons_zero, List.getElem?_cons_succ, List.drop_zero, List.take_succ_cons, List.take_nil, List.set_cons_zero, List.set_cons_succ, List.nil_append, List.cons_append, List.all_cons, List.all_nil, Option.map_some, Option.bind_some, Nat.reduceAdd, Nat.reduceEqDiff, true_and, and_self, eq_self, ↓reduceIte, Nat.zero_add, Nat.le_refl, TT61, TT113]
  refine ACall.intro (arpPut_a 1 m2 5 m0 6 (by omega) m2_ok (by omega) m0_ok (by omega)) ?_
  simp only [hl, ac_ret, at_normal, ae_ret, ao_nil, ao_cons, ao_guard_t, st_at, pk_at, if_t, as_pick, as_assign, as_binOp, as_len, Int.cast_ofNat_Int, decide_true, hk_some, hopF, evT, lk, putT, GV, gdst, lenF, binF, resF, resL, constA, cellA, Option.map_some, Option.bind_some, Nat.reduceEqDiff, and_true, and_self, eq_self, ↓reduceIte, TT3, TT38]
set_option maxRecDepth 100000 in
theorem arpParses_a (l : List UInt8) : ASpec Try.prog 15 [.bs l] (boA true) := by
  have h3 : (l.take 300).length ≤ 300 := by simp; omega
  refine ASpec.of_body TT_ok Try.mixed _ [.tmp 2] [] Try.func15 (by kernel_rfl) rfl rfl (by simp only [Try.ntmps15, List.length_cons, List.length_nil]; omega) rfl (by kernel_rfl) ?_
  simp only [argE_cons, argE_nil, ac_seq, ac_region, at_normal, ao_nil, ao_cons, as_call, as_move, as_assign, boA, fr_false, List.contains_nil, evT, lk, putT, argsF, constA, cellA, Option.map_some, Nat.succ_ne_zero, eq_self, ↓reduceIte, Nat.zero_add]
  refine ACall.intro (few_a l 300) ?_
  generalize l.take 300 = m at *
  simp only [ac_seq, ac_region, at_normal, ao_nil, ao_cons, as_call, as_move, as_assign, fr_false, List.contains_nil, evT, lk, putT, argsF, Option.map_some, eq_self, ↓reduceIte]
  by_cases hn : m.length < 28
  · refine ACall.intro (arpParse_s m hn) ?_
    simp only [ac_seq, ac_region, at_normal, ao_nil, ao_cons, as_call, as_alloc, as_store, as_move, as_assign, as_extract, macL, arpA, u8A, u16A, u32A, i64, fr_false, List.contains_nil, Bool.and_self, hk_some, hopF, heapF, evT, lk, putT, cellsF, ovw, argsF, okCell, Value.oneCell', List.length_cons, List.length_nil, List.getElem?_cons_zero, List.getElem?_cons_succ, List.set_cons_zero, List.set_cons_succ, List.nil_append, List.cons_append, List.all_cons, List.all_nil, Option.map_some, Nat.reduceAdd, Nat.reduceEqDiff, Nat.succ_ne_zero, true_and, and_self, eq_self, ↓reduceIte, Nat.zero_add, Nat.le_refl, TT113]
    refine ACall.intro (refParse05_s m hn) ?_
    simp only [ac_seq, ac_region, at_normal, ao_nil, ao_cons, ao_guard_t, ao_guard_f, st_at, sk_at, pk_at, if_t, as_pick, as_call, as_alloc, as_store, as_move, as_assign, as_binOp, as_load, as_extract, macL, arpA, u8A, u16A, u32A, i64, fr_false, List.contains_nil, decide_true, decide_false, Bool.and_self, Int.reduceEq, hk_some, hopF, heapF, evT, lk, putT, GV, gdst, binF, loadF, cellsF, ovw, intsK, argsF, okCell, constA, cellA, TK.isAgg, Value.oneCell', List.length_cons, List.length_nil, List.getElem?_cons_zero, List.getElem?_cons_succ, List.drop_zero, List.take_succ_cons, List.take_nil, List.set_cons_zero, List.set_cons_succ, List.nil_append, List.cons_append, List.all_cons, List.all_nil, Option.map_some, Option.bind_some, Nat.reduceAdd, Nat.reduceEqDiff, true_and, and_self, eq_self, Bool.not_false, ↓reduceIte, Nat.zero_add, Nat.le_refl, TT3, TT61, TT113]
    refine ACall.intro lives05_a ?_
    simp only [ac_ret, at_normal, ae_ret, ao_nil, ao_cons, pk_at, if_t, as_pick, as_assign, boA, evT, lk, putT, resF, resL, Option.map_some, Option.bind_some, Nat.reduceEqDiff, and_true, and_self, eq_self, ↓reduceIte]
  · refine ACall.intro (arpParse_a m (by omega) (by omega)) ?_
    simp only [ac_seq, ac_region, at_normal, ao_nil, ao_cons, as_call, as_alloc, as_store, as_move, as_assign, as_extract, macL, arpA, u8A, u16A, u32A, i64, fr_false, List.contains_nil, Bool.and_self, hk_some, hopF, heapF, evT, lk, putT, cellsF, ovw, argsF, okCell, Value.oneCell', List.length_cons, List.length_nil, List.getElem?_cons_zero, List.getElem?_cons_succ, List.set_cons_zero, List.set_cons_succ, List.nil_append, List.cons_append, List.all_cons, List.all_nil, Option.map_some, Nat.reduceAdd, Nat.reduceEqDiff, Nat.succ_ne_zero, true_and, and_self, eq_self, ↓reduceIte, Nat.zero_add, Nat.le_refl, TT113]
    refine ACall.intro (refParse05_a m (by omega) (by omega)) ?_
    cases hq : arpQ m
    · have hp : arpP m = ((0, m0, 0, m0, 0), 3) := by rw [arpP, hq]; rfl
      rw [hp]
      simp only [ac_seq, ac_region, at_normal, ao_nil, ao_cons, ao_guard_t, ao_guard_f, st_at, sk_at, pk_at, if_t, as_pick, as_call, as_alloc, as_store, as_move, as_assign, as_binOp, as_load, as_extract, macL, arpA, u8A, u16A, u32A, i64, fr_false, List.contains_nil, decide_true, decide_false, Bool.and_self, Int.reduceEq, hk_some, hopF, heapF, evT, lk, putT, GV, gdst, binF, loadF, cellsF, ovw, intsK, argsF, okCell, constA, cellA, TK.isAgg, Value.oneCell', List.length_cons, List.length_nil, List.getElem?_cons_zero, List.getElem?_cons_succ, List.drop_zero, List.take_succ_cons, List.take_nil, List.set_cons_zero, List.set_cons_succ, List.nil_append, List.cons_append, List.all_cons, List.all_nil, Option.map_some, Option.bind_some, Nat.reduceAdd, Nat.reduceEqDiff, true_and, and_self, eq_self, Bool.not_false, ↓reduceIte, Nat.zero_add, Nat.le_refl, TT3, TT61, TT113]
      refine ACall.intro lives05_a ?_
      simp only [ac_ret, at_normal, ae_ret, ao_nil, ao_cons, pk_at, if_t, as_pick, as_assign, boA, evT, lk, putT, resF, resL, Option.map_some, Option.bind_some, Nat.reduceEqDiff, and_true, and_self, eq_self, ↓reduceIte]
    · have hp : arpP m = ((get16 m 6, macAt m 8, get32 m 14, macAt m 18, get32 m 24), 0) := by rw [arpP, hq]; rfl
      rw [hp]
      simp only [ac_seq, ac_region, at_normal, ao_nil, ao_cons, ao_guard_t, ao_guard_f, st_at, pk_at, if_t, if_f, as_pick, as_call, as_alloc, as_store, as_move, as_assign, as_binOp, as_load, as_extract, macL, arpA, u8A, u16A, u32A, i64, fr_false, List.contains_nil, decide_true, Bool.and_self, hk_some, hopF, heapF, evT, lk, putT, GV, gdst, binF, loadF, cellsF, ovw, intsK, argsF, okCell, constA, cellA, TK.isAgg, Value.oneCell', List.length_cons, List.length_nil, List.getElem?_cons_zero, List.getElem?_cons_succ, List.drop_zero, List.take_succ_cons, List.take_nil, List.set_cons_zero, List.set_cons_succ, List.nil_append, List.cons_append, List.all_cons, List.all_nil, Option.map_some, Option.bind_some, Nat.reduceAdd, Nat.reduceEqDiff, true_and, and_self, eq_self, Bool.not_true, ↓reduceIte, Nat.zero_add, Nat.le_refl, TT3, TT61, TT113]
      have hs := arpB_same m (by omega)
      refine ACall.intro (arpPut_a (get16 m 6) (macAt m 8) (get32 m 14) (macAt m 18) (get32 m 24) (get16_bd _ _) (macAt_ok _ _) (get32_bd _ _) (macAt_ok _ _) (get32_bd _ _)) ?_
      simp only [ao_guard_f, st_at, if_f, as_call, as_move, as_slice, hk_some, hopF, evT, lk, putT, GV, gdst, bndF, cutF, argsF, constA, cellA, List.drop_zero, Option.map_some, Option.map_none, Option.bind_some, Nat.reduceEqDiff, Nat.succ_ne_zero, true_and, eq_self, ↓reduceIte, Int.toNat_zero, Int.reduceToNat, Int.reduceLE, Int.reduceSub, TT38]
      refine ⟨by omega, ACall.intro (refSame_a _ (m.take 28)) ?_⟩
      have h6 : (m.take 6 == arp0) = true := by
        simp only [arpQ, Bool.and_eq_true] at hq
        exact hq.1.1
      simp only [hs, h6, ao_cons, ao_guard_t, st_at, pk_at, if_t, if_f, as_pick, as_call, as_move, boA, evT, lk, putT, GV, gdst, argsF, Nat.reduceEqDiff, eq_self, ↓reduceIte]
      refine ACall.intro lives05_a ?_
      simp only [ac_ret, at_normal, ae_ret, ao_nil, ao_cons, pk_at, if_t, as_pick, as_assign, boA, evT, lk, putT, resF, resL, Option.map_some, Option.bind_some, Nat.reduceEqDiff, and_true, and_self, eq_self, ↓reduceIte]
set_option maxHeartbeats 1000000 in
set_option maxRecDepth 100000 in
theorem arpPuts_a (o : Int) (s : Nat → Int) (x : Int) (d : Nat → Int) (y : Int) (l : List UInt8) (ho : 0 ≤ o ∧ o ≤ 65535) (hs : macOk s) (hx : 0 ≤ x ∧ x ≤ 4294967295) (hd : macOk d) (hy : 0 ≤ y ∧ y ≤ 4294967295) : ASpec Try.prog 16 [arpA o s x d y, .bs l] (boA true) := by
  have h3 : (l.take 40).length ≤ 40 := by simp; omega
  have hl := arpB_len o s x d y
  refine ASpec.of_body TT_ok Try.mixed _ [.tmp 4] [] Try.func16 (by kernel_rfl) rfl rfl (by simp only [Try.ntmps16, List.length_cons, List.length_nil]; omega) rfl (by kernel_rfl) ?_
  simp only [argE_cons, argE_nil, ac_seq, ac_region, at_normal, ao_nil, ao_cons, as_call, as_box, as_assign, as_load, macL, arpA, u8A, u16A, u32A, boA, fr_false, List.contains_nil, hk_some, hopF, heapF, evT, lk, putT, loadF, cellsF, argsF, constA, cellA, TK.isAgg, List.length_cons, List.length_nil, List.getElem?_cons_zero, List.drop_zero, List.take_succ_cons, List.take_nil, List.nil_append, List.cons_append, Option.map_some, Nat.reduceAdd, Nat.reduceEqDiff, true_and, eq_self, ↓reduceIte, Nat.zero_add, Nat.le_refl, TT113]
  refine ACall.intro (arpPut_a o s x d y ho hs hx hd hy) ?_
  simp only [ac_seq, ac_region, at_normal, ao_nil, ao_cons, as_call, as_move, as_assign, as_load, fr_false, List.contains_nil, hk_some, hopF, evT, lk, putT, loadF, argsF, TK.isAgg, List.length_cons, List.length_nil, List.getElem?_cons_zero, List.drop_zero, List.take_succ_cons, List.take_nil, Option.map_some, Nat.reduceAdd, Nat.reduceEqDiff, true_and, eq_self, ↓reduceIte, Nat.zero_add, Nat.le_refl, TT113]
  refine ACall.intro (refPut05_a o s x d y ho hs hx hd hy) ?_
  simp only [ao_cons, as_call, evT, lk, putT, argsF, Option.map_some, Nat.reduceEqDiff, eq_self, ↓reduceIte]
  refine ACall.intro (refSame_a _ _) ?_
  simp only [ac_skip, ac_seq, ac_cond, ac_region, at_normal, ao_nil, ao_cons, if_f, as_call, as_move, as_unOp, boA, fr_false, List.contains_nil, beq_self_eq_true, hk_some, hopF, evT, lk, putT, unF, argsF, constA, cellA, Option.map_some, Nat.reduceEqDiff, true_and, eq_self, reduceCtorEq, Bool.not_true, ↓reduceIte]
  refine ACall.intro (few_a l 40) ?_
  generalize l.take 40 = m at *
  simp only [ao_cons, as_call, evT, lk, putT, argsF, Option.map_some, Nat.reduceEqDiff, eq_self, ↓reduceIte]
  refine ACall.intro (add_a (arpB o s x d y) m (by omega)) ?_
  simp only [ao_cons, as_call, evT, lk, putT, argsF, Option.map_some, eq_self, ↓reduceIte]
  have hlen : (arpB o s x d y ++ m).length = 28 + m.length := by simp [hl]
  refine ACall.intro (arpParse_a (arpB o s x d y ++ m) (by omega) (by omega)) ?_
  have hq := arpB_q o s x d y m ho hs
  have f1 := arpB_o o s x d y m ho
  have f2 := arpB_x o s x d y m hx
  have f3 := arpB_y o s x d y m hy
  have f4 := arpB_s o s x d y m hs
  have f5 := arpB_d o s x d y m hd
  generalize arpB o s x d y ++ m = B at *
  by_cases hk : o = 1 ∨ o = 2
  · have c1 : decide (o < 1) = false := decide_eq_false (by omega)
    have c2 : decide (2 < o) = false := decide_eq_false (by omega)
    have hk' : (decide (o = 1) || decide (o = 2)) = true := by simpa using hk
    cases hu : uni s
    · have hq' : arpQ B = false := by rw [hq, hu, Bool.and_false]
      have hp : arpP B = ((0, m0, 0, m0, 0), 3) := by rw [arpP, hq']; rfl
      rw [hp]
      simp only [c1, c2, ac_seq, ac_region, at_normal, ao_nil, ao_cons, ao_guard_f, st_at, pk_at, if_f, as_pick, as_call, as_alloc, as_store, as_move, as_assign, as_binOp, as_load, as_fieldAddr, as_extract, macL, arpA, u8A, u16A, u32A, i64, fr_false, List.contains_nil, Bool.and_self, hk_some, hopF, heapF, evT, lk, putT, GV, gdst, binF, loadF, cellsF, ovw, argsF, okCell, constA, cellA, TK.isAgg, Value.oneCell', List.length_cons, List.length_nil, List.getElem?_cons_zero, List.getElem?_cons_succ, List.drop_zero, List.drop_succ_cons, List.take_zero, List.take_succ_cons, List.set_cons_zero, List.set_cons_succ, List.nil_append, List.cons_append, List.all_cons, List.all_nil, Option.map_some, Nat.reduceAdd, Nat.reduceEqDiff, Nat.reduceLeDiff, Nat.succ_ne_zero, ne_eq, not_false_eq_true, true_and, and_self, eq_self, Bool.false_eq_true, ↓reduceIte, Nat.zero_add, Nat.add_zero, Nat.le_refl, TT23, TT29, TT113]
      refine ACall.intro (unicast_a s hs) ?_
      rw [show (!decide (s 0 % 2 = 1) && !mEq s m0) = false from hu]
      simp only [m0, ac_seq, ac_cond, ac_region, at_normal, ao_nil, ao_cons, ao_guard_t, ao_guard_f, st_at, pk_at, if_t, if_f, as_pick, as_call, as_move, as_binOp, as_unOp, as_load, as_build, boA, fr_false, List.contains_nil, decide_true, hk_some, hopF, evT, lk, putT, GV, gdst, binF, unF, loadF, fillF, buildF, intsK, partsF, argsF, constA, cellA, TK.isAgg, List.length_cons, List.length_nil, List.getElem?_cons_zero, List.getElem?_cons_succ, List.drop_zero, List.take_succ_cons, List.take_nil, Option.map_some, Option.bind_some, Nat.reduceAdd, Nat.reduceEqDiff, true_and, eq_self, Bool.not_false, ↓reduceIte, Nat.zero_add, Nat.le_refl, TT61, TT113]
      refine ACall.intro lives05_a ?_
      simp only [ac_ret, at_normal, at_ret, ae_ret, ao_nil, ao_cons, pk_at, if_t, as_pick, as_assign, boA, evT, lk, putT, resF, resL, Option.map_some, Option.bind_some, Nat.reduceEqDiff, and_true, and_self, eq_self, ↓reduceIte]
    · have hq' : arpQ B = true := by rw [hq, hu, hk']; rfl
      have hp : arpP B = ((get16 B 6, macAt B 8, get32 B 14, macAt B 18, get32 B 24), 0) := by rw [arpP, hq']; rfl
      rw [hp]
      simp only [c1, c2, ac_seq, ac_region, at_normal, ao_nil, ao_cons, ao_guard_f, st_at, pk_at, if_f, as_pick, as_call, as_alloc, as_store, as_move, as_assign, as_binOp, as_load, as_fieldAddr, as_extract, macL, arpA, u8A, u16A, u32A, i64, fr_false, List.contains_nil, Bool.and_self, hk_some, hopF, heapF, evT, lk, putT, GV, gdst, binF, loadF, cellsF, ovw, argsF, okCell, constA, cellA, TK.isAgg, Value.oneCell', List.length_cons, List.length_nil, List.getElem?_cons_zero, List.getElem?_cons_succ, List.drop_zero, List.drop_succ_cons, List.take_zero, List.take_succ_cons, List.set_cons_zero, List.set_cons_succ, List.nil_append, List.cons_append, List.all_cons, List.all_nil, Option.map_some, Nat.reduceAdd, Nat.reduceEqDiff, Nat.reduceLeDiff, Nat.succ_ne_zero, ne_eq, not_false_eq_true, true_and, and_self, eq_self, Bool.false_eq_true, ↓reduceIte, Nat.zero_add, Nat.add_zero, Nat.le_refl, TT23, TT29, TT113]
      refine ACall.intro (unicast_a s hs) ?_
      rw [show (!decide (s 0 % 2 = 1) && !mEq s m0) = true from hu]
      simp only [f1, f2, f3, f4 0 (by omega), f4 1 (by omega), f4 2 (by omega), f4 3 (by omega), f4 4 (by omega), f4 5 (by omega), f5 0 (by omega), f5 1 (by omega), f5 2 (by omega), f5 3 (by omega), f5 4 (by omega), f5 5 (by omega), ac_skip, ac_seq, ac_cond, ac_region, at_normal, ao_nil, ao_cons, ao_guard_t, ao_guard_f, st_at, pk_at, if_t, if_f, as_pick, as_call, as_move, as_binOp, as_unOp, as_load, boA, fr_false, List.contains_nil, decide_true, hk_some, hopF, evT, lk, putT, GV, gdst, binF, unF, loadF, intsK, argsF, constA, cellA, TK.isAgg, List.length_cons, List.length_nil, List.getElem?_cons_zero, List.getElem?_cons_succ, List.drop_zero, List.take_succ_cons, List.take_nil, Option.map_some, Option.bind_some, Nat.reduceAdd, Nat.reduceEqDiff, true_and, eq_self, Bool.not_true, ↓reduceIte, Nat.zero_add, Nat.le_refl, TT61, TT113]
      refine ACall.intro lives05_a ?_
      simp only [ac_ret, at_normal, ae_ret, ao_nil, ao_cons, pk_at, if_t, as_pick, as_assign, boA, evT, lk, putT, resF, resL, Option.map_some, Option.bind_some, Nat.reduceEqDiff, and_true, and_self, eq_self, ↓reduceIte]
  · have hq' : arpQ B = false := by
      rw [hq, decide_eq_false (show ¬ o = 1 by omega), decide_eq_false (show ¬ o = 2 by omega)]
      rfl
    have hp : arpP B = ((0, m0, 0, m0, 0), 3) := by rw [arpP, hq']; rfl
    rw [hp]
    by_cases c1 : o < 1
    · simp only [decide_eq_true c1, m0, ac_seq, ac_cond, ac_region, at_normal, ao_nil, ao_cons, ao_guard_t, ao_guard_f, st_at, sk_at, pk_at, if_t, as_pick, as_call, as_alloc, as_store, as_move, as_assign, as_binOp, as_load, as_fieldAddr, as_extract, as_build, macL, arpA, u8A, u16A, u32A, i64, fr_false, List.contains_nil, decide_true, Bool.and_self, hk_some, hopF, heapF, evT, lk, putT, GV, gdst, binF, loadF, cellsF, ovw, fillF, buildF, intsK, partsF, argsF, okCell, constA, cellA, TK.isAgg, Value.oneCell', List.length_cons, List.length_nil, List.getElem?_cons_zero, List.getElem?_cons_succ, List.drop_zero, List.take_succ_cons, List.take_nil, List.set_cons_zero, List.set_cons_succ, List.nil_append, List.cons_append, List.all_cons, List.all_nil, Option.map_some, Option.bind_some, Nat.reduceAdd, Nat.reduceEqDiff, Nat.succ_ne_zero, ne_eq, not_false_eq_true, true_and, and_self, eq_self, Bool.false_eq_true, ↓reduceIte, Nat.zero_add, Nat.add_zero, Nat.le_refl, TT23, TT61, TT113]
      refine ACall.intro lives05_a ?_
      simp only [ac_ret, at_normal, at_ret, ae_ret, ao_nil, ao_cons, pk_at, if_t, as_pick, as_assign, boA, evT, lk, putT, resF, resL, Option.map_some, Option.bind_some, Nat.reduceEqDiff, and_true, and_self, eq_self, ↓reduceIte]
    · simp only [decide_eq_false c1, decide_eq_true (show 2 < o by omega), m0, ac_seq, ac_cond, ac_region, at_normal, ao_nil, ao_cons, ao_guard_t, ao_guard_f, st_at, sk_at, pk_at, if_t, if_f, as_pick, as_call, as_alloc, as_store, as_move, as_assign, as_binOp, as_load, as_fieldAddr, as_extract, as_build, macL, arpA, u8A, u16A, u32A, i64, fr_false, List.contains_nil, decide_true, Bool.and_self, hk_some, hopF, heapF, evT, lk, putT, GV, gdst, binF, loadF, cellsF, ovw, fillF, buildF, intsK, partsF, argsF, okCell, constA, cellA, TK.isAgg, Value.oneCell', List.length_cons, List.length_nil, List.getElem?_cons_zero, List.getElem?_cons_succ, List.drop_zero, List.take_succ_cons, List.take_nil, List.set_cons_zero, List.set_cons_succ, List.nil_append, List.cons_append, List.all_cons, List.all_nil, Option.map_some, Option.bind_some, Nat.reduceAdd, Nat.reduceEqDiff, Nat.succ_ne_zero, ne_eq, not_false_eq_true, true_and, and_self, eq_self, Bool.false_eq_true, ↓reduceIte, Nat.zero_add, Nat.add_zero, Nat.le_refl, TT23, TT61, TT113]
      refine ACall.intro lives05_a ?_
      simp only [ac_ret, at_normal, at_ret, ae_ret, ao_nil, ao_cons, pk_at, if_t, as_pick, as_assign, boA, evT, lk, putT, resF, resL, Option.map_some, Option.bind_some, Nat.reduceEqDiff, and_true, and_self, eq_self, ↓reduceIte]
set_option maxHeartbeats 1000000 in
set_option maxRecDepth 100000 in
theorem arpAsks_a (m n : Nat → Int) (ip want : Int) (to : Nat → Int) (hm : macOk m) (hn : macOk n) (h1 : 0 ≤ ip ∧ ip ≤ 4294967295) (h2 : 0 ≤ want ∧ want ≤ 4294967295) : ASpec Try.prog 20 [macA m, macA n, u32A ip, u32A want, macA to] (boA true) := by
  refine ASpec.of_body TT_ok Try.mixed _ [.tmp 10] [] Try.func20 (by kernel_rfl) rfl rfl (by simp only [Try.ntmps20, List.length_cons, List.length_nil]; omega) rfl (by kernel_rfl) ?_
  simp only [argE_cons, argE_nil, ac_seq, ac_region, at_normal, ao_nil, ao_cons, as_call, as_box, as_move, as_assign, as_load, macL, macA, u8A, u32A, boA, fr_false, List.contains_nil, hk_some, hopF, heapF, evT, lk, putT, loadF, cellsF, argsF, constA, cellA, TK.isAgg, List.length_cons, List.length_nil, List.getElem?_cons_zero, List.drop_zero, List.take_succ_cons, List.take_nil, List.nil_append, List.cons_append, Option.map_some, Nat.reduceAdd, Nat.reduceEqDiff, true_and, eq_self, reduceCtorEq, ↓reduceIte, Nat.zero_add, Nat.le_refl, TT29]
  refine ACall.intro (arpAsk_a m ip want) ?_
  simp only [ac_seq, ac_region, at_normal, ao_nil, ao_cons, as_call, as_alloc, as_store, as_load, macL, arpA, u8A, u16A, u32A, fr_false, List.contains_nil, Bool.and_self, hk_some, hopF, heapF, evT, lk, putT, loadF, cellsF, ovw, argsF, okCell, TK.isAgg, Value.oneCell', List.length_cons, List.length_nil, List.getElem?_cons_zero, List.getElem?_cons_succ, List.drop_zero, List.take_succ_cons, List.take_nil, List.set_cons_zero, List.set_cons_succ, List.nil_append, List.cons_append, List.all_cons, List.all_nil, Option.map_some, Nat.reduceAdd, Nat.reduceEqDiff, true_and, and_self, eq_self, ↓reduceIte, Nat.zero_add, Nat.le_refl, TT29, TT113]
  refine ACall.intro (arpAnswer_a 1 m ip m0 want n) ?_
  simp only [m0, ac_skip, ac_seq, ac_cond, ac_region, at_normal, ao_nil, ao_cons, ao_guard_f, st_at, pk_at, if_f, as_pick, as_call, as_alloc, as_store, as_move, as_binOp, as_load, as_build, macL, arpA, u8A, u16A, u32A, fr_false, List.contains_nil, decide_true, Bool.and_self, hk_some, hopF, heapF, evT, lk, putT, GV, gdst, binF, loadF, cellsF, ovw, fillF, buildF, intsK, partsF, argsF, okCell, constA, cellA, TK.isAgg, Value.oneCell', List.length_cons, List.length_nil, List.getElem?_cons_zero, List.getElem?_cons_succ, List.drop_zero, List.take_succ_cons, List.take_nil, List.set_cons_zero, List.set_cons_succ, List.nil_append, List.cons_append, List.all_cons, List.all_nil, Option.map_some, Option.bind_some, Nat.reduceAdd, Nat.reduceEqDiff, Nat.reduceLeDiff, true_and, and_self, eq_self, reduceCtorEq, Bool.not_true, ↓reduceIte, Nat.zero_add, Nat.le_refl, TT29, TT113]
  refine ACall.intro (arpFrame_a 2 n want m ip to (by omega) hn h2 hm h1) ?_
  simp only [ac_seq, ac_region, at_normal, ao_nil, ao_cons, ao_guard_t, st_at, pk_at, if_t, as_pick, as_call, as_alloc, as_store, as_move, as_binOp, as_load, as_fieldAddr, macL, frameA, u8A, u16A, fr_false, List.contains_nil, decide_true, Bool.and_self, hk_some, hopF, heapF, evT, lk, putT, GV, gdst, binF, loadF, cellsF, ovw, argsF, intsOf, okCell, constA, cellA, TK.isAgg, Value.oneCell', List.length_cons, List.length_nil, List.getElem?_cons_zero, List.getElem?_cons_succ, List.drop_zero, List.drop_succ_cons, List.take_zero, List.take_succ_cons, List.take_nil, List.set_cons_zero, List.set_cons_succ, List.nil_append, List.cons_append, List.all_cons, List.all_nil, Option.map_some, Option.bind_some, Nat.reduceAdd, Nat.reduceEqDiff, Nat.reduceLeDiff, Nat.succ_ne_zero, ne_eq, not_false_eq_true, true_and, and_true, and_self, eq_self, Bool.false_eq_true, ↓reduceIte, Nat.zero_add, Nat.add_zero, Nat.le_refl, TT23, TT29, TT38, TT56, TT113]
  refine ACall.intro (refPut05_a 2 n want m ip (by omega) hn h2 hm h1) ?_
  simp only [ao_guard_t, st_at, if_t, as_call, evT, lk, putT, GV, gdst, argsF, Option.map_some, Nat.reduceEqDiff, eq_self, ↓reduceIte]
  refine ACall.intro (refSame_a _ _) ?_
  simp only [ao_cons, ao_guard_t, st_at, pk_at, if_t, as_pick, as_call, as_move, boA, beq_self_eq_true, evT, lk, putT, GV, gdst, argsF, Nat.reduceEqDiff, eq_self, ↓reduceIte]
  refine ACall.intro lives05_a ?_
  simp only [ac_ret, at_normal, ae_ret, ao_nil, ao_cons, pk_at, if_t, as_pick, as_assign, boA, evT, lk, putT, resF, resL, Option.map_some, Option.bind_some, Nat.reduceEqDiff, and_true, and_self, eq_self, ↓reduceIte]
end Go.Proofs.Ytdbaehpfjpghfaa
