/- The reference of udp. -/
import Derived.Test.YtafajmnlknmfiaaCH
import Derived.Test.YtafajmnlknmfiaaCF
namespace Go.Proofs.Ytafajmnlknmfiaa
set_option linter.unusedSimpArgs false
set_option linter.unusedVariables false
open Go.RowKit

set_option maxRecDepth 100000 in
theorem refHead08_a (src dst proto n : Int) (h1 : 0 ≤ src ∧ src ≤ 4294967295) (h2 : 0 ≤ dst ∧ dst ≤ 4294967295) (h3 : 0 ≤ proto ∧ proto ≤ 255) (hn : 0 ≤ n ∧ n ≤ 65535) : ASpec Try.prog 147 [u32A src, u32A dst, u8A proto, i64 n] (.bs (psB src dst proto n)) := by
  have e1 : psB src dst proto n = put32 [src] ++ put32 [dst] ++ [u8 0, u8 proto, u8 (n / 256), u8 n] := by
    rw [psB, show n % 65536 = n by omega]
    simp [put32, put16]
  rw [e1]
  refine ASpec.of_body TT_ok Try.mixed _ [.tmp 8] ([], []) Try.func147 (by kernel_rfl) rfl rfl (by simp only [Try.ntmps147, List.length_cons, List.length_nil]; omega) rfl (by kernel_rfl) ?_
  simp only [argE_cons, argE_nil, ac_seq, ac_region, at_normal, ao_nil, ao_cons, as_call, as_move, as_assign, u8A, u32A, i64, fr_false, List.contains_nil, beq_self_eq_true, rd, aopsD, frzW, frzR, constT, evT, lk, putT, argsF, constA, cellA, Option.map_some, Nat.reduceAdd, Nat.reduceSub, Nat.reduceLeDiff, Nat.succ_ne_zero, eq_self, Bool.false_eq_true, ↓reduceIte, Nat.zero_add]
  refine ACall.intro (refPut_a src 4 h1 (by omega)) ?_
  simp only [lowB_four, ao_cons, as_call, as_move, beq_self_eq_true, rd, frzW, frzR, constT, evT, lk, putT, argsF, constA, cellA, Option.map_some, Nat.reduceSub, Nat.reduceEqDiff, eq_self, reduceCtorEq, ↓reduceIte]
  refine ACall.intro (refPut_a dst 4 h2 (by omega)) ?_
  simp only [lowB_four, ao_cons, as_call, beq_self_eq_true, rd, frzW, frzR, evT, lk, putT, argsF, Option.map_some, Nat.reduceSub, Nat.reduceEqDiff, eq_self, ↓reduceIte]
  refine ACall.intro (add_a (put32 [src]) (put32 [dst]) (by simp [length_put32])) ?_
  simp only [u8bd, u8w, u8m, tdivN (a := n) (b := 256) (by omega), tmodN (a := n) (b := 256) (by omega), tmodN (a := n / 256) (b := 256) (by omega), i64_in (n := n / 256) (by omega) (by omega), ao_cons, as_call, as_move, as_binOp, as_convert, as_buildSlice, beq_self_eq_true, Int.reduceEq, hk_some, hopG, rd, frzW, frzR, constT, evT, lk, putT, binF, convF, cellsF, ovw, fillF, bytesOf, makeSF, partsF, argsF, constA, cellA, Value.oneCell', List.length_cons, List.length_nil, List.set_cons_zero, List.set_cons_succ, List.nil_append, List.cons_append, List.replicate_succ, List.replicate_zero, List.flatten_cons, List.flatten_nil, List.append_nil, Option.map_some, Nat.reduceAdd, Nat.reduceSub, Nat.reduceEqDiff, Nat.reduceLeDiff, ne_eq, not_false_eq_true, true_and, and_true, and_self, eq_self, reduceCtorEq, ↓reduceIte, Int.reduceLE, Nat.mul_one, Nat.zero_add, Nat.le_refl, TT3, TT5, TT38]
  refine ⟨h3, ACall.intro (add_a (put32 [src] ++ put32 [dst]) [u8 0, u8 proto, u8 (n / 256), u8 n] (by simp [length_put32])) ?_⟩
  simp only [ac_ret, at_normal, ae_ret, ao_nil, ao_cons, as_assign, beq_self_eq_true, rd, evT, lk, putT, resF, resL, Option.map_some, Option.bind_some, Nat.reduceSub, and_true, and_self, eq_self, ↓reduceIte]
set_option maxRecDepth 100000 in
theorem refSame08_a (sp dp : Int) (bare : Bool) (l : List UInt8) (sp' dp' : Int) (bare' : Bool) (l' : List UInt8) : ASpec Try.prog 112 [datA sp dp bare l, datA sp' dp' bare' l'] (boA (decide (sp = sp') && decide (dp = dp') && (bare == bare') && (l == l'))) := by
  refine ASpec.of_body TT_ok Try.mixed _ [.tmp 4] ([], []) Try.func112 (by kernel_rfl) rfl rfl (by simp only [Try.ntmps112, List.length_cons, List.length_nil]; omega) rfl (by kernel_rfl) ?_
  simp only [argE_cons, argE_nil, ac_seq, ac_region, at_normal, ao_nil, ao_cons, ao_guard_t, as_box, as_move, as_assign, as_binOp, as_load, as_fieldAddr, datA, u16A, boA, fr_false, List.contains_nil, beq_self_eq_true, hk_some, hopG, rd, aopsD, heapF, constT, evT, lk, putT, GV, gdst, binF, loadF, cellsF, constA, cellA, TK.isAgg, List.length_cons, List.length_nil, List.getElem?_cons_zero, List.getElem?_cons_succ, List.drop_zero, List.nil_append, List.cons_append, Option.map_some, Nat.reduceAdd, Nat.reduceSub, Nat.reduceEqDiff, Nat.reduceLeDiff, Nat.succ_ne_zero, ne_eq, not_false_eq_true, true_and, eq_self, reduceCtorEq, Bool.false_eq_true, ↓reduceIte, Nat.zero_add, Nat.add_zero, TT23, TT164]
  refine AIf.intro (fun h1 => ?_) (fun h1 => ?_)
  · simp only [h1, ao_cons, ao_guard_t, st_at, pk_at, if_t, as_pick, as_move, as_binOp, as_load, as_fieldAddr, beq_self_eq_true, Bool.true_and, hk_some, hopG, rd, evT, lk, putT, GV, gdst, binF, loadF, TK.isAgg, List.getElem?_cons_zero, List.getElem?_cons_succ, List.drop_zero, List.drop_succ_cons, Option.map_some, Nat.reduceSub, Nat.reduceEqDiff, Nat.succ_ne_zero, ne_eq, not_false_eq_true, true_and, eq_self, Bool.false_eq_true, ↓reduceIte, Nat.zero_add, TT23, TT164]
    refine AIf.intro (fun h2 => ?_) (fun h2 => ?_)
    · simp only [h2, ao_cons, ao_guard_t, st_at, pk_at, if_t, as_pick, as_move, as_binOp, as_load, as_fieldAddr, beq_self_eq_true, Bool.true_and, hk_some, hopG, rd, evT, lk, putT, GV, gdst, binF, loadF, TK.isAgg, List.getElem?_cons_zero, List.getElem?_cons_succ, List.drop_zero, List.drop_succ_cons, Option.map_some, Nat.reduceSub, Nat.reduceEqDiff, Nat.succ_ne_zero, ne_eq, not_false_eq_true, true_and, eq_self, Bool.false_eq_true, ↓reduceIte, Nat.zero_add, TT4, TT164]
      refine AIf.intro (fun h3 => ?_) (fun h3 => ?_)
      · simp only [h3, ao_guard_t, st_at, if_t, as_call, as_load, as_fieldAddr, beq_self_eq_true, Bool.true_and, hk_some, hopG, rd, frzW, frzR, evT, lk, putT, GV, gdst, loadF, argsF, TK.isAgg, List.getElem?_cons_zero, List.getElem?_cons_succ, List.drop_zero, List.drop_succ_cons, Option.map_some, Nat.reduceSub, Nat.reduceEqDiff, Nat.succ_ne_zero, ne_eq, not_false_eq_true, true_and, eq_self, Bool.false_eq_true, ↓reduceIte, Nat.zero_add, TT38, TT164]
        refine ACall.intro (refSame_a l l') ?_
        simp only [ac_ret, at_normal, ae_ret, ao_nil, ao_cons, pk_at, if_t, as_pick, as_assign, boA, beq_self_eq_true, rd, evT, lk, putT, resF, resL, Option.map_some, Option.bind_some, Nat.reduceSub, Nat.reduceEqDiff, and_true, and_self, eq_self, ↓reduceIte]
      · simp only [h3, ac_ret, at_normal, ae_ret, ao_nil, ao_cons, ao_guard_t, sk_at, pk_at, if_f, as_pick, as_assign, beq_self_eq_true, Bool.false_and, rd, constT, evT, lk, putT, GV, gdst, resF, resL, constA, cellA, Option.map_some, Option.bind_some, Nat.reduceSub, Nat.reduceEqDiff, and_true, and_self, eq_self, ↓reduceIte]
    · simp only [h2, ac_ret, at_normal, ae_ret, ao_nil, ao_cons, ao_guard_t, sk_at, pk_at, if_f, as_pick, as_move, as_assign, beq_self_eq_true, Bool.false_and, rd, constT, evT, lk, putT, GV, gdst, resF, resL, constA, cellA, Option.map_some, Option.bind_some, Nat.reduceSub, Nat.reduceEqDiff, and_true, and_self, eq_self, ↓reduceIte]
  · simp only [h1, ac_ret, at_normal, ae_ret, ao_nil, ao_cons, ao_guard_t, sk_at, pk_at, if_f, as_pick, as_move, as_assign, beq_self_eq_true, Bool.false_and, rd, constT, evT, lk, putT, GV, gdst, resF, resL, constA, cellA, Option.map_some, Option.bind_some, Nat.reduceSub, Nat.reduceEqDiff, and_true, and_self, eq_self, ↓reduceIte]
set_option maxRecDepth 100000 in
theorem refFew08_a (sp dp : Int) (bare : Bool) (l : List UInt8) : ASpec Try.prog 109 [datA sp dp bare l] (datA sp dp bare (l.take 200)) := by
  refine ASpec.of_body TT_ok Try.mixed _ [.cell 2 164] ([], []) Try.func109 (by kernel_rfl) rfl rfl (by simp only [Try.ntmps109, List.length_cons, List.length_nil]; omega) rfl (by kernel_rfl) ?_
  simp only [argE_cons, argE_nil, ac_seq, ac_region, at_normal, ao_nil, ao_cons, as_call, as_box, as_alloc, as_load, as_fieldAddr, datA, u16A, boA, fr_false, List.contains_nil, beq_self_eq_true, hk_some, hopG, rd, aopsD, heapF, frzW, frzR, constT, evT, lk, putT, loadF, cellsF, argsF, constA, cellA, TK.isAgg, List.length_cons, List.length_nil, List.getElem?_cons_zero, List.getElem?_cons_succ, List.drop_zero, List.drop_succ_cons, List.nil_append, List.cons_append, Option.map_some, Nat.reduceSub, Nat.reduceEqDiff, Nat.reduceLeDiff, Nat.succ_ne_zero, ne_eq, not_false_eq_true, true_and, eq_self, Bool.false_eq_true, ↓reduceIte, Nat.zero_add, TT38, TT164]
  refine ACall.intro (few_a l 200) ?_
  simp only [ac_ret, ac_seq, ac_region, at_normal, ae_ret, ao_nil, ao_cons, as_store, as_load, as_fieldAddr, fr_false, fr_nil, fr_cons, List.contains_nil, beq_self_eq_true, Bool.and_self, hk_some, hopG, rd, aopsD, heapF, evT, lk, putT, loadF, cellsF, ovw, okCell, resF, resL, TK.isAgg, Value.oneCell', List.length_cons, List.length_nil, List.getElem?_cons_zero, List.getElem?_cons_succ, List.drop_zero, List.take_succ_cons, List.take_nil, List.set_cons_zero, List.set_cons_succ, List.all_cons, List.all_nil, Option.map_some, Option.bind_some, Nat.reduceAdd, Nat.reduceSub, Nat.reduceEqDiff, Nat.reduceLeDiff, Nat.succ_ne_zero, ne_eq, not_false_eq_true, and_true, and_self, eq_self, Bool.false_eq_true, ↓reduceIte, Nat.zero_add, Nat.le_refl, TT38, TT164]
theorem udpB_len (src dst sp dp : Int) (bare : Bool) (l : List UInt8) : (udpB src dst sp dp bare l).length = 8 + l.length := by simp [udpB, length_put16]
theorem get16_getD (b : List UInt8) (k : Nat) (h : k + 2 ≤ b.length) : get16 b k = ((b.getD k 0).toNat : Int) * 256 + ((b.getD (k + 1) 0).toNat : Int) := by
  have hb : thereB b.length k 2 = true := thereB_iff.2 (by omega)
  rw [get16, if_pos hb, Int.toNat_natCast]
  obtain ⟨x, y, r, e⟩ : ∃ x y r, b.drop k = x :: y :: r := by
    match hd : b.drop k with
    | [] => have := congrArg List.length hd; simp at this; omega
    | [x] => have := congrArg List.length hd; simp at this; omega
    | x :: y :: r => exact ⟨x, y, r, rfl⟩
  have g0 : b.getD k 0 = x := by
    have := congrArg (fun l => l.getD 0 0) e
    simpa using this
  have g1 : b.getD (k + 1) 0 = y := by
    have := congrArg (fun l => l.getD 1 0) e
    simpa using this
  rw [e, g0, g1]
  have := x.toNat_lt
  have := y.toNat_lt
  simp [num_two]
  omega
set_option maxRecDepth 100000 in
theorem refParse08_a (src dst : Int) (b : List UInt8) (h1 : 0 ≤ src ∧ src ≤ 4294967295) (h2 : 0 ≤ dst ∧ dst ≤ 4294967295) (hl : b.length ≤ 100000) :
    ASpec Try.prog 120 [u32A src, u32A dst, .bs b] (.tup [datA (udpP src dst b).1.1 (udpP src dst b).1.2.1 (udpP src dst b).1.2.2.1 (udpP src dst b).1.2.2.2, i64 (udpP src dst b).2]) := by
  have n1 := get16_bd b 4
  have n2 := get16_bd b 6
  have hsm : small b := by simp only [small]; omega
  refine ASpec.of_body TT_ok Try.mixed _ [.cell 6 164, .tmp 7] ([], []) Try.func120 (by kernel_rfl) rfl rfl (by simp only [Try.ntmps120, List.length_cons, List.length_nil]; omega) rfl (by kernel_rfl) ?_
  simp only [argE_cons, argE_nil, ac_seq, ac_cond, ac_region, at_normal, ao_nil, ao_cons, as_alloc, as_move, as_assign, as_binOp, as_len, datA, u16A, u32A, i64, boA, fr_false, List.contains_nil, beq_self_eq_true, hk_some, hopG, hopF, rd, aopsD, heapF, constT, evT, lk, putT, lenF, binF, constA, cellA, List.length_nil, List.nil_append, Option.map_some, Nat.reduceAdd, Nat.reduceSub, Nat.reduceEqDiff, Nat.reduceLeDiff, true_and, eq_self, reduceCtorEq, Bool.false_eq_true, ↓reduceIte, Nat.zero_add, TT3, TT38, TT164]
  refine AIf.intro (fun c1 => ?_) (fun c1 => ?_)
  · simp only [c1, ac_ret, ac_seq, ac_region, at_normal, at_ret, ae_ret, ao_nil, ao_cons, as_store, as_assign, as_build, fr_false, fr_nil, fr_cons, List.contains_nil, beq_self_eq_true, Bool.and_self, hk_some, hopG, rd, aopsD, heapF, constT, evT, lk, putT, loadF, cellsF, ovw, fillF, buildF, partsF, okCell, resF, resL, constA, cellA, TK.isAgg, Value.oneCell', List.length_cons, List.length_nil, List.getElem?_cons_zero, List.drop_zero, List.take_succ_cons, List.take_nil, List.set_cons_zero, List.set_cons_succ, List.all_cons, List.all_nil, Option.map_some, Option.bind_some, Nat.reduceAdd, Nat.reduceSub, Nat.reduceEqDiff, Nat.reduceLeDiff, true_and, and_true, and_self, eq_self, Bool.false_eq_true, ↓reduceIte, Nat.zero_add, Nat.le_refl, TT164]
    rw [dT] at c1
    rw [show udpP src dst b = ((0, 0, false, []), 4) from if_pos (by omega)]
  · simp only [c1, ac_skip, ac_seq, ac_cond, ac_region, at_normal, ao_nil, ao_cons, as_move, as_assign, as_binOp, as_convert, as_load, as_indexAddr, fr_false, List.contains_nil, Nat.reduceBEq, beq_self_eq_true, hk_some, hopG, rd, aopsD, tlN, constT, evT, lk, putT, binF, convF, loadF, constA, cellA, TK.isAgg, List.length_cons, List.length_nil, Option.map_some, Nat.reduceAdd, Nat.reduceSub, Nat.reduceEqDiff, Nat.reduceLeDiff, true_and, eq_self, reduceCtorEq, Bool.false_eq_true, ↓reduceIte, Int.reduceToNat, Int.reduceLE, Nat.zero_add, TT3, TT5, TT38]
    rw [dF] at c1
    have g4 : get16 b 4 = ((b.getD 4 0).toNat : Int) * 256 + ((b.getD 5 0).toNat : Int) := get16_getD b 4 (by omega)
    have g6 : get16 b 6 = ((b.getD 6 0).toNat : Int) * 256 + ((b.getD 7 0).toNat : Int) := get16_getD b 6 (by omega)
    have g0 : get16 b 0 = ((b.getD 0 0).toNat : Int) * 256 + ((b.getD 1 0).toNat : Int) := get16_getD b 0 (by omega)
    have g2 : get16 b 2 = ((b.getD 2 0).toNat : Int) * 256 + ((b.getD 3 0).toNat : Int) := get16_getD b 2 (by omega)
    have l0 := (b.getD 0 0).toNat_lt
    have l1 := (b.getD 1 0).toNat_lt
    have l2 := (b.getD 2 0).toNat_lt
    have l3 := (b.getD 3 0).toNat_lt
    have l4 := (b.getD 4 0).toNat_lt
    have l5 := (b.getD 5 0).toNat_lt
    have l6 := (b.getD 6 0).toNat_lt
    have l7 := (b.getD 7 0).toNat_lt
    have w4 : IntKind.i64.wrap ((b.getD 4 0).toNat : Int) = (b.getD 4 0).toNat := i64_in (by omega) (by omega)
    have w5 : IntKind.i64.wrap ((b.getD 5 0).toNat : Int) = (b.getD 5 0).toNat := i64_in (by omega) (by omega)
    have w44 : IntKind.i64.wrap (((b.getD 4 0).toNat : Int) * 256) = (b.getD 4 0).toNat * 256 := i64_in (by omega) (by omega)
    have w45 : IntKind.i64.wrap (((b.getD 4 0).toNat : Int) * 256 + ((b.getD 5 0).toNat : Int)) = get16 b 4 := by rw [g4]; exact i64_in (by omega) (by omega)
    have w0 : IntKind.u16.wrap ((b.getD 0 0).toNat : Int) = (b.getD 0 0).toNat := u16_in (by omega) (by omega)
    have w1 : IntKind.u16.wrap ((b.getD 1 0).toNat : Int) = (b.getD 1 0).toNat := u16_in (by omega) (by omega)
    have w00 : IntKind.u16.wrap (((b.getD 0 0).toNat : Int) * 256) = (b.getD 0 0).toNat * 256 := u16_in (by omega) (by omega)
    have w01 : IntKind.u16.wrap (((b.getD 0 0).toNat : Int) * 256 + ((b.getD 1 0).toNat : Int)) = get16 b 0 := by rw [g0]; exact u16_in (by omega) (by omega)
    have w2 : IntKind.u16.wrap ((b.getD 2 0).toNat : Int) = (b.getD 2 0).toNat := u16_in (by omega) (by omega)
    have w3 : IntKind.u16.wrap ((b.getD 3 0).toNat : Int) = (b.getD 3 0).toNat := u16_in (by omega) (by omega)
    have w22 : IntKind.u16.wrap (((b.getD 2 0).toNat : Int) * 256) = (b.getD 2 0).toNat * 256 := u16_in (by omega) (by omega)
    have w23 : IntKind.u16.wrap (((b.getD 2 0).toNat : Int) * 256 + ((b.getD 3 0).toNat : Int)) = get16 b 2 := by rw [g2]; exact u16_in (by omega) (by omega)
    simp only [w4, w5, w44, w45]
    refine ⟨by omega, by omega, AIf.intro (fun c2 => ?_) (fun c2 => ?_)⟩
    · simp only [c2, ac_ret, ac_seq, ac_region, at_normal, at_ret, ae_ret, ao_nil, ao_cons, as_store, as_assign, as_build, fr_false, fr_nil, fr_cons, List.contains_nil, beq_self_eq_true, Bool.and_self, hk_some, hopG, rd, aopsD, heapF, constT, evT, lk, putT, loadF, cellsF, ovw, fillF, buildF, partsF, okCell, resF, resL, constA, cellA, TK.isAgg, Value.oneCell', List.length_cons, List.length_nil, List.getElem?_cons_zero, List.drop_zero, List.take_succ_cons, List.take_nil, List.set_cons_zero, List.set_cons_succ, List.all_cons, List.all_nil, Option.map_some, Option.bind_some, Nat.reduceAdd, Nat.reduceSub, Nat.reduceEqDiff, Nat.reduceLeDiff, true_and, and_true, and_self, eq_self, Bool.false_eq_true, ↓reduceIte, Nat.zero_add, Nat.le_refl, TT164]
      rw [dT] at c2
      rw [show udpP src dst b = ((0, 0, false, []), 3) from by rw [udpP, if_neg (by omega), if_pos (by omega)]]
    · simp only [c2, ac_skip, ac_seq, ac_cond, ac_region, at_normal, ao_nil, ao_cons, as_move, as_binOp, as_len, fr_false, List.contains_nil, beq_self_eq_true, hk_some, hopG, hopF, rd, aopsD, evT, lk, putT, lenF, binF, Option.map_some, Nat.reduceSub, Nat.reduceEqDiff, Nat.reduceLeDiff, true_and, eq_self, reduceCtorEq, Bool.false_eq_true, ↓reduceIte, TT3, TT38]
      rw [dF] at c2
      refine AIf.intro (fun c3 => ?_) (fun c3 => ?_)
      · simp only [c3, ac_ret, ac_seq, ac_region, at_normal, at_ret, ae_ret, ao_nil, ao_cons, as_store, as_assign, as_build, fr_false, fr_nil, fr_cons, List.contains_nil, beq_self_eq_true, Bool.and_self, hk_some, hopG, rd, aopsD, heapF, constT, evT, lk, putT, loadF, cellsF, ovw, fillF, buildF, partsF, okCell, resF, resL, constA, cellA, TK.isAgg, Value.oneCell', List.length_cons, List.length_nil, List.getElem?_cons_zero, List.drop_zero, List.take_succ_cons, List.take_nil, List.set_cons_zero, List.set_cons_succ, List.all_cons, List.all_nil, Option.map_some, Option.bind_some, Nat.reduceAdd, Nat.reduceSub, Nat.reduceEqDiff, Nat.reduceLeDiff, true_and, and_true, and_self, eq_self, Bool.false_eq_true, ↓reduceIte, Nat.zero_add, Nat.le_refl, TT164]
        rw [dT] at c3
        rw [show udpP src dst b = ((0, 0, false, []), 4) from by rw [udpP, if_neg (by omega), if_neg (by omega), if_pos (by omega)]]
      · simp only [c3, ac_skip, ac_seq, ac_region, at_normal, ao_cons, ao_guard_t, as_move, as_binOp, as_load, as_indexAddr, fr_false, List.contains_nil, beq_self_eq_true, hk_some, hopG, rd, aopsD, constT, evT, lk, putT, GV, gdst, binF, loadF, constA, cellA, TK.isAgg, Option.map_some, Nat.reduceSub, Nat.reduceEqDiff, Nat.reduceLeDiff, true_and, eq_self, reduceCtorEq, Bool.false_eq_true, ↓reduceIte, Int.reduceToNat, Int.reduceLE, TT5, TT38]
        rw [dF] at c3
        obtain ⟨n, hn⟩ : ∃ n : Nat, get16 b 4 = (n : Int) := ⟨(get16 b 4).toNat, by omega⟩
        have hp : udpP src dst b = if ¬ get16 b 6 = 0 ∧ ¬ onesF (psB src dst 17 (n : Int) ++ b.take n) = 65535 then ((0, 0, false, []), 5)
            else ((get16 b 0, get16 b 2, decide (get16 b 6 = 0), (b.take n).drop 8), 0) := by
          rw [udpP, if_neg (by omega), if_neg (by omega), if_neg (by omega), hn, Int.toNat_natCast]
        rw [hp]
        clear hp
        have e8 : IntKind.i64.wrap ((n : Int) - 8) = (n : Int) - 8 := i64_in (by omega) (by omega)
        have hc : cutB b 8 ((n : Int) - 8) = (b.take n).drop 8 := by
          rw [cutB, if_pos (thereB_iff.2 (by omega)), List.drop_take]
          congr 1
          omega
        rw [hn]
        refine ⟨by omega, ?_⟩
        by_cases c6 : ((b.getD 6 0).toNat : Int) = 0
        · simp only [c6, ac_seq, ac_region, at_normal, ao_nil, ao_cons, ao_guard_t, st_at, pk_at, if_t, as_pick, as_move, as_assign, as_binOp, as_unOp, as_load, as_indexAddr, fr_false, List.contains_nil, Nat.reduceBEq, beq_self_eq_true, decide_true, hk_some, hopG, rd, aopsD, tlN, constT, evT, lk, putT, GV, gdst, binF, unF, loadF, constA, cellA, TK.isAgg, List.length_cons, List.length_nil, Option.map_some, Nat.reduceAdd, Nat.reduceSub, Nat.reduceEqDiff, Nat.reduceLeDiff, true_and, eq_self, reduceCtorEq, Bool.false_eq_true, ↓reduceIte, Int.reduceToNat, Int.reduceLE, Nat.zero_add, TT5, TT38]
          refine ⟨by omega, ?_⟩
          by_cases c7 : ((b.getD 7 0).toNat : Int) = 0
          · have z6 : get16 b 6 = 0 := by omega
            simp only [c7, e8, ac_skip, ac_seq, ac_cond, ac_region, at_normal, ao_nil, ao_cons, ao_guard_t, sk_at, pk_at, if_f, as_pick, as_call, as_move, as_binOp, fr_false, List.contains_nil, Nat.reduceBEq, beq_self_eq_true, decide_true, hk_some, hopG, rd, aopsD, frzW, frzR, constT, evT, lk, putT, GV, gdst, binF, argsF, constA, cellA, Option.map_some, Nat.reduceSub, Nat.reduceEqDiff, Nat.reduceLeDiff, true_and, eq_self, reduceCtorEq, Bool.false_eq_true, Bool.not_true, ↓reduceIte, TT3]
            refine ACall.intro (refCut_a b 8 ((n : Int) - 8) (by omega) hsm) ?_
            simp only [hc, w0, w1, w00, w01, w2, w3, w22, w23, ac_ret, ac_seq, ac_region, at_normal, ae_ret, ao_nil, ao_cons, as_store, as_move, as_assign, as_binOp, as_convert, as_load, as_indexAddr, as_extract, as_build, boA, fr_false, fr_nil, fr_cons, List.contains_nil, Nat.reduceBEq, beq_self_eq_true, Bool.and_self, hk_some, hopG, rd, aopsD, heapF, tlN, constT, evT, lk, putT, binF, convF, loadF, cellsF, ovw, fillF, buildF, partsF, okCell, resF, resL, constA, cellA, TK.isAgg, Value.oneCell', List.length_cons, List.length_nil, List.getElem?_cons_zero, List.getElem?_cons_succ, List.drop_zero, List.take_succ_cons, List.take_nil, List.set_cons_zero, List.set_cons_succ, List.all_cons, List.all_nil, Option.map_some, Option.bind_some, Nat.reduceAdd, Nat.reduceSub, Nat.reduceEqDiff, Nat.reduceLeDiff, true_and, and_true, and_self, eq_self, reduceCtorEq, Bool.false_eq_true, ↓reduceIte, Int.toNat_zero, Int.reduceToNat, Int.reduceLE, Nat.zero_add, Nat.le_refl, TT5, TT23, TT38, TT164]
            refine ⟨by omega, by omega, by omega, by omega, ?_⟩
            rw [if_neg (by omega)]
            simp [z6]
          · simp only [c7, ao_guard_t, st_at, if_t, as_call, as_move, Nat.reduceBEq, decide_false, rd, frzW, constT, evT, lk, putT, GV, gdst, argsF, constA, cellA, Option.map_some, Nat.reduceSub, Nat.reduceEqDiff, Nat.succ_ne_zero, eq_self, reduceCtorEq, Bool.not_false, ↓reduceIte]
            refine ACall.intro (refHead08_a src dst 17 (n : Int) h1 h2 (by omega) (by omega)) ?_
            have hd : (psB src dst 17 (n : Int)).length = 12 := by simp [psB, length_put32, length_put16]
            simp only [ao_guard_t, st_at, if_t, as_call, as_move, as_slice, Nat.reduceBEq, hk_some, hopG, rd, frzW, constT, evT, lk, putT, GV, gdst, bndF, cutF, argsF, constA, cellA, List.drop_zero, Option.map_some, Option.map_none, Option.bind_some, Nat.reduceSub, Nat.reduceEqDiff, true_and, eq_self, reduceCtorEq, ↓reduceIte, Int.toNat_zero, Int.reduceLE, TT38]
            refine ⟨by omega, ?_⟩
            refine ACall.intro (add_a (psB src dst 17 (n : Int)) (b.take n) (by simp; omega)) ?_
            simp only [ao_guard_t, st_at, if_t, as_call, Nat.reduceBEq, rd, frzW, evT, lk, putT, GV, gdst, argsF, Option.map_some, Nat.reduceSub, Nat.reduceEqDiff, eq_self, ↓reduceIte]
            refine ACall.intro (refOnes_a (psB src dst 17 (n : Int) ++ b.take n) (by simp [small]; omega)) ?_
            simp only [ac_cond, at_normal, ao_nil, ao_cons, ao_guard_t, st_at, pk_at, if_t, as_pick, as_binOp, i64, Nat.reduceBEq, hk_some, hopG, rd, constT, evT, lk, putT, GV, gdst, binF, constA, cellA, Option.map_some, Nat.reduceSub, Nat.reduceEqDiff, true_and, eq_self, ↓reduceIte, TT3]
            generalize onesF (psB src dst 17 (n : Int) ++ b.take n) = q at *
            have z6 : ¬ get16 b 6 = 0 := by omega
            by_cases hq : q = 65535
            · simp only [hq, e8, ac_skip, ac_seq, ac_region, at_normal, ao_cons, if_f, as_call, as_move, as_binOp, fr_false, List.contains_nil, beq_self_eq_true, decide_true, hk_some, hopG, rd, aopsD, frzW, frzR, constT, evT, lk, putT, binF, argsF, constA, cellA, Option.map_some, Nat.reduceSub, Nat.reduceEqDiff, Nat.reduceLeDiff, not_true, true_and, and_false, eq_self, reduceCtorEq, Bool.false_eq_true, Bool.not_true, ↓reduceIte, TT3]
              refine ACall.intro (refCut_a b 8 ((n : Int) - 8) (by omega) hsm) ?_
              simp only [hc, w0, w1, w00, w01, w2, w3, w22, w23, z6, ac_ret, ac_seq, ac_region, at_normal, ae_ret, ao_nil, ao_cons, as_store, as_move, as_assign, as_binOp, as_convert, as_load, as_indexAddr, as_extract, as_build, boA, fr_false, fr_nil, fr_cons, List.contains_nil, Nat.reduceBEq, beq_self_eq_true, decide_false, Bool.and_self, hk_some, hopG, rd, aopsD, heapF, tlN, constT, evT, lk, putT, binF, convF, loadF, cellsF, ovw, fillF, buildF, partsF, okCell, resF, resL, constA, cellA, TK.isAgg, Value.oneCell', List.length_cons, List.length_nil, List.getElem?_cons_zero, List.getElem?_cons_succ, List.drop_zero, List.take_succ_cons, List.take_nil, List.set_cons_zero, List.set_cons_succ, List.all_cons, List.all_nil, Option.map_some, Option.bind_some, Nat.reduceAdd, Nat.reduceSub, Nat.reduceEqDiff, Nat.reduceLeDiff, true_and, and_true, and_self, eq_self, reduceCtorEq, Bool.false_eq_true, ↓reduceIte, Int.toNat_zero, Int.reduceToNat, Int.reduceLE, Nat.zero_add, Nat.le_refl, TT5, TT23, TT38, TT164]
              omega
            · simp only [hq, ac_ret, ac_seq, ac_region, at_normal, at_ret, ae_ret, ao_nil, ao_cons, if_t, as_store, as_assign, as_build, fr_false, fr_nil, fr_cons, List.contains_nil, beq_self_eq_true, decide_false, Bool.and_self, hk_some, hopG, rd, aopsD, heapF, constT, evT, lk, putT, loadF, cellsF, ovw, fillF, buildF, partsF, okCell, resF, resL, constA, cellA, TK.isAgg, Value.oneCell', List.length_cons, List.length_nil, List.getElem?_cons_zero, List.drop_zero, List.take_succ_cons, List.take_nil, List.set_cons_zero, List.set_cons_succ, List.all_cons, List.all_nil, Option.map_some, Option.bind_some, Nat.reduceAdd, Nat.reduceSub, Nat.reduceEqDiff, Nat.reduceLeDiff, not_false_eq_true, true_and, and_true, and_self, eq_self, Bool.false_eq_true, Bool.not_false, ↓reduceIte, Nat.zero_add, Nat.le_refl, TT164]
              rw [if_pos (by omega)]
        · simp only [c6, ac_seq, ac_region, at_normal, ao_nil, ao_cons, ao_guard_t, st_at, sk_at, pk_at, if_t, if_f, as_pick, as_call, as_move, as_assign, as_unOp, fr_false, List.contains_nil, Nat.reduceBEq, beq_self_eq_true, decide_false, hk_some, hopG, rd, aopsD, frzW, tlN, constT, evT, lk, putT, GV, gdst, unF, argsF, constA, cellA, List.length_cons, List.length_nil, Option.map_some, Nat.reduceAdd, Nat.reduceSub, Nat.reduceEqDiff, Nat.reduceLeDiff, Nat.succ_ne_zero, true_and, eq_self, reduceCtorEq, Bool.not_false, ↓reduceIte, Nat.zero_add]
          refine ACall.intro (refHead08_a src dst 17 (n : Int) h1 h2 (by omega) (by omega)) ?_
          have hd : (psB src dst 17 (n : Int)).length = 12 := by simp [psB, length_put32, length_put16]
          simp only [ao_guard_t, st_at, if_t, as_call, as_move, as_slice, Nat.reduceBEq, hk_some, hopG, rd, frzW, constT, evT, lk, putT, GV, gdst, bndF, cutF, argsF, constA, cellA, List.drop_zero, Option.map_some, Option.map_none, Option.bind_some, Nat.reduceSub, Nat.reduceEqDiff, true_and, eq_self, reduceCtorEq, ↓reduceIte, Int.toNat_zero, Int.reduceLE, TT38]
          refine ⟨by omega, ?_⟩
          refine ACall.intro (add_a (psB src dst 17 (n : Int)) (b.take n) (by simp; omega)) ?_
          simp only [ao_guard_t, st_at, if_t, as_call, Nat.reduceBEq, rd, frzW, evT, lk, putT, GV, gdst, argsF, Option.map_some, Nat.reduceSub, Nat.reduceEqDiff, eq_self, ↓reduceIte]
          refine ACall.intro (refOnes_a (psB src dst 17 (n : Int) ++ b.take n) (by simp [small]; omega)) ?_
          simp only [ac_cond, at_normal, ao_nil, ao_cons, ao_guard_t, st_at, pk_at, if_t, as_pick, as_binOp, i64, Nat.reduceBEq, hk_some, hopG, rd, constT, evT, lk, putT, GV, gdst, binF, constA, cellA, Option.map_some, Nat.reduceSub, Nat.reduceEqDiff, true_and, eq_self, ↓reduceIte, TT3]
          generalize onesF (psB src dst 17 (n : Int) ++ b.take n) = q at *
          have z6 : ¬ get16 b 6 = 0 := by omega
          by_cases hq : q = 65535
          · simp only [hq, e8, ac_skip, ac_seq, ac_region, at_normal, ao_cons, if_f, as_call, as_move, as_binOp, fr_false, List.contains_nil, beq_self_eq_true, decide_true, hk_some, hopG, rd, aopsD, frzW, frzR, constT, evT, lk, putT, binF, argsF, constA, cellA, Option.map_some, Nat.reduceSub, Nat.reduceEqDiff, Nat.reduceLeDiff, not_true, true_and, and_false, eq_self, reduceCtorEq, Bool.false_eq_true, Bool.not_true, ↓reduceIte, TT3]
            refine ACall.intro (refCut_a b 8 ((n : Int) - 8) (by omega) hsm) ?_
            simp only [hc, w0, w1, w00, w01, w2, w3, w22, w23, z6, ac_ret, ac_seq, ac_region, at_normal, ae_ret, ao_nil, ao_cons, as_store, as_move, as_assign, as_binOp, as_convert, as_load, as_indexAddr, as_extract, as_build, boA, fr_false, fr_nil, fr_cons, List.contains_nil, Nat.reduceBEq, beq_self_eq_true, decide_false, Bool.and_self, hk_some, hopG, rd, aopsD, heapF, tlN, constT, evT, lk, putT, binF, convF, loadF, cellsF, ovw, fillF, buildF, partsF, okCell, resF, resL, constA, cellA, TK.isAgg, Value.oneCell', List.length_cons, List.length_nil, List.getElem?_cons_zero, List.getElem?_cons_succ, List.drop_zero, List.take_succ_cons, List.take_nil, List.set_cons_zero, List.set_cons_succ, List.all_cons, List.all_nil, Option.map_some, Option.bind_some, Nat.reduceAdd, Nat.reduceSub, Nat.reduceEqDiff, Nat.reduceLeDiff, true_and, and_true, and_self, eq_self, reduceCtorEq, Bool.false_eq_true, ↓reduceIte, Int.toNat_zero, Int.reduceToNat, Int.reduceLE, Nat.zero_add, Nat.le_refl, TT5, TT23, TT38, TT164]
            omega
          · simp only [hq, ac_ret, ac_seq, ac_region, at_normal, at_ret, ae_ret, ao_nil, ao_cons, if_t, as_store, as_assign, as_build, fr_false, fr_nil, fr_cons, List.contains_nil, beq_self_eq_true, decide_false, Bool.and_self, hk_some, hopG, rd, aopsD, heapF, constT, evT, lk, putT, loadF, cellsF, ovw, fillF, buildF, partsF, okCell, resF, resL, constA, cellA, TK.isAgg, Value.oneCell', List.length_cons, List.length_nil, List.getElem?_cons_zero, List.drop_zero, List.take_succ_cons, List.take_nil, List.set_cons_zero, List.set_cons_succ, List.all_cons, List.all_nil, Option.map_some, Option.bind_some, Nat.reduceAdd, Nat.reduceSub, Nat.reduceEqDiff, Nat.reduceLeDiff, not_false_eq_true, true_and, and_true, and_self, eq_self, Bool.false_eq_true, Bool.not_false, ↓reduceIte, Nat.zero_add, Nat.le_refl, TT164]
            rw [if_pos (by omega)]
end Go.Proofs.Ytafajmnlknmfiaa
