/- The reference's tcp parser, and the statements' own texts. -/
import Derived.Test.YthjojkkapboonaaTB
namespace Go.Proofs.Ythjojkkapboonaa
set_option linter.unusedSimpArgs false
set_option linter.unusedVariables false
open Go.RowKit

theorem get16_bytes (b : List UInt8) (k : Nat) (h : k + 2 ≤ b.length) : get16 b k = byteN b k * 256 + byteN b (k + 1) := by
  have hb : thereB b.length k 2 = true := thereB_iff.2 (by omega)
  rw [get16, if_pos hb, Int.toNat_natCast]
  have e : (b.drop k).take 2 = [b.getD k 0, b.getD (k + 1) 0] := by
    apply List.ext_getElem
    · simp; omega
    · intro i h1 h2
      simp at h2
      have : i = 0 ∨ i = 1 := by omega
      rcases this with rfl | rfl
      · simp [List.getD, show k < b.length by omega]
      · simp [List.getD, show k + 1 < b.length by omega]
  rw [e]
  have h1 := (b.getD k 0).toNat_lt
  have h2 := (b.getD (k + 1) 0).toNat_lt
  simp only [num, List.foldl_cons, List.foldl_nil, byteN]
  omega
theorem getD_byteN (b : List UInt8) (k : Nat) : ((b.getD k 0).toNat : Int) = byteN b k := rfl
theorem u16_bytes (b : List UInt8) (k : Nat) (h : k + 2 ≤ b.length) : IntKind.u16.wrap (IntKind.u16.wrap (IntKind.u16.wrap (byteN b k) * 256) + IntKind.u16.wrap (byteN b (k + 1))) = get16 b k := by
  have h1 := byteN_bd b k
  have h2 := byteN_bd b (k + 1)
  rw [get16_bytes b k h, u16_in (n := byteN b k) (by omega) (by omega), u16_in (n := byteN b (k + 1)) (by omega) (by omega), u16_in (n := byteN b k * 256) (by omega) (by omega), u16_in (by omega) (by omega)]
theorem get32_eq (b : List UInt8) (k : Int) : (if thereB b.length k 4 then (num ((b.drop k.toNat).take 4) : Int) else 0) = get32 b k := rfl
set_option maxRecDepth 100000 in
theorem refParse09_a (src dst : Int) (b : List UInt8) (h1 : 0 ≤ src ∧ src ≤ 4294967295) (h2 : 0 ≤ dst ∧ dst ≤ 4294967295) (hl : b.length ≤ 1000000) :
    ASpec Try.prog 51 [u32A src, u32A dst, .bs b] (.tup [segA (tcpP src dst b).1, i64 (tcpP src dst b).2]) := by
  have hsm : small b := by simp only [small]; omega
  have b12 := byteN_bd b 12
  have e0 : IntKind.i64.wrap (byteN b 12) = byteN b 12 := i64_in (by omega) (by omega)
  have e1 : IntKind.i64.wrap (byteN b 12 / 16) = byteN b 12 / 16 := i64_in (by omega) (by omega)
  have e2 : IntKind.i64.wrap (byteN b 12 / 16 * 4) = byteN b 12 / 16 * 4 := i64_in (by omega) (by omega)
  have e5 : (byteN b 12).tdiv 16 = byteN b 12 / 16 := tdivN (by omega)
  have e6 : (byteN b 12).tmod 16 = byteN b 12 % 16 := tmodN (by omega)
  refine ASpec.of_body TT_ok Try.mixed _ [.cell 6 40, .tmp 7] ([], []) Try.func51 (by kernel_rfl) rfl rfl (by simp only [Try.ntmps51, List.length_cons, List.length_nil]; omega) rfl (by kernel_rfl) ?_
  simp only [argE_cons, argE_nil, ac_seq, ac_cond, ac_region, at_normal, ao_nil, ao_cons, as_alloc, as_move, as_assign, as_binOp, as_len, segL, segA, u8A, u16A, u32A, i64, fr_false, List.contains_nil, beq_self_eq_true, hk_some, hopG, hopF, rd, aopsD, heapF, constT, evT, lk, putT, lenF, binF, constA, cellA, List.length_nil, List.nil_append, Option.map_some, Nat.reduceAdd, Nat.reduceSub, Nat.reduceEqDiff, Nat.reduceLeDiff, true_and, eq_self, reduceCtorEq, Bool.false_eq_true, ↓reduceIte, Nat.zero_add, TT3, TT38, TT40]
  refine AIf.intro (fun c1 => ?_) (fun c1 => ?_)
  · simp only [c1, ac_ret, ac_seq, ac_region, at_normal, at_ret, ae_ret, ao_nil, ao_cons, as_store, as_assign, as_build, fr_false, fr_nil, fr_cons, List.contains_nil, beq_self_eq_true, Bool.and_self, hk_some, hopG, rd, aopsD, heapF, constT, evT, lk, putT, loadF, cellsF, ovw, fillF, buildF, partsF, okCell, resF, resL, constA, cellA, TK.isAgg, Value.oneCell', List.length_cons, List.length_nil, List.getElem?_cons_zero, List.drop_zero, List.take_succ_cons, List.take_nil, List.set_cons_zero, List.set_cons_succ, List.all_cons, List.all_nil, Option.map_some, Option.bind_some, Nat.reduceAdd, Nat.reduceSub, Nat.reduceEqDiff, Nat.reduceLeDiff, true_and, and_true, and_self, eq_self, Bool.false_eq_true, ↓reduceIte, Nat.zero_add, Nat.le_refl, TT40]
    rw [dT] at c1
    rw [show tcpP src dst b = (seg0, 4) from if_pos (by omega)]
    try rfl
  · simp only [c1, getD_byteN, e0, e1, e2, e5, ac_skip, ac_seq, ac_region, at_normal, ao_nil, ao_cons, ao_guard_f, as_move, as_assign, as_binOp, as_convert, as_load, as_indexAddr, fr_false, List.contains_nil, beq_self_eq_true, Int.reduceEq, hk_some, hopG, rd, aopsD, constT, evT, lk, putT, GV, gdst, binF, convF, loadF, constA, cellA, TK.isAgg, Option.map_some, Nat.reduceSub, Nat.reduceEqDiff, Nat.reduceLeDiff, ne_eq, not_false_eq_true, true_and, and_self, eq_self, reduceCtorEq, Bool.false_eq_true, ↓reduceIte, Int.reduceToNat, Int.reduceLE, TT3, TT5, TT38]
    rw [dF] at c1
    refine ⟨by omega, ?_⟩
    have P : tcpP src dst b = if byteN b 12 / 16 * 4 < 20 ∨ 65535 < b.length then (seg0, 3) else if (b.length : Int) < byteN b 12 / 16 * 4 then (seg0, 4)
        else if ¬ onesF (psB src dst 6 b.length ++ b) = 65535 then (seg0, 5)
        else (⟨get16 b 0, get16 b 2, get32 b 4, get32 b 8, byteN b 12 % 16, byteN b 13, get16 b 14, get16 b 18, cutB b 20 (byteN b 12 / 16 * 4 - 20), b.drop (byteN b 12 / 16 * 4).toNat⟩, 0) := if_neg (by omega)
    rw [P]
    clear P
    have e4 : IntKind.i64.wrap (byteN b 12 / 16 * 4 - 20) = byteN b 12 / 16 * 4 - 20 := i64_in (by omega) (by omega)
    have w0 : IntKind.u16.wrap (IntKind.u16.wrap (IntKind.u16.wrap (byteN b 0) * 256) + IntKind.u16.wrap (byteN b 1)) = get16 b 0 := u16_bytes b 0 (by omega)
    have w2 : IntKind.u16.wrap (IntKind.u16.wrap (IntKind.u16.wrap (byteN b 2) * 256) + IntKind.u16.wrap (byteN b 3)) = get16 b 2 := u16_bytes b 2 (by omega)
    have w14 : IntKind.u16.wrap (IntKind.u16.wrap (IntKind.u16.wrap (byteN b 14) * 256) + IntKind.u16.wrap (byteN b 15)) = get16 b 14 := u16_bytes b 14 (by omega)
    have w18 : IntKind.u16.wrap (IntKind.u16.wrap (IntKind.u16.wrap (byteN b 18) * 256) + IntKind.u16.wrap (byteN b 19)) = get16 b 18 := u16_bytes b 18 (by omega)
    obtain ⟨n, hn⟩ : ∃ n : Nat, byteN b 12 / 16 * 4 = (n : Int) := ⟨(byteN b 12 / 16 * 4).toNat, by omega⟩
    rw [hn] at e2 e4 ⊢
    cases c2 : decide ((n : Int) < 20)
    · rw [dF] at c2
      simp only [ac_cond, at_normal, ao_nil, ao_cons, ao_guard_f, st_at, pk_at, if_f, as_pick, as_move, as_binOp, as_len, beq_self_eq_true, hk_some, hopG, hopF, rd, constT, evT, lk, putT, GV, gdst, lenF, binF, constA, cellA, Option.map_some, Nat.reduceSub, Nat.reduceEqDiff, true_and, eq_self, reduceCtorEq, ↓reduceIte, TT3, TT38]
      cases c3 : decide ((65535 : Int) < (b.length : Int))
      · rw [dF] at c3
        rw [if_neg (by omega)]
        simp only [ac_skip, ac_seq, ac_cond, ac_region, at_normal, ao_nil, ao_cons, if_f, as_move, as_binOp, as_len, fr_false, List.contains_nil, beq_self_eq_true, hk_some, hopG, hopF, rd, aopsD, evT, lk, putT, lenF, binF, Option.map_some, Nat.reduceSub, Nat.reduceEqDiff, Nat.reduceLeDiff, true_and, eq_self, reduceCtorEq, Bool.false_eq_true, ↓reduceIte, TT3, TT38]
        cases c4 : decide ((b.length : Int) < (n : Int))
        · rw [dF] at c4
          rw [if_neg (by omega)]
          simp only [ac_skip, ac_seq, ac_region, at_normal, ao_cons, if_f, as_call, as_move, as_len, fr_false, List.contains_nil, beq_self_eq_true, hk_some, hopG, hopF, rd, aopsD, frzW, frzR, constT, evT, lk, putT, lenF, argsF, constA, cellA, Option.map_some, Nat.reduceSub, Nat.reduceEqDiff, Nat.reduceLeDiff, Nat.succ_ne_zero, true_and, eq_self, reduceCtorEq, Bool.false_eq_true, ↓reduceIte, TT38]
          refine ACall.intro (refHead08_a src dst 6 _ h1 h2 (by omega) (by omega)) ?_
          simp only [ao_cons, as_call, as_move, beq_self_eq_true, rd, frzW, frzR, evT, lk, putT, argsF, Option.map_some, Nat.reduceSub, Nat.reduceEqDiff, eq_self, reduceCtorEq, ↓reduceIte]
          refine ACall.intro (add_a _ _ (by simp [psB_len]; omega)) ?_
          simp only [ao_cons, as_call, beq_self_eq_true, rd, frzW, frzR, evT, lk, putT, argsF, Option.map_some, Nat.reduceSub, eq_self, ↓reduceIte]
          refine ACall.intro (refOnes_a _ (by simp [small, psB_len]; omega)) ?_
          simp only [ac_cond, at_normal, ao_nil, ao_cons, as_binOp, i64, beq_self_eq_true, hk_some, hopG, rd, constT, evT, lk, putT, binF, constA, cellA, Option.map_some, Nat.reduceSub, true_and, eq_self, ↓reduceIte, TT3]
          generalize onesF (psB src dst 6 b.length ++ b) = q at *
          cases hq : decide (q = 65535)
          · rw [dF] at hq
            rw [if_pos hq]
            simp only [ac_ret, ac_seq, ac_region, at_normal, at_ret, ae_ret, ao_nil, ao_cons, if_t, as_store, as_assign, as_build, fr_false, fr_nil, fr_cons, List.contains_nil, beq_self_eq_true, Bool.and_self, hk_some, hopG, rd, aopsD, heapF, constT, evT, lk, putT, loadF, cellsF, ovw, fillF, buildF, partsF, okCell, resF, resL, constA, cellA, TK.isAgg, Value.oneCell', List.length_cons, List.length_nil, List.getElem?_cons_zero, List.drop_zero, List.take_succ_cons, List.take_nil, List.set_cons_zero, List.set_cons_succ, List.all_cons, List.all_nil, Option.map_some, Option.bind_some, Nat.reduceAdd, Nat.reduceSub, Nat.reduceEqDiff, Nat.reduceLeDiff, true_and, and_true, and_self, eq_self, Bool.false_eq_true, Bool.not_false, ↓reduceIte, Nat.zero_add, Nat.le_refl, TT40]
            try rfl
          · rw [dT] at hq
            rw [if_neg (by simpa using hq)]
            simp only [hq, getD_byteN, e6, w0, w2, w14, w18, ac_skip, ac_seq, ac_region, at_normal, ao_nil, ao_cons, if_f, as_call, as_alloc, as_store, as_move, as_binOp, as_convert, as_load, as_indexAddr, as_build, fr_false, List.contains_nil, Nat.reduceBEq, beq_self_eq_true, Bool.and_self, Int.reduceEq, hk_some, hopG, rd, aopsD, heapF, frzW, frzR, tlN, constT, evT, lk, putT, binF, convF, loadF, cellsF, ovw, fillF, buildF, partsF, argsF, okCell, constA, cellA, TK.isAgg, Value.oneCell', List.length_cons, List.length_nil, List.getElem?_cons_zero, List.getElem?_cons_succ, List.set_cons_zero, List.set_cons_succ, List.nil_append, List.cons_append, List.all_cons, List.all_nil, Option.map_some, Nat.reduceAdd, Nat.reduceSub, Nat.reduceEqDiff, Nat.reduceLeDiff, ne_eq, not_false_eq_true, true_and, and_self, eq_self, reduceCtorEq, Bool.false_eq_true, Bool.not_true, ↓reduceIte, Int.toNat_zero, Int.reduceToNat, Int.reduceLE, Nat.zero_add, Nat.le_refl, TT5, TT23, TT38, TT40]
            refine ⟨by omega, by omega, by omega, by omega, by omega, by omega, by omega, by omega, by omega, by omega, ?_⟩
            refine ACall.intro (refGet_a b 4 4 (by omega) (by omega)) ?_
            simp only [ac_seq, ac_region, at_normal, ao_nil, ao_cons, as_call, as_store, as_move, as_fieldAddr, as_extract, u32A, boA, fr_false, List.contains_nil, beq_self_eq_true, Int.cast_ofNat_Int, Bool.and_self, hk_some, hopG, rd, aopsD, heapF, frzW, frzR, constT, evT, lk, putT, cellsF, ovw, argsF, okCell, constA, cellA, Value.oneCell', List.length_cons, List.length_nil, List.getElem?_cons_zero, List.getElem?_cons_succ, List.set_cons_zero, List.set_cons_succ, List.all_cons, List.all_nil, Option.map_some, Nat.reduceAdd, Nat.reduceSub, Nat.reduceEqDiff, Nat.reduceLeDiff, Nat.succ_ne_zero, ne_eq, not_false_eq_true, true_and, and_self, eq_self, reduceCtorEq, Bool.false_eq_true, ↓reduceIte, Int.reduceToNat, Nat.zero_add, TT22, TT40]
            refine ACall.intro (refGet_a b 8 4 (by omega) (by omega)) ?_
            simp only [e4, ac_seq, ac_region, at_normal, ao_nil, ao_cons, as_call, as_store, as_move, as_binOp, as_fieldAddr, as_extract, u32A, boA, fr_false, List.contains_nil, beq_self_eq_true, Int.cast_ofNat_Int, Bool.and_self, hk_some, hopG, rd, aopsD, heapF, frzW, frzR, constT, evT, lk, putT, binF, cellsF, ovw, argsF, okCell, constA, cellA, Value.oneCell', List.length_cons, List.length_nil, List.getElem?_cons_zero, List.getElem?_cons_succ, List.set_cons_zero, List.set_cons_succ, List.all_cons, List.all_nil, Option.map_some, Nat.reduceAdd, Nat.reduceSub, Nat.reduceEqDiff, Nat.reduceLeDiff, Nat.succ_ne_zero, ne_eq, not_false_eq_true, true_and, and_self, eq_self, reduceCtorEq, Bool.false_eq_true, ↓reduceIte, Int.reduceToNat, Nat.zero_add, TT3, TT22, TT40]
            refine ACall.intro (refCut_a b 20 _ (by omega) hsm) ?_
            simp only [i64_in (n := (b.length : Int) - (n : Int)) (by omega) (by omega), ac_seq, ac_region, at_normal, ao_nil, ao_cons, as_call, as_store, as_move, as_binOp, as_fieldAddr, as_extract, as_len, boA, fr_false, List.contains_nil, beq_self_eq_true, Bool.and_self, hk_some, hopG, hopF, rd, aopsD, heapF, frzW, frzR, evT, lk, putT, lenF, binF, cellsF, ovw, argsF, okCell, List.length_cons, List.length_nil, List.getElem?_cons_zero, List.getElem?_cons_succ, List.set_cons_zero, List.set_cons_succ, List.all_cons, List.all_nil, Option.map_some, Nat.reduceAdd, Nat.reduceSub, Nat.reduceEqDiff, Nat.reduceLeDiff, Nat.succ_ne_zero, ne_eq, not_false_eq_true, true_and, and_self, eq_self, reduceCtorEq, Bool.false_eq_true, ↓reduceIte, Nat.zero_add, TT3, TT38, TT40]
            refine ACall.intro (refCut_a b n _ (by omega) hsm) ?_
            simp only [cutB_all b (n := n) (by omega), ac_ret, ac_seq, ac_region, at_normal, ae_ret, ao_nil, ao_cons, as_store, as_move, as_assign, as_load, as_fieldAddr, as_extract, boA, fr_false, fr_nil, fr_cons, List.contains_nil, beq_self_eq_true, Bool.and_self, hk_some, hopG, rd, aopsD, heapF, constT, evT, lk, putT, loadF, cellsF, ovw, okCell, resF, resL, constA, cellA, TK.isAgg, Value.oneCell', List.length_cons, List.length_nil, List.getElem?_cons_zero, List.getElem?_cons_succ, List.drop_zero, List.take_succ_cons, List.take_nil, List.set_cons_zero, List.set_cons_succ, List.all_cons, List.all_nil, Option.map_some, Option.bind_some, Nat.reduceAdd, Nat.reduceSub, Nat.reduceEqDiff, Nat.reduceLeDiff, Nat.succ_ne_zero, ne_eq, not_false_eq_true, true_and, and_true, and_self, eq_self, Bool.false_eq_true, ↓reduceIte, Nat.zero_add, Nat.le_refl, TT38, TT40]
            try rfl
        · rw [dT] at c4
          rw [if_pos (by omega)]
          simp only [ac_ret, ac_seq, ac_region, at_normal, at_ret, ae_ret, ao_nil, ao_cons, if_t, as_store, as_assign, as_build, fr_false, fr_nil, fr_cons, List.contains_nil, beq_self_eq_true, Bool.and_self, hk_some, hopG, rd, aopsD, heapF, constT, evT, lk, putT, loadF, cellsF, ovw, fillF, buildF, partsF, okCell, resF, resL, constA, cellA, TK.isAgg, Value.oneCell', List.length_cons, List.length_nil, List.getElem?_cons_zero, List.drop_zero, List.take_succ_cons, List.take_nil, List.set_cons_zero, List.set_cons_succ, List.all_cons, List.all_nil, Option.map_some, Option.bind_some, Nat.reduceAdd, Nat.reduceSub, Nat.reduceEqDiff, Nat.reduceLeDiff, true_and, and_true, and_self, eq_self, Bool.false_eq_true, ↓reduceIte, Nat.zero_add, Nat.le_refl, TT40]
          try rfl
      · rw [dT] at c3
        rw [if_pos (.inr (by omega))]
        simp only [ac_ret, ac_seq, ac_region, at_normal, at_ret, ae_ret, ao_nil, ao_cons, if_t, as_store, as_assign, as_build, fr_false, fr_nil, fr_cons, List.contains_nil, beq_self_eq_true, Bool.and_self, hk_some, hopG, rd, aopsD, heapF, constT, evT, lk, putT, loadF, cellsF, ovw, fillF, buildF, partsF, okCell, resF, resL, constA, cellA, TK.isAgg, Value.oneCell', List.length_cons, List.length_nil, List.getElem?_cons_zero, List.drop_zero, List.take_succ_cons, List.take_nil, List.set_cons_zero, List.set_cons_succ, List.all_cons, List.all_nil, Option.map_some, Option.bind_some, Nat.reduceAdd, Nat.reduceSub, Nat.reduceEqDiff, Nat.reduceLeDiff, true_and, and_true, and_self, eq_self, Bool.false_eq_true, ↓reduceIte, Nat.zero_add, Nat.le_refl, TT40]
        try rfl
    · rw [dT] at c2
      rw [if_pos (.inl c2)]
      simp only [ac_ret, ac_seq, ac_cond, ac_region, at_normal, at_ret, ae_ret, ao_nil, ao_cons, ao_guard_f, sk_at, pk_at, if_t, as_pick, as_store, as_assign, as_build, fr_false, fr_nil, fr_cons, List.contains_nil, beq_self_eq_true, Bool.and_self, hk_some, hopG, rd, aopsD, heapF, constT, evT, lk, putT, GV, gdst, loadF, cellsF, ovw, fillF, buildF, partsF, okCell, resF, resL, constA, cellA, TK.isAgg, Value.oneCell', List.length_cons, List.length_nil, List.getElem?_cons_zero, List.drop_zero, List.take_succ_cons, List.take_nil, List.set_cons_zero, List.set_cons_succ, List.all_cons, List.all_nil, Option.map_some, Option.bind_some, Nat.reduceAdd, Nat.reduceSub, Nat.reduceEqDiff, Nat.reduceLeDiff, true_and, and_true, and_self, eq_self, Bool.false_eq_true, ↓reduceIte, Nat.zero_add, Nat.le_refl, TT40]
      try rfl
/-! ### what is written is read -/
theorem get32_at (a b : List UInt8) (k : Nat) (r : Int) (hk : k = a.length) (hr : 0 ≤ r ∧ r ≤ 4294967295) : get32 (a ++ (put32 [r] ++ b)) k = r := by subst hk; exact get32_put a b r hr
theorem num_put16 (r : Int) (hr : 0 ≤ r ∧ r ≤ 65535) : (num (put16 [r]) : Int) = r := by
  have h3 := u8_toNat (r / 256)
  have h4 := u8_toNat r
  simp only [num, put16, List.foldl_cons, List.foldl_nil]
  omega
theorem get16_at (a b : List UInt8) (k : Nat) (r : Int) (hk : k = a.length) (hr : 0 ≤ r ∧ r ≤ 65535) : get16 (a ++ (put16 [r] ++ b)) k = r := by
  subst hk
  have hb : thereB (a ++ (put16 [r] ++ b)).length a.length 2 = true := thereB_iff.2 (by simp [length_put16]; omega)
  rw [get16, if_pos hb]
  have e : ((a ++ (put16 [r] ++ b)).drop ((a.length : Int)).toNat).take 2 = put16 [r] := by
    rw [Int.toNat_natCast, List.drop_left, List.take_left' (by simp [length_put16])]
  rw [e]
  have := num_put16 r hr
  omega
theorem byteN_at (a b : List UInt8) (k : Nat) (x : UInt8) (hk : k = a.length) : byteN (a ++ (x :: b)) k = (x.toNat : Int) := by
  subst hk
  simp [byteN, List.getD]
def segH (s : SegN) : List UInt8 := put16 [s.src, s.dst] ++ (put32 [s.seq, s.ack] ++ ([u8 ((5 + s.opts.length / 4 : Nat) * 16 + s.res), u8 s.flags] ++ put16 [s.win]))
theorem segB_mid (s : SegN) (x : Int) : segB s x = segH s ++ (put16 [x] ++ (put16 [s.urg] ++ (s.opts ++ s.data))) := by simp [segB, segH, put16]
theorem put16_0 : put16 [0] = [0, 0] := by decide
theorem tcpP_B (src dst : Int) (s : SegN) (hs : s.ok) (hm : segMay s = true) : tcpP src dst (tcpB src dst s) = (s, 0) := by
  obtain ⟨k1, k2, k3, k4, k5, k6, k7, k8⟩ := hs
  simp only [segMay, Bool.and_eq_true, decide_eq_true_eq] at hm
  obtain ⟨m1, m2, m3, m4⟩ := hm
  have hlen : (tcpB src dst s).length = 20 + s.opts.length + s.data.length := segB_len _ _
  have hones : onesF (psB src dst 6 ((tcpB src dst s).length : Int) ++ tcpB src dst s) = 65535 := by
    rw [hlen]
    have := fills_law (psB src dst 6 (20 + s.opts.length + s.data.length : Nat) ++ segH s) (put16 [s.urg] ++ (s.opts ++ s.data)) (by simp [segH, psB_len, length_put16, length_put32])
    rw [← put16_0, List.append_assoc, ← segB_mid] at this
    rw [tcpB, segB_mid, ← List.append_assoc]
    exact this
  have h12 : byteN (tcpB src dst s) 12 = (5 + s.opts.length / 4 : Nat) * 16 + s.res := by
    have := byteN_at (put16 [s.src, s.dst] ++ put32 [s.seq, s.ack]) (u8 s.flags :: (put16 [s.win, tcpX src dst s, s.urg] ++ (s.opts ++ s.data))) 12 (u8 ((5 + s.opts.length / 4 : Nat) * 16 + s.res)) (by simp [length_put16, length_put32])
    have e : tcpB src dst s = put16 [s.src, s.dst] ++ put32 [s.seq, s.ack] ++ (u8 ((5 + s.opts.length / 4 : Nat) * 16 + s.res) :: (u8 s.flags :: (put16 [s.win, tcpX src dst s, s.urg] ++ (s.opts ++ s.data)))) := by simp [tcpB, segB]
    rw [e, this, u8_toNat]
    omega
  have h13 : byteN (tcpB src dst s) 13 = s.flags := by
    have := byteN_at (put16 [s.src, s.dst] ++ put32 [s.seq, s.ack] ++ [u8 ((5 + s.opts.length / 4 : Nat) * 16 + s.res)]) (put16 [s.win, tcpX src dst s, s.urg] ++ (s.opts ++ s.data)) 13 (u8 s.flags) (by simp [length_put16, length_put32])
    have e : tcpB src dst s = put16 [s.src, s.dst] ++ put32 [s.seq, s.ack] ++ [u8 ((5 + s.opts.length / 4 : Nat) * 16 + s.res)] ++ (u8 s.flags :: (put16 [s.win, tcpX src dst s, s.urg] ++ (s.opts ++ s.data))) := by simp [tcpB, segB]
    rw [e, this, u8_toNat]
    omega
  have hn : byteN (tcpB src dst s) 12 / 16 * 4 = (20 + s.opts.length : Nat) := by rw [h12]; omega
  have hr : byteN (tcpB src dst s) 12 % 16 = s.res := by rw [h12]; omega
  have f1 : get16 (tcpB src dst s) 0 = s.src := by
    have := get16_at [] (put16 [s.dst] ++ (put32 [s.seq, s.ack] ++ ([u8 ((5 + s.opts.length / 4 : Nat) * 16 + s.res), u8 s.flags] ++ (put16 [s.win, tcpX src dst s, s.urg] ++ (s.opts ++ s.data))))) 0 s.src rfl k1
    rw [← this]; congr 1
  have f2 : get16 (tcpB src dst s) 2 = s.dst := by
    have := get16_at (put16 [s.src]) (put32 [s.seq, s.ack] ++ ([u8 ((5 + s.opts.length / 4 : Nat) * 16 + s.res), u8 s.flags] ++ (put16 [s.win, tcpX src dst s, s.urg] ++ (s.opts ++ s.data)))) 2 s.dst (by simp [length_put16]) k2
    rw [← this]; congr 1
  have f3 : get32 (tcpB src dst s) 4 = s.seq := by
    have := get32_at (put16 [s.src, s.dst]) (put32 [s.ack] ++ ([u8 ((5 + s.opts.length / 4 : Nat) * 16 + s.res), u8 s.flags] ++ (put16 [s.win, tcpX src dst s, s.urg] ++ (s.opts ++ s.data)))) 4 s.seq (by simp [length_put16]) k3
    rw [← this]; congr 1
  have f4 : get32 (tcpB src dst s) 8 = s.ack := by
    have := get32_at (put16 [s.src, s.dst] ++ put32 [s.seq]) ([u8 ((5 + s.opts.length / 4 : Nat) * 16 + s.res), u8 s.flags] ++ (put16 [s.win, tcpX src dst s, s.urg] ++ (s.opts ++ s.data))) 8 s.ack (by simp [length_put16, length_put32]) k4
    rw [← this]; congr 1
  have f5 : get16 (tcpB src dst s) 14 = s.win := by
    have := get16_at (put16 [s.src, s.dst] ++ (put32 [s.seq, s.ack] ++ [u8 ((5 + s.opts.length / 4 : Nat) * 16 + s.res), u8 s.flags])) (put16 [tcpX src dst s, s.urg] ++ (s.opts ++ s.data)) 14 s.win (by simp [length_put16, length_put32]) k7
    rw [← this]; congr 1
  have f6 : get16 (tcpB src dst s) 18 = s.urg := by
    have := get16_at (segH s ++ put16 [tcpX src dst s]) (s.opts ++ s.data) 18 s.urg (by simp [segH, length_put16, length_put32]) k8
    rw [← this]; congr 1
  have e20 : tcpB src dst s = (segH s ++ put16 [tcpX src dst s, s.urg]) ++ (s.opts ++ s.data) := by simp [tcpB, segB_mid, put16]
  have l20 : (segH s ++ put16 [tcpX src dst s, s.urg]).length = 20 := by simp [segH, length_put16, length_put32]
  have f7 : cutB (tcpB src dst s) 20 ((20 + s.opts.length : Nat) - 20) = s.opts := by
    have ht : thereB (tcpB src dst s).length 20 (((20 + s.opts.length : Nat) : Int) - 20) = true := thereB_iff.2 (by rw [hlen]; omega)
    rw [cutB, if_pos ht, e20, show (20 : Int).toNat = (segH s ++ put16 [tcpX src dst s, s.urg]).length by rw [l20]; rfl, List.drop_left, List.take_left' (by omega)]
  have f8 : (tcpB src dst s).drop ((20 + s.opts.length : Nat) : Int).toNat = s.data := by
    rw [e20, ← List.append_assoc, Int.toNat_natCast, List.drop_left' (by rw [List.length_append, l20])]
  rw [tcpP, if_neg (by omega), hn, if_neg (by omega), if_neg (by omega), if_neg (by simpa using hones), f1, f2, f3, f4, f5, f6, f7, f8, hr, h13]
end Go.Proofs.Ythjojkkapboonaa
