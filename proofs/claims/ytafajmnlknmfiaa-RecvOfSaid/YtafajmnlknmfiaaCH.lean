/- Package udp, through its own text. -/
import Derived.Test.YtafajmnlknmfiaaCE
import Derived.Test.YtafajmnlknmfiaaCG
namespace Go.Proofs.Ytafajmnlknmfiaa
set_option linter.unusedSimpArgs false
set_option linter.unusedVariables false
open Go.RowKit

def udpS (src dst sp dp : Int) (l : List UInt8) : Int :=
  if 65535 - onesF (psB src dst 17 (8 + l.length) ++ (put16 [sp, dp, 8 + l.length, 0] ++ l)) = 0 then 65535 else 65535 - onesF (psB src dst 17 (8 + l.length) ++ (put16 [sp, dp, 8 + l.length, 0] ++ l))
/-- A datagram's bytes. -/
def udpB (src dst sp dp : Int) (bare : Bool) (l : List UInt8) : List UInt8 := put16 [sp, dp, 8 + l.length, if bare then 0 else udpS src dst sp dp l] ++ l
theorem udpS_bd (src dst sp dp : Int) (l : List UInt8) : 0 < udpS src dst sp dp l ∧ udpS src dst sp dp l ≤ 65535 := by
  have := onesF_bd (psB src dst 17 (8 + l.length) ++ (put16 [sp, dp, 8 + l.length, 0] ++ l))
  unfold udpS
  split <;> omega
theorem set16_6 (a b c s : Int) (l : List UInt8) : set16 (put16 [a, b, c, 0] ++ l) 6 s = put16 [a, b, c, s] ++ l := by
  have hb : thereB (put16 [a, b, c, 0] ++ l).length 6 2 = true := thereB_iff.2 (by simp [length_put16]; omega)
  rw [set16, if_pos hb]
  simp [put16]

/-- What bytes begin with: a datagram, or why none. -/
def udpP (src dst : Int) (b : List UInt8) : (Int × Int × Bool × List UInt8) × Int :=
  if b.length < 8 then ((0, 0, false, []), 4) else if get16 b 4 < 8 then ((0, 0, false, []), 3) else if (b.length : Int) < get16 b 4 then ((0, 0, false, []), 4)
  else if ¬ get16 b 6 = 0 ∧ ¬ onesF (psB src dst 17 (get16 b 4) ++ b.take (get16 b 4).toNat) = 65535 then ((0, 0, false, []), 5)
  else ((get16 b 0, get16 b 2, decide (get16 b 6 = 0), (b.take (get16 b 4).toNat).drop 8), 0)
theorem get16_bd (l : List UInt8) (at_ : Int) : 0 ≤ get16 l at_ ∧ get16 l at_ ≤ 65535 := by
  unfold get16
  split <;> omega
theorem get16_take (b : List UInt8) (n k : Nat) (h : k + 2 ≤ n) (h2 : n ≤ b.length) : get16 (b.take n) k = get16 b k := by
  have hb : thereB (b.take n).length k 2 = true := thereB_iff.2 (by simp; omega)
  have hb2 : thereB b.length k 2 = true := thereB_iff.2 (by omega)
  rw [get16, get16, if_pos hb, if_pos hb2, Int.toNat_natCast, List.drop_take, List.take_take]
  congr 5
  omega
set_option maxRecDepth 100000 in
theorem udpParse_a (src dst : Int) (b : List UInt8) (h1 : 0 ≤ src ∧ src ≤ 4294967295) (h2 : 0 ≤ dst ∧ dst ≤ 4294967295) (hl : b.length ≤ 100000) :
    ASpec Try.prog 198 [u32A src, u32A dst, .bs b] (.tup [datA (udpP src dst b).1.1 (udpP src dst b).1.2.1 (udpP src dst b).1.2.2.1 (udpP src dst b).1.2.2.2, i64 (udpP src dst b).2]) := by
  have n1 := get16_bd b 4
  have n2 := get16_bd b 6
  have hsm : small b := by simp only [small]; omega
  refine ASpec.of_body TT_ok Try.mixed _ [.cell 6 164, .tmp 7] ([], []) Try.func198 (by kernel_rfl) rfl rfl (by simp only [Try.ntmps198, List.length_cons, List.length_nil]; omega) rfl (by kernel_rfl) ?_
  simp only [argE_cons, argE_nil, ac_seq, ac_cond, ac_region, at_normal, ao_nil, ao_cons, as_alloc, as_move, as_assign, as_binOp, as_len, datA, u16A, u32A, i64, boA, fr_false, List.contains_nil, beq_self_eq_true, hk_some, hopG, hopF, rd, aopsD, heapF, constT, evT, lk, putT, lenF, binF, constA, cellA, List.length_nil, List.nil_append, Option.map_some, Nat.reduceAdd, Nat.reduceSub, Nat.reduceEqDiff, Nat.reduceLeDiff, true_and, eq_self, reduceCtorEq, Bool.false_eq_true, ↓reduceIte, Nat.zero_add, TT3, TT38, TT164]
  refine AIf.intro (fun c1 => ?_) (fun c1 => ?_)
  · simp only [c1, ac_ret, ac_seq, ac_region, at_normal, at_ret, ae_ret, ao_nil, ao_cons, as_store, as_assign, as_build, fr_false, fr_nil, fr_cons, List.contains_nil, beq_self_eq_true, Bool.and_self, hk_some, hopG, rd, aopsD, heapF, constT, evT, lk, putT, loadF, cellsF, ovw, fillF, buildF, partsF, okCell, resF, resL, constA, cellA, TK.isAgg, Value.oneCell', List.length_cons, List.length_nil, List.getElem?_cons_zero, List.drop_zero, List.take_succ_cons, List.take_nil, List.set_cons_zero, List.set_cons_succ, List.all_cons, List.all_nil, Option.map_some, Option.bind_some, Nat.reduceAdd, Nat.reduceSub, Nat.reduceEqDiff, Nat.reduceLeDiff, true_and, and_true, and_self, eq_self, Bool.false_eq_true, ↓reduceIte, Nat.zero_add, Nat.le_refl, TT164]
    rw [dT] at c1
    rw [show udpP src dst b = ((0, 0, false, []), 4) from if_pos (by omega)]
  · simp only [c1, ac_skip, ac_seq, ac_region, at_normal, ao_cons, as_call, as_move, fr_false, List.contains_nil, beq_self_eq_true, rd, aopsD, frzW, frzR, constT, evT, lk, putT, argsF, constA, cellA, Option.map_some, Nat.reduceSub, Nat.reduceEqDiff, Nat.reduceLeDiff, eq_self, reduceCtorEq, Bool.false_eq_true, ↓reduceIte]
    rw [dF] at c1
    refine ACall.intro (get16_a b 4 (by omega)) ?_
    simp only [ac_seq, ac_region, at_normal, ao_nil, ao_cons, as_call, as_move, as_assign, as_extract, u16A, boA, fr_false, List.contains_nil, beq_self_eq_true, hk_some, hopG, rd, aopsD, frzW, frzR, constT, evT, lk, putT, argsF, constA, cellA, List.getElem?_cons_zero, List.getElem?_cons_succ, Option.map_some, Nat.reduceSub, Nat.reduceEqDiff, Nat.reduceLeDiff, true_and, eq_self, reduceCtorEq, Bool.false_eq_true, ↓reduceIte]
    refine ACall.intro (get16_a b 6 (by omega)) ?_
    have e1 : IntKind.i64.wrap (get16 b 4) = get16 b 4 := i64_in (by omega) (by omega)
    simp only [ac_seq, ac_block, ac_cond, ac_region, at_normal, ao_nil, ao_cons, as_move, as_assign, as_binOp, as_extract, u16A, boA, fr_false, List.contains_nil, beq_self_eq_true, hk_some, hopG, rd, aopsD, constT, evT, lk, putT, binF, constA, cellA, List.getElem?_cons_zero, List.getElem?_cons_succ, Option.map_some, Nat.reduceSub, Nat.reduceEqDiff, Nat.reduceLeDiff, true_and, eq_self, Bool.false_eq_true, ↓reduceIte, TT23]
    refine AIf.intro (fun c2 => ?_) (fun c2 => ?_)
    · simp only [c2, ac_ret, ac_seq, ac_region, at_normal, at_ret, ab_ret, ae_ret, ao_nil, ao_cons, as_store, as_assign, as_build, fr_false, fr_nil, fr_cons, List.contains_nil, beq_self_eq_true, Bool.and_self, hk_some, hopG, rd, aopsD, heapF, constT, evT, lk, putT, loadF, cellsF, ovw, fillF, buildF, partsF, okCell, resF, resL, constA, cellA, TK.isAgg, Value.oneCell', List.length_cons, List.length_nil, List.getElem?_cons_zero, List.drop_zero, List.take_succ_cons, List.take_nil, List.set_cons_zero, List.set_cons_succ, List.all_cons, List.all_nil, Option.map_some, Option.bind_some, Nat.reduceAdd, Nat.reduceSub, Nat.reduceEqDiff, Nat.reduceLeDiff, true_and, and_true, and_self, eq_self, Bool.false_eq_true, ↓reduceIte, Nat.zero_add, Nat.le_refl, TT164]
      rw [dT] at c2
      rw [show udpP src dst b = ((0, 0, false, []), 3) from by rw [udpP, if_neg (by omega), if_pos (by omega)]]
      try rfl
    · simp only [c2, e1, ac_seq, ac_cond, ac_region, at_normal, ao_nil, ao_cons, as_move, as_assign, as_binOp, as_convert, as_len, fr_false, List.contains_nil, beq_self_eq_true, hk_some, hopG, hopF, rd, aopsD, evT, lk, putT, lenF, binF, convF, Option.map_some, Nat.reduceSub, Nat.reduceEqDiff, Nat.reduceLeDiff, true_and, eq_self, reduceCtorEq, Bool.false_eq_true, ↓reduceIte, TT3, TT23, TT38]
      rw [dF] at c2
      refine AIf.intro (fun c3 => ?_) (fun c3 => ?_)
      · simp only [c3, ac_ret, ac_seq, ac_region, at_normal, at_ret, ab_ret, ae_ret, ao_nil, ao_cons, as_store, as_assign, as_build, fr_false, fr_nil, fr_cons, List.contains_nil, beq_self_eq_true, Bool.and_self, hk_some, hopG, rd, aopsD, heapF, constT, evT, lk, putT, loadF, cellsF, ovw, fillF, buildF, partsF, okCell, resF, resL, constA, cellA, TK.isAgg, Value.oneCell', List.length_cons, List.length_nil, List.getElem?_cons_zero, List.drop_zero, List.take_succ_cons, List.take_nil, List.set_cons_zero, List.set_cons_succ, List.all_cons, List.all_nil, Option.map_some, Option.bind_some, Nat.reduceAdd, Nat.reduceSub, Nat.reduceEqDiff, Nat.reduceLeDiff, true_and, and_true, and_self, eq_self, Bool.false_eq_true, ↓reduceIte, Nat.zero_add, Nat.le_refl, TT164]
        rw [dT] at c3
        rw [show udpP src dst b = ((0, 0, false, []), 4) from by rw [udpP, if_neg (by omega), if_neg (by omega), if_pos (by omega)]]
        try rfl
      · simp only [c3, e1, ac_skip, ac_seq, ac_region, at_normal, ab_normal, ao_cons, as_call, as_move, as_convert, fr_false, List.contains_nil, beq_self_eq_true, hk_some, hopG, rd, aopsD, frzW, frzR, constT, evT, lk, putT, convF, argsF, constA, cellA, Option.map_some, Nat.reduceSub, Nat.reduceEqDiff, Nat.reduceLeDiff, true_and, eq_self, reduceCtorEq, Bool.false_eq_true, ↓reduceIte, TT3, TT23]
        rw [dF] at c3
        obtain ⟨n, hn⟩ : ∃ n : Nat, get16 b 4 = (n : Int) := ⟨(get16 b 4).toNat, by omega⟩
        have k4 : get16 (b.take n) 4 = get16 b 4 := get16_take b n 4 (by omega) (by omega)
        have k0 : get16 (b.take n) 0 = get16 b 0 := get16_take b n 0 (by omega) (by omega)
        have k2 : get16 (b.take n) 2 = get16 b 2 := get16_take b n 2 (by omega) (by omega)
        have k6 : get16 (b.take n) 6 = get16 b 6 := get16_take b n 6 (by omega) (by omega)
        have t1 : thereB (b.take n).length 0 2 = true := thereB_iff.2 (by simp; omega)
        have hp : udpP src dst b = if ¬ get16 b 6 = 0 ∧ ¬ onesF (psB src dst 17 (n : Int) ++ b.take n) = 65535 then ((0, 0, false, []), 5)
            else ((get16 b 0, get16 b 2, decide (get16 b 6 = 0), (b.take n).drop 8), 0) := by
          rw [udpP, if_neg (by omega), if_neg (by omega), if_neg (by omega), hn, Int.toNat_natCast]
        rw [hp]
        clear hp
        have hm : cutB b 0 (n : Int) = b.take n := cutB_take b (by omega)
        rw [hn]
        refine ACall.intro (cut_a b 0 (n : Int) (by omega) hsm) ?_
        simp only [hm, ac_seq, ac_region, at_normal, ao_nil, ao_cons, ao_guard_t, as_move, as_assign, as_binOp, as_extract, boA, fr_false, List.contains_nil, beq_self_eq_true, hk_some, hopG, rd, aopsD, constT, evT, lk, putT, GV, gdst, binF, constA, cellA, List.getElem?_cons_zero, List.getElem?_cons_succ, Option.map_some, Nat.reduceSub, Nat.reduceEqDiff, Nat.reduceLeDiff, true_and, eq_self, Bool.false_eq_true, ↓reduceIte, TT23]
        have kl : (b.take n).length = n := by simp; omega
        have ew : IntKind.i64.wrap (n : Int) = n := i64_in (by omega) (by omega)
        have e0 : IntKind.i64.wrap (8 : Int) = 8 := i64_in (by omega) (by omega)
        have e8 : IntKind.i64.wrap ((n : Int) - 8) = (n : Int) - 8 := i64_in (by omega) (by omega)
        have hc : cutB (b.take n) 8 ((n : Int) - 8) = (b.take n).drop 8 := by
          have := cutB_all (b.take n) (n := 8) (by omega)
          rw [kl] at this
          exact this
        have hsm2 : small (b.take n) := by simp only [small]; omega
        cases hz : decide (get16 b 6 = 0)
        · rw [dF] at hz
          simp only [hz, ew, ao_guard_t, st_at, if_t, as_call, as_move, as_convert, beq_self_eq_true, hk_some, hopG, rd, frzW, frzR, constT, evT, lk, putT, GV, gdst, convF, argsF, constA, cellA, Option.map_some, Nat.reduceSub, Nat.reduceEqDiff, Nat.succ_ne_zero, not_false_eq_true, true_and, eq_self, reduceCtorEq, Bool.not_false, ↓reduceIte, TT3, TT23]
          refine ACall.intro (head_a src dst 17 (n : Int) h1 h2 (by omega)) ?_
          simp only [ao_guard_t, st_at, if_t, as_call, as_move, as_buildSlice, beq_self_eq_true, hk_some, hopG, rd, frzW, frzR, evT, lk, putT, GV, gdst, cellsF, ovw, fillF, makeSF, partsF, argsF, List.length_cons, List.length_nil, List.set_cons_zero, List.set_cons_succ, List.nil_append, List.cons_append, List.replicate_succ, List.replicate_zero, List.flatten_cons, List.flatten_nil, List.append_nil, Option.map_some, Nat.reduceAdd, Nat.reduceSub, Nat.reduceEqDiff, Nat.reduceLeDiff, true_and, and_self, eq_self, ↓reduceIte, Nat.mul_one, Nat.zero_add, Nat.zero_lt_succ, Nat.le_refl, TT38, TT237]
          have hd : (psB src dst 17 (n : Int)).length = 12 := by simp [psB, length_put32, length_put16]
          refine ACall.intro (right_a [psB src dst 17 (n : Int), b.take n] (by simp [small]; omega)) ?_
          simp only [ac_cond, at_normal, ao_nil, ao_cons, ao_guard_t, st_at, pk_at, if_t, as_pick, as_unOp, boA, beq_self_eq_true, hk_some, hopG, rd, evT, lk, putT, GV, gdst, unF, List.flatten_cons, List.flatten_nil, List.append_nil, Option.map_some, Nat.reduceSub, Nat.reduceEqDiff, true_and, eq_self, ↓reduceIte]
          generalize onesF (psB src dst 17 (n : Int) ++ b.take n) = q at *
          cases hq : (q == 65535)
          · have hq' : ¬ q = 65535 := by simpa using hq
            simp only [ac_ret, ac_seq, ac_region, at_normal, at_ret, ae_ret, ao_nil, ao_cons, if_t, as_store, as_assign, as_build, fr_false, fr_nil, fr_cons, List.contains_nil, beq_self_eq_true, Bool.and_self, hk_some, hopG, rd, aopsD, heapF, constT, evT, lk, putT, loadF, cellsF, ovw, fillF, buildF, partsF, okCell, resF, resL, constA, cellA, TK.isAgg, Value.oneCell', List.length_cons, List.length_nil, List.getElem?_cons_zero, List.drop_zero, List.take_succ_cons, List.take_nil, List.set_cons_zero, List.set_cons_succ, List.all_cons, List.all_nil, Option.map_some, Option.bind_some, Nat.reduceAdd, Nat.reduceSub, Nat.reduceEqDiff, Nat.reduceLeDiff, true_and, and_true, and_self, eq_self, Bool.false_eq_true, Bool.not_false, ↓reduceIte, Nat.zero_add, Nat.le_refl, TT164]
            simp only [hq', not_false_eq_true, if_true]
          · have hq' : q = 65535 := by simpa using hq
            simp only [ac_skip, ac_seq, ac_region, at_normal, ao_nil, ao_cons, if_f, as_call, as_alloc, as_store, as_move, as_binOp, as_build, fr_false, List.contains_nil, beq_self_eq_true, Bool.and_self, hk_some, hopG, rd, aopsD, heapF, frzW, frzR, constT, evT, lk, putT, binF, cellsF, ovw, fillF, buildF, partsF, argsF, okCell, constA, cellA, Value.oneCell', List.length_cons, List.length_nil, List.getElem?_cons_zero, List.getElem?_cons_succ, List.set_cons_zero, List.set_cons_succ, List.nil_append, List.cons_append, List.all_cons, List.all_nil, Option.map_some, Nat.reduceAdd, Nat.reduceSub, Nat.reduceEqDiff, Nat.reduceLeDiff, true_and, and_self, eq_self, Bool.false_eq_true, Bool.not_true, ↓reduceIte, Nat.zero_add, Nat.le_refl, TT23, TT164]
            refine ACall.intro (get16_a (b.take n) 0 (by omega)) ?_
            simp only [k0, ac_seq, ac_region, at_normal, ao_nil, ao_cons, as_call, as_store, as_move, as_fieldAddr, as_extract, u16A, boA, fr_false, List.contains_nil, beq_self_eq_true, Bool.and_self, hk_some, hopG, rd, aopsD, heapF, frzW, frzR, constT, evT, lk, putT, cellsF, ovw, argsF, okCell, constA, cellA, Value.oneCell', List.length_cons, List.length_nil, List.getElem?_cons_zero, List.getElem?_cons_succ, List.set_cons_zero, List.set_cons_succ, List.all_cons, List.all_nil, Option.map_some, Nat.reduceAdd, Nat.reduceSub, Nat.reduceEqDiff, Nat.reduceLeDiff, Nat.succ_ne_zero, ne_eq, not_false_eq_true, true_and, and_self, eq_self, Bool.false_eq_true, ↓reduceIte, Nat.zero_add, Nat.add_zero, TT23, TT164]
            refine ACall.intro (get16_a (b.take n) 2 (by omega)) ?_
            simp only [k2, kl, e8, ac_seq, ac_region, at_normal, ao_nil, ao_cons, as_call, as_store, as_move, as_binOp, as_fieldAddr, as_extract, as_len, u16A, boA, fr_false, List.contains_nil, beq_self_eq_true, Bool.and_self, hk_some, hopG, hopF, rd, aopsD, heapF, frzW, frzR, constT, evT, lk, putT, lenF, binF, cellsF, ovw, argsF, okCell, constA, cellA, Value.oneCell', List.length_cons, List.length_nil, List.getElem?_cons_zero, List.getElem?_cons_succ, List.set_cons_zero, List.set_cons_succ, List.all_cons, List.all_nil, Option.map_some, Nat.reduceAdd, Nat.reduceSub, Nat.reduceEqDiff, Nat.reduceLeDiff, Nat.succ_ne_zero, ne_eq, not_false_eq_true, true_and, and_self, eq_self, Bool.false_eq_true, ↓reduceIte, Nat.zero_add, TT3, TT23, TT38, TT164]
            refine ACall.intro (cut_a (b.take n) 8 _ (by omega) hsm2) ?_
            simp only [hc, ac_ret, ac_seq, ac_region, at_normal, ae_ret, ao_nil, ao_cons, as_store, as_move, as_assign, as_load, as_fieldAddr, as_extract, boA, fr_false, fr_nil, fr_cons, List.contains_nil, beq_self_eq_true, Bool.and_self, hk_some, hopG, rd, aopsD, heapF, constT, evT, lk, putT, loadF, cellsF, ovw, okCell, resF, resL, constA, cellA, TK.isAgg, Value.oneCell', List.length_cons, List.length_nil, List.getElem?_cons_zero, List.getElem?_cons_succ, List.drop_zero, List.take_succ_cons, List.take_nil, List.set_cons_zero, List.set_cons_succ, List.all_cons, List.all_nil, Option.map_some, Option.bind_some, Nat.reduceAdd, Nat.reduceSub, Nat.reduceEqDiff, Nat.reduceLeDiff, Nat.succ_ne_zero, ne_eq, not_false_eq_true, true_and, and_true, and_self, eq_self, Bool.false_eq_true, ↓reduceIte, Nat.zero_add, Nat.le_refl, TT38, TT164]
            rw [if_neg (by omega)]
            simp only [hz, decide_false]
        · rw [dT] at hz
          simp only [hz, ac_skip, ac_seq, ac_cond, ac_region, at_normal, ao_nil, ao_cons, ao_guard_t, sk_at, pk_at, if_f, as_pick, as_call, as_alloc, as_store, as_move, as_binOp, as_build, fr_false, List.contains_nil, beq_self_eq_true, decide_true, Bool.and_self, hk_some, hopG, rd, aopsD, heapF, frzW, frzR, constT, evT, lk, putT, GV, gdst, binF, cellsF, ovw, fillF, buildF, partsF, argsF, okCell, constA, cellA, Value.oneCell', List.length_cons, List.length_nil, List.getElem?_cons_zero, List.getElem?_cons_succ, List.set_cons_zero, List.set_cons_succ, List.nil_append, List.cons_append, List.all_cons, List.all_nil, Option.map_some, Nat.reduceAdd, Nat.reduceSub, Nat.reduceEqDiff, Nat.reduceLeDiff, not_true, true_and, and_self, false_and, eq_self, Bool.false_eq_true, Bool.not_true, ↓reduceIte, Nat.zero_add, Nat.le_refl, TT23, TT164]
          refine ACall.intro (get16_a (b.take n) 0 (by omega)) ?_
          simp only [k0, ac_seq, ac_region, at_normal, ao_nil, ao_cons, as_call, as_store, as_move, as_fieldAddr, as_extract, u16A, boA, fr_false, List.contains_nil, beq_self_eq_true, Bool.and_self, hk_some, hopG, rd, aopsD, heapF, frzW, frzR, constT, evT, lk, putT, cellsF, ovw, argsF, okCell, constA, cellA, Value.oneCell', List.length_cons, List.length_nil, List.getElem?_cons_zero, List.getElem?_cons_succ, List.set_cons_zero, List.set_cons_succ, List.all_cons, List.all_nil, Option.map_some, Nat.reduceAdd, Nat.reduceSub, Nat.reduceEqDiff, Nat.reduceLeDiff, Nat.succ_ne_zero, ne_eq, not_false_eq_true, true_and, and_self, eq_self, Bool.false_eq_true, ↓reduceIte, Nat.zero_add, Nat.add_zero, TT23, TT164]
          refine ACall.intro (get16_a (b.take n) 2 (by omega)) ?_
          simp only [k2, kl, e8, ac_seq, ac_region, at_normal, ao_nil, ao_cons, as_call, as_store, as_move, as_binOp, as_fieldAddr, as_extract, as_len, u16A, boA, fr_false, List.contains_nil, beq_self_eq_true, Bool.and_self, hk_some, hopG, hopF, rd, aopsD, heapF, frzW, frzR, constT, evT, lk, putT, lenF, binF, cellsF, ovw, argsF, okCell, constA, cellA, Value.oneCell', List.length_cons, List.length_nil, List.getElem?_cons_zero, List.getElem?_cons_succ, List.set_cons_zero, List.set_cons_succ, List.all_cons, List.all_nil, Option.map_some, Nat.reduceAdd, Nat.reduceSub, Nat.reduceEqDiff, Nat.reduceLeDiff, Nat.succ_ne_zero, ne_eq, not_false_eq_true, true_and, and_self, eq_self, Bool.false_eq_true, ↓reduceIte, Nat.zero_add, TT3, TT23, TT38, TT164]
          refine ACall.intro (cut_a (b.take n) 8 _ (by omega) hsm2) ?_
          simp only [hc, ac_ret, ac_seq, ac_region, at_normal, ae_ret, ao_nil, ao_cons, as_store, as_move, as_assign, as_load, as_fieldAddr, as_extract, boA, fr_false, fr_nil, fr_cons, List.contains_nil, beq_self_eq_true, Bool.and_self, hk_some, hopG, rd, aopsD, heapF, constT, evT, lk, putT, loadF, cellsF, ovw, okCell, resF, resL, constA, cellA, TK.isAgg, Value.oneCell', List.length_cons, List.length_nil, List.getElem?_cons_zero, List.getElem?_cons_succ, List.drop_zero, List.take_succ_cons, List.take_nil, List.set_cons_zero, List.set_cons_succ, List.all_cons, List.all_nil, Option.map_some, Option.bind_some, Nat.reduceAdd, Nat.reduceSub, Nat.reduceEqDiff, Nat.reduceLeDiff, Nat.succ_ne_zero, ne_eq, not_false_eq_true, and_true, and_self, eq_self, Bool.false_eq_true, ↓reduceIte, Nat.zero_add, Nat.le_refl, TT38, TT164]
end Go.Proofs.Ytafajmnlknmfiaa
