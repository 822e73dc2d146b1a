/- The reference of icmp, and the statements' own texts. -/
import Derived.Test.YtafajmnlknmfiaaCE
import Derived.Test.YtafajmnlknmfiaaPA
namespace Go.Proofs.Ytafajmnlknmfiaa
set_option linter.unusedSimpArgs false
set_option linter.unusedVariables false
open Go.RowKit

theorem icmpB_eq (t c r : Int) (l : List UInt8) : icmpB t c r l = [u8 t, u8 c, u8 ((65535 - onesF ([u8 t, u8 c, u8 0, u8 0] ++ put32 [r] ++ l)) / 256), u8 (65535 - onesF ([u8 t, u8 c, u8 0, u8 0] ++ put32 [r] ++ l))] ++ (put32 [r] ++ l) := by
  have hb : thereB ([u8 t, u8 c, u8 0, u8 0] ++ put32 [r] ++ l).length 2 2 = true := thereB_iff.2 (by simp; omega)
  rw [icmpB, set16, if_pos hb]
  rfl

set_option maxRecDepth 100000 in
theorem refParse07_a (l : List UInt8) (hl : small l) : ASpec Try.prog 119 [.bs l] (.tup [icmpA (icmpP l).1.1 (icmpP l).1.2.1 (icmpP l).1.2.2.1 (icmpP l).1.2.2.2, i64 (icmpP l).2]) := by
  refine ASpec.of_body TT_ok Try.mixed _ [.cell 2 134, .tmp 3] ([], []) Try.func119 (by kernel_rfl) rfl rfl (by simp only [Try.ntmps119, List.length_cons, List.length_nil]; omega) rfl (by kernel_rfl) ?_
  simp only [argE_cons, argE_nil, ac_seq, ac_cond, ac_region, at_normal, ao_nil, ao_cons, as_alloc, as_move, as_assign, as_binOp, as_len, icmpA, u8A, u32A, i64, fr_false, List.contains_nil, beq_self_eq_true, hk_some, hopG, hopF, rd, aopsD, heapF, constT, evT, lk, putT, lenF, binF, constA, cellA, List.length_nil, List.nil_append, Option.map_some, Nat.reduceSub, Nat.reduceLeDiff, Nat.succ_ne_zero, true_and, eq_self, Bool.false_eq_true, ↓reduceIte, Nat.zero_add, TT3, TT38, TT134]
  refine AIf.intro (fun h1 => ?_) (fun h1 => ?_)
  · simp only [h1, ac_ret, ac_seq, ac_region, at_normal, at_ret, ae_ret, ao_nil, ao_cons, as_store, as_assign, as_build, fr_false, fr_nil, fr_cons, List.contains_nil, beq_self_eq_true, Bool.and_self, hk_some, hopG, rd, aopsD, heapF, constT, evT, lk, putT, loadF, cellsF, ovw, fillF, buildF, partsF, okCell, resF, resL, constA, cellA, TK.isAgg, Value.oneCell', List.length_cons, List.length_nil, List.getElem?_cons_zero, List.drop_zero, List.take_succ_cons, List.take_nil, List.set_cons_zero, List.set_cons_succ, List.all_cons, List.all_nil, Option.map_some, Option.bind_some, Nat.reduceAdd, Nat.reduceSub, Nat.reduceEqDiff, Nat.reduceLeDiff, true_and, and_true, and_self, eq_self, Bool.false_eq_true, ↓reduceIte, Nat.zero_add, Nat.le_refl, TT134]
    rw [dT] at h1
    have e : icmpP l = ((0, 0, 0, []), 4) := if_pos (by omega)
    rw [e]
  · simp only [h1, ac_skip, ac_seq, ac_region, at_normal, ao_cons, as_call, as_move, fr_false, List.contains_nil, beq_self_eq_true, rd, aopsD, frzW, frzR, evT, lk, putT, argsF, Option.map_some, Nat.reduceSub, Nat.reduceLeDiff, Nat.succ_ne_zero, eq_self, Bool.false_eq_true, ↓reduceIte]
    rw [dF] at h1
    refine ACall.intro (refOnes_a l hl) ?_
    simp only [ac_cond, at_normal, ao_nil, ao_cons, as_binOp, i64, beq_self_eq_true, hk_some, hopG, rd, constT, evT, lk, putT, binF, constA, cellA, Option.map_some, Nat.reduceSub, true_and, eq_self, ↓reduceIte, TT3]
    refine AIf.intro (fun h2 => ?_) (fun h2 => ?_)
    · simp only [h2, ac_ret, ac_seq, ac_region, at_normal, at_ret, ae_ret, ao_nil, ao_cons, as_store, as_assign, as_build, fr_false, fr_nil, fr_cons, List.contains_nil, beq_self_eq_true, Bool.and_self, hk_some, hopG, rd, aopsD, heapF, constT, evT, lk, putT, loadF, cellsF, ovw, fillF, buildF, partsF, okCell, resF, resL, constA, cellA, TK.isAgg, Value.oneCell', List.length_cons, List.length_nil, List.getElem?_cons_zero, List.drop_zero, List.take_succ_cons, List.take_nil, List.set_cons_zero, List.set_cons_succ, List.all_cons, List.all_nil, Option.map_some, Option.bind_some, Nat.reduceAdd, Nat.reduceSub, Nat.reduceEqDiff, Nat.reduceLeDiff, true_and, and_true, and_self, eq_self, Bool.false_eq_true, ↓reduceIte, Nat.zero_add, Nat.le_refl, TT134]
      have e : icmpP l = ((0, 0, 0, []), 5) := by
        rw [icmpP, if_neg (by omega), if_pos (by simpa using h2)]
      rw [e]
    · simp only [h2, ac_skip, ac_seq, ac_region, at_normal, ao_nil, ao_cons, as_call, as_alloc, as_store, as_move, as_load, as_indexAddr, as_build, fr_false, List.contains_nil, Nat.reduceBEq, beq_self_eq_true, Bool.and_self, hk_some, hopG, rd, aopsD, heapF, frzW, frzR, tlN, constT, evT, lk, putT, loadF, cellsF, ovw, fillF, buildF, partsF, argsF, okCell, constA, cellA, TK.isAgg, Value.oneCell', List.length_cons, List.length_nil, List.getElem?_cons_zero, List.getElem?_cons_succ, List.set_cons_zero, List.set_cons_succ, List.nil_append, List.cons_append, List.all_cons, List.all_nil, Option.map_some, Nat.reduceAdd, Nat.reduceSub, Nat.reduceEqDiff, Nat.reduceLeDiff, Nat.succ_ne_zero, true_and, and_self, eq_self, Bool.false_eq_true, ↓reduceIte, Int.toNat_zero, Int.reduceToNat, Int.reduceLE, Nat.zero_add, Nat.le_refl, TT5, TT38, TT134]
      have e : icmpP l = ((((l.getD 0 0).toNat : Int), ((l.getD 1 0).toNat : Int), get32 l 4, l.drop 8), (0 : Int)) := by
        rw [icmpP, if_neg (by omega), if_neg (by simpa using h2)]
      refine ⟨by omega, by omega, ?_⟩
      refine ACall.intro (refGet_a l 4 4 (by omega) (by omega)) ?_
      simp only [ac_seq, ac_region, at_normal, ao_nil, ao_cons, as_call, as_store, as_move, as_binOp, as_fieldAddr, as_extract, as_len, u32A, boA, fr_false, List.contains_nil, beq_self_eq_true, Int.cast_ofNat_Int, Bool.and_self, hk_some, hopG, hopF, rd, aopsD, heapF, frzW, frzR, constT, evT, lk, putT, lenF, binF, cellsF, ovw, argsF, okCell, constA, cellA, Value.oneCell', List.length_cons, List.length_nil, List.getElem?_cons_zero, List.getElem?_cons_succ, List.set_cons_zero, List.set_cons_succ, List.all_cons, List.all_nil, Option.map_some, Nat.reduceAdd, Nat.reduceSub, Nat.reduceEqDiff, Nat.reduceLeDiff, Nat.succ_ne_zero, ne_eq, not_false_eq_true, true_and, and_self, eq_self, Bool.false_eq_true, ↓reduceIte, Int.reduceToNat, Nat.zero_add, TT3, TT22, TT38, TT134]
      refine ACall.intro (refCut_a l 8 _ (by omega) hl) ?_
      simp only [i64_in (n := (l.length : Int) - 8) (by omega) (by simp only [small] at hl; omega), ac_ret, ac_seq, ac_region, at_normal, ae_ret, ao_nil, ao_cons, as_store, as_move, as_assign, as_load, as_fieldAddr, as_extract, boA, fr_false, fr_nil, fr_cons, List.contains_nil, beq_self_eq_true, Bool.and_self, hk_some, hopG, rd, aopsD, heapF, constT, evT, lk, putT, loadF, cellsF, ovw, okCell, resF, resL, constA, cellA, TK.isAgg, Value.oneCell', List.length_cons, List.length_nil, List.getElem?_cons_zero, List.getElem?_cons_succ, List.drop_zero, List.take_succ_cons, List.take_nil, List.set_cons_zero, List.set_cons_succ, List.all_cons, List.all_nil, Option.map_some, Option.bind_some, Nat.reduceAdd, Nat.reduceSub, Nat.reduceEqDiff, Nat.reduceLeDiff, Nat.succ_ne_zero, ne_eq, not_false_eq_true, true_and, and_true, and_self, eq_self, Bool.false_eq_true, ↓reduceIte, Nat.zero_add, Nat.le_refl, TT38, TT134]
      rw [e, show cutB l 8 ((l.length : Int) - 8) = l.drop 8 from cutB_all l (n := 8) (by omega)]
      rfl
theorem icmpP_e (l : List UInt8) : IntKind.i64.wrap (icmpP l).2 = (icmpP l).2 := by
  unfold icmpP
  split
  · rfl
  · split <;> rfl
theorem icmpB_len (t c r : Int) (l : List UInt8) : (icmpB t c r l).length = 8 + l.length := by rw [icmpB_eq]; simp [length_put32]; omega
theorem get32_put (a b : List UInt8) (r : Int) (hr : 0 ≤ r ∧ r ≤ 4294967295) : get32 (a ++ (put32 [r] ++ b)) a.length = r := by
  have hb : thereB (a ++ (put32 [r] ++ b)).length a.length 4 = true := thereB_iff.2 (by simp [length_put32]; omega)
  rw [get32, if_pos hb]
  have e : ((a ++ (put32 [r] ++ b)).drop ((a.length : Int)).toNat).take 4 = put32 [r] := by
    rw [Int.toNat_natCast, List.drop_left, List.take_left' (by simp [length_put32])]
  rw [e]
  have h1 := u8_toNat (r / 16777216)
  have h2 := u8_toNat (r / 65536)
  have h3 := u8_toNat (r / 256)
  have h4 := u8_toNat r
  simp only [num, put32, List.foldl_cons, List.foldl_nil]
  omega
theorem icmpP_B (t c r : Int) (l : List UInt8) (ht : 0 ≤ t ∧ t ≤ 255) (hc : 0 ≤ c ∧ c ≤ 255) (hr : 0 ≤ r ∧ r ≤ 4294967295) (hl : l.length ≤ 1000) : icmpP (icmpB t c r l) = ((t, c, r, l), (0 : Int)) := by
  have hlen := icmpB_len t c r l
  have h1 : onesF (icmpB t c r l) = 65535 := by
    have := fills_law [u8 t, u8 c] (put32 [r] ++ l) (by simp)
    have e : [u8 t, u8 c] ++ ([0, 0] ++ (put32 [r] ++ l)) = [u8 t, u8 c, u8 0, u8 0] ++ put32 [r] ++ l := by simp; rfl
    rw [e] at this
    rw [icmpB_eq]
    exact this
  rw [icmpP, if_neg (by omega), if_neg (by simp [h1])]
  have e : icmpB t c r l = [u8 t, u8 c, u8 ((65535 - onesF ([u8 t, u8 c, u8 0, u8 0] ++ put32 [r] ++ l)) / 256), u8 (65535 - onesF ([u8 t, u8 c, u8 0, u8 0] ++ put32 [r] ++ l))] ++ (put32 [r] ++ l) := icmpB_eq t c r l
  rw [e]
  have g := get32_put [u8 t, u8 c, u8 ((65535 - onesF ([u8 t, u8 c, u8 0, u8 0] ++ put32 [r] ++ l)) / 256), u8 (65535 - onesF ([u8 t, u8 c, u8 0, u8 0] ++ put32 [r] ++ l))] l r hr
  have h2 := u8_toNat t
  have h3 := u8_toNat c
  simp only [List.length_cons, List.length_nil] at g
  have g' : get32 ([u8 t, u8 c, u8 ((65535 - onesF ([u8 t, u8 c, u8 0, u8 0] ++ put32 [r] ++ l)) / 256), u8 (65535 - onesF ([u8 t, u8 c, u8 0, u8 0] ++ put32 [r] ++ l))] ++ (put32 [r] ++ l)) 4 = r := g
  rw [g']
  simp only [List.cons_append, List.nil_append, List.getD_cons_zero, List.getD_cons_succ, List.drop_succ_cons, List.drop_zero, put32, h2, h3]
  rw [show t % 256 = t by omega, show c % 256 = c by omega]
end Go.Proofs.Ytafajmnlknmfiaa
