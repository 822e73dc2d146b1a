/- tcp.Parse, and the reference of tcp. -/
import Derived.Test.YthjojkkapboonaaTA
import Derived.Test.YthjojkkapboonaaCF
import Derived.Test.YthjojkkapboonaaCJ
namespace Go.Proofs.Ythjojkkapboonaa
set_option linter.unusedSimpArgs false
set_option linter.unusedVariables false
open Go.RowKit

def seg0 : SegN := ⟨0, 0, 0, 0, 0, 0, 0, 0, [], []⟩
def byteN (b : List UInt8) (i : Nat) : Int := ((b.getD i 0).toNat : Int)
theorem byteN_bd (b : List UInt8) (i : Nat) : 0 ≤ byteN b i ∧ byteN b i ≤ 255 := by
  have := (b.getD i 0).toNat_lt
  unfold byteN
  omega
theorem bits_15 {x : Int} (h : 0 ≤ x ∧ x ≤ 255) : bits .and .u8 x 15 = x % 16 :=
  bits_mask .u8 8 (by decide) (fun n g1 g2 => by rw [IntKind.wrap_u8]; omega) 4 (by decide) x h.1 (by omega)
/-- The segment that bytes are, or why they are none. -/
def tcpP (src dst : Int) (b : List UInt8) : SegN × Int :=
  if b.length < 20 then (seg0, 4) else if byteN b 12 / 16 * 4 < 20 ∨ 65535 < b.length then (seg0, 3) else if (b.length : Int) < byteN b 12 / 16 * 4 then (seg0, 4)
  else if ¬ onesF (psB src dst 6 b.length ++ b) = 65535 then (seg0, 5)
  else (⟨get16 b 0, get16 b 2, get32 b 4, get32 b 8, byteN b 12 % 16, byteN b 13, get16 b 14, get16 b 18, cutB b 20 (byteN b 12 / 16 * 4 - 20), b.drop (byteN b 12 / 16 * 4).toNat⟩, 0)
set_option maxRecDepth 100000 in
theorem tcpParse_a (src dst : Int) (b : List UInt8) (h1 : 0 ≤ src ∧ src ≤ 4294967295) (h2 : 0 ≤ dst ∧ dst ≤ 4294967295) (hl : b.length ≤ 1000000) :
    ASpec Try.prog 82 [u32A src, u32A dst, .bs b] (.tup [segA (tcpP src dst b).1, i64 (tcpP src dst b).2]) := by
  have hsm : small b := by simp only [small]; omega
  have b12 := byteN_bd b 12
  have e1 : IntKind.i64.wrap (byteN b 12 / 16) = byteN b 12 / 16 := i64_in (by omega) (by omega)
  have e2 : IntKind.i64.wrap (byteN b 12 / 16 * 4) = byteN b 12 / 16 * 4 := i64_in (by omega) (by omega)
  have g12 : ((b.getD 12 0).toNat : Int) = byteN b 12 := rfl
  have g13 : ((b.getD 13 0).toNat : Int) = byteN b 13 := rfl
  refine ASpec.of_body TT_ok Try.mixed _ [.cell 6 40, .tmp 7] ([], []) Try.func82 (by kernel_rfl) rfl rfl (by simp only [Try.ntmps82, List.length_cons, List.length_nil]; omega) rfl (by kernel_rfl) ?_
  simp only [argE_cons, argE_nil, ac_seq, ac_cond, ac_region, at_normal, ao_nil, ao_cons, as_alloc, as_move, as_assign, as_binOp, as_len, segL, segA, u8A, u16A, u32A, i64, fr_false, List.contains_nil, beq_self_eq_true, hk_some, hopG, hopF, rd, aopsD, heapF, constT, evT, lk, putT, lenF, binF, constA, cellA, List.length_nil, List.nil_append, Option.map_some, Nat.reduceAdd, Nat.reduceSub, Nat.reduceEqDiff, Nat.reduceLeDiff, true_and, eq_self, reduceCtorEq, Bool.false_eq_true, ↓reduceIte, Nat.zero_add, TT3, TT38, TT40]
  refine AIf.intro (fun c1 => ?_) (fun c1 => ?_)
  · simp only [c1, ac_ret, ac_seq, ac_region, at_normal, at_ret, ae_ret, ao_nil, ao_cons, as_store, as_assign, as_build, fr_false, fr_nil, fr_cons, List.contains_nil, beq_self_eq_true, Bool.and_self, hk_some, hopG, rd, aopsD, heapF, constT, evT, lk, putT, loadF, cellsF, ovw, fillF, buildF, partsF, okCell, resF, resL, constA, cellA, TK.isAgg, Value.oneCell', List.length_cons, List.length_nil, List.getElem?_cons_zero, List.drop_zero, List.take_succ_cons, List.take_nil, List.set_cons_zero, List.set_cons_succ, List.all_cons, List.all_nil, Option.map_some, Option.bind_some, Nat.reduceAdd, Nat.reduceSub, Nat.reduceEqDiff, Nat.reduceLeDiff, true_and, and_true, and_self, eq_self, Bool.false_eq_true, ↓reduceIte, Nat.zero_add, Nat.le_refl, TT40]
    rw [dT] at c1
    rw [show tcpP src dst b = (seg0, 4) from if_pos (by omega)]
    try rfl
  · simp only [c1, g12, e1, e2, ac_skip, ac_seq, ac_block, ac_region, at_normal, ao_nil, ao_cons, ao_guard_f, as_move, as_assign, as_binOp, as_convert, as_load, as_indexAddr, fr_false, List.contains_nil, beq_self_eq_true, Int.cast_ofNat_Int, Int.reducePow, hk_some, hopG, rd, aopsD, constT, evT, lk, putT, GV, gdst, binF, convF, loadF, constA, cellA, TK.isAgg, IntKind.bits, Option.map_some, Nat.reduceSub, Nat.reduceEqDiff, Nat.reduceLeDiff, true_and, and_self, eq_self, reduceCtorEq, Bool.false_eq_true, ↓reduceIte, Int.reduceToNat, Int.reduceLE, TT3, TT5, TT38]
    rw [dF] at c1
    refine ⟨by omega, ?_⟩
    have P : tcpP src dst b = if byteN b 12 / 16 * 4 < 20 ∨ 65535 < b.length then (seg0, 3) else if (b.length : Int) < byteN b 12 / 16 * 4 then (seg0, 4)
        else if ¬ onesF (psB src dst 6 b.length ++ b) = 65535 then (seg0, 5)
        else (⟨get16 b 0, get16 b 2, get32 b 4, get32 b 8, byteN b 12 % 16, byteN b 13, get16 b 14, get16 b 18, cutB b 20 (byteN b 12 / 16 * 4 - 20), b.drop (byteN b 12 / 16 * 4).toNat⟩, 0) := if_neg (by omega)
    rw [P]
    clear P
    have e3 := bits_15 b12
    have e4 : IntKind.i64.wrap (byteN b 12 / 16 * 4 - 20) = byteN b 12 / 16 * 4 - 20 := i64_in (by omega) (by omega)
    obtain ⟨n, hn⟩ : ∃ n : Nat, byteN b 12 / 16 * 4 = (n : Int) := ⟨(byteN b 12 / 16 * 4).toNat, by omega⟩
    rw [hn] at e2 e4 ⊢
    refine AIf.intro (fun c2 => ?_) (fun c2 => ?_)
    · simp only [c2, ac_ret, ac_seq, ac_cond, ac_region, at_normal, at_ret, ab_ret, ae_ret, ao_nil, ao_cons, ao_guard_f, sk_at, pk_at, if_t, as_pick, as_store, as_assign, as_build, fr_false, fr_nil, fr_cons, List.contains_nil, beq_self_eq_true, Bool.and_self, hk_some, hopG, rd, aopsD, heapF, constT, evT, lk, putT, GV, gdst, loadF, cellsF, ovw, fillF, buildF, partsF, okCell, resF, resL, constA, cellA, TK.isAgg, Value.oneCell', List.length_cons, List.length_nil, List.getElem?_cons_zero, List.drop_zero, List.take_succ_cons, List.take_nil, List.set_cons_zero, List.set_cons_succ, List.all_cons, List.all_nil, Option.map_some, Option.bind_some, Nat.reduceAdd, Nat.reduceSub, Nat.reduceEqDiff, Nat.reduceLeDiff, true_and, and_true, and_self, eq_self, Bool.false_eq_true, ↓reduceIte, Nat.zero_add, Nat.le_refl, TT40]
      rw [dT] at c2
      rw [if_pos (.inl c2)]
      try rfl
    · simp only [c2, ac_cond, at_normal, ao_nil, ao_cons, ao_guard_f, st_at, pk_at, if_f, as_pick, as_move, as_assign, as_binOp, as_len, beq_self_eq_true, hk_some, hopG, hopF, rd, constT, evT, lk, putT, GV, gdst, lenF, binF, constA, cellA, Option.map_some, Nat.reduceSub, Nat.reduceEqDiff, true_and, eq_self, reduceCtorEq, ↓reduceIte, TT3, TT38]
      rw [dF] at c2
      refine AIf.intro (fun c3 => ?_) (fun c3 => ?_)
      · simp only [c3, ac_ret, ac_seq, ac_region, at_normal, at_ret, ab_ret, ae_ret, ao_nil, ao_cons, as_store, as_assign, as_build, fr_false, fr_nil, fr_cons, List.contains_nil, beq_self_eq_true, Bool.and_self, hk_some, hopG, rd, aopsD, heapF, constT, evT, lk, putT, loadF, cellsF, ovw, fillF, buildF, partsF, okCell, resF, resL, constA, cellA, TK.isAgg, Value.oneCell', List.length_cons, List.length_nil, List.getElem?_cons_zero, List.drop_zero, List.take_succ_cons, List.take_nil, List.set_cons_zero, List.set_cons_succ, List.all_cons, List.all_nil, Option.map_some, Option.bind_some, Nat.reduceAdd, Nat.reduceSub, Nat.reduceEqDiff, Nat.reduceLeDiff, true_and, and_true, and_self, eq_self, Bool.false_eq_true, ↓reduceIte, Nat.zero_add, Nat.le_refl, TT40]
        rw [dT] at c3
        rw [if_pos (.inr (by omega))]
        try rfl
      · simp only [c3, ac_seq, ac_cond, ac_region, at_normal, ao_nil, ao_cons, as_move, as_assign, as_binOp, as_len, fr_false, List.contains_nil, beq_self_eq_true, hk_some, hopG, hopF, rd, aopsD, evT, lk, putT, lenF, binF, Option.map_some, Nat.reduceSub, Nat.reduceEqDiff, Nat.reduceLeDiff, true_and, eq_self, reduceCtorEq, Bool.false_eq_true, ↓reduceIte, TT3, TT38]
        rw [dF] at c3
        rw [if_neg (by omega)]
        refine AIf.intro (fun c4 => ?_) (fun c4 => ?_)
        · simp only [c4, ac_ret, ac_seq, ac_region, at_normal, at_ret, ab_ret, ae_ret, ao_nil, ao_cons, as_store, as_assign, as_build, fr_false, fr_nil, fr_cons, List.contains_nil, beq_self_eq_true, Bool.and_self, hk_some, hopG, rd, aopsD, heapF, constT, evT, lk, putT, loadF, cellsF, ovw, fillF, buildF, partsF, okCell, resF, resL, constA, cellA, TK.isAgg, Value.oneCell', List.length_cons, List.length_nil, List.getElem?_cons_zero, List.drop_zero, List.take_succ_cons, List.take_nil, List.set_cons_zero, List.set_cons_succ, List.all_cons, List.all_nil, Option.map_some, Option.bind_some, Nat.reduceAdd, Nat.reduceSub, Nat.reduceEqDiff, Nat.reduceLeDiff, true_and, and_true, and_self, eq_self, Bool.false_eq_true, ↓reduceIte, Nat.zero_add, Nat.le_refl, TT40]
          rw [dT] at c4
          rw [if_pos (by omega)]
          try rfl
        · simp only [c4, ac_seq, ac_region, ao_cons, as_call, as_move, as_len, fr_false, List.contains_nil, beq_self_eq_true, hk_some, hopG, hopF, rd, aopsD, frzW, frzR, constT, evT, lk, putT, lenF, argsF, constA, cellA, Option.map_some, Nat.reduceSub, Nat.reduceEqDiff, Nat.reduceLeDiff, Nat.succ_ne_zero, true_and, eq_self, reduceCtorEq, Bool.false_eq_true, ↓reduceIte, TT38]
          rw [dF] at c4
          rw [if_neg (by omega)]
          refine ACall.intro (head_a src dst 6 _ h1 h2 (by omega)) ?_
          simp only [ao_cons, as_call, as_move, as_buildSlice, beq_self_eq_true, hk_some, hopG, rd, frzW, frzR, evT, lk, putT, cellsF, ovw, fillF, makeSF, partsF, argsF, List.length_cons, List.length_nil, List.set_cons_zero, List.set_cons_succ, List.nil_append, List.cons_append, List.replicate_succ, List.replicate_zero, List.flatten_cons, List.flatten_nil, List.append_nil, Option.map_some, Nat.reduceAdd, Nat.reduceSub, Nat.reduceEqDiff, Nat.reduceLeDiff, true_and, and_self, eq_self, reduceCtorEq, ↓reduceIte, Nat.mul_one, Nat.zero_add, Nat.zero_lt_succ, Nat.le_refl, TT38, TT143]
          refine ACall.intro (right_a [psB src dst 6 b.length, b] (by simp [small, psB_len]; omega)) ?_
          simp only [ac_cond, at_normal, ao_nil, ao_cons, as_assign, as_unOp, boA, beq_self_eq_true, hk_some, hopG, rd, evT, lk, putT, unF, List.flatten_cons, List.flatten_nil, List.append_nil, Option.map_some, Nat.reduceSub, true_and, eq_self, ↓reduceIte]
          generalize onesF (psB src dst 6 b.length ++ b) = q at *
          cases hq : (q == 65535)
          · have hq' : ¬ q = 65535 := by simpa using hq
            rw [if_pos hq']
            simp only [ac_ret, ac_seq, ac_region, at_normal, at_ret, ab_ret, ae_ret, ao_nil, ao_cons, if_t, as_store, as_assign, as_build, fr_false, fr_nil, fr_cons, List.contains_nil, beq_self_eq_true, Bool.and_self, hk_some, hopG, rd, aopsD, heapF, constT, evT, lk, putT, loadF, cellsF, ovw, fillF, buildF, partsF, okCell, resF, resL, constA, cellA, TK.isAgg, Value.oneCell', List.length_cons, List.length_nil, List.getElem?_cons_zero, List.drop_zero, List.take_succ_cons, List.take_nil, List.set_cons_zero, List.set_cons_succ, List.all_cons, List.all_nil, Option.map_some, Option.bind_some, Nat.reduceAdd, Nat.reduceSub, Nat.reduceEqDiff, Nat.reduceLeDiff, true_and, and_true, and_self, eq_self, Bool.false_eq_true, Bool.not_false, ↓reduceIte, Nat.zero_add, Nat.le_refl, TT40]
            try rfl
          · have hq' : q = 65535 := by simpa using hq
            rw [if_neg (by simpa using hq')]
            simp only [g12, g13, e3, ac_skip, ac_seq, ac_region, at_normal, ab_normal, ao_nil, ao_cons, if_f, as_call, as_alloc, as_store, as_move, as_binOp, as_load, as_indexAddr, as_build, fr_false, List.contains_nil, Nat.reduceBEq, beq_self_eq_true, Bool.and_self, hk_some, hopG, rd, aopsD, heapF, frzW, frzR, tlN, constT, evT, lk, putT, binF, loadF, cellsF, ovw, fillF, buildF, partsF, argsF, okCell, constA, cellA, TK.isAgg, Value.oneCell', List.length_cons, List.length_nil, List.getElem?_cons_zero, List.getElem?_cons_succ, List.set_cons_zero, List.set_cons_succ, List.nil_append, List.cons_append, List.all_cons, List.all_nil, Option.map_some, Nat.reduceAdd, Nat.reduceSub, Nat.reduceEqDiff, Nat.reduceLeDiff, true_and, and_self, eq_self, reduceCtorEq, Bool.false_eq_true, Bool.not_true, ↓reduceIte, Int.reduceToNat, Int.reduceLE, Nat.zero_add, Nat.le_refl, TT5, TT38, TT40]
            refine ⟨by omega, by omega, ?_⟩
            refine ACall.intro (get16_a b 0 (by omega)) ?_
            simp only [ac_seq, ac_region, at_normal, ao_nil, ao_cons, as_call, as_store, as_move, as_fieldAddr, as_extract, u16A, boA, fr_false, List.contains_nil, beq_self_eq_true, Bool.and_self, hk_some, hopG, rd, aopsD, heapF, frzW, frzR, constT, evT, lk, putT, cellsF, ovw, argsF, okCell, constA, cellA, Value.oneCell', List.length_cons, List.length_nil, List.getElem?_cons_zero, List.getElem?_cons_succ, List.set_cons_zero, List.set_cons_succ, List.all_cons, List.all_nil, Option.map_some, Nat.reduceAdd, Nat.reduceSub, Nat.reduceEqDiff, Nat.reduceLeDiff, Nat.succ_ne_zero, ne_eq, not_false_eq_true, true_and, and_self, eq_self, reduceCtorEq, Bool.false_eq_true, ↓reduceIte, Nat.zero_add, Nat.add_zero, TT23, TT40]
            refine ACall.intro (get16_a b 2 (by omega)) ?_
            simp only [ac_seq, ac_region, at_normal, ao_nil, ao_cons, as_call, as_store, as_move, as_fieldAddr, as_extract, u16A, boA, fr_false, List.contains_nil, beq_self_eq_true, Bool.and_self, hk_some, hopG, rd, aopsD, heapF, frzW, frzR, constT, evT, lk, putT, cellsF, ovw, argsF, okCell, constA, cellA, Value.oneCell', List.length_cons, List.length_nil, List.getElem?_cons_zero, List.getElem?_cons_succ, List.set_cons_zero, List.set_cons_succ, List.all_cons, List.all_nil, Option.map_some, Nat.reduceAdd, Nat.reduceSub, Nat.reduceEqDiff, Nat.reduceLeDiff, Nat.succ_ne_zero, ne_eq, not_false_eq_true, true_and, and_self, eq_self, reduceCtorEq, Bool.false_eq_true, ↓reduceIte, Nat.zero_add, TT23, TT40]
            refine ACall.intro (get32_a b 4 (by omega)) ?_
            simp only [ac_seq, ac_region, at_normal, ao_nil, ao_cons, as_call, as_store, as_move, as_fieldAddr, as_extract, u32A, boA, fr_false, List.contains_nil, beq_self_eq_true, Bool.and_self, hk_some, hopG, rd, aopsD, heapF, frzW, frzR, constT, evT, lk, putT, cellsF, ovw, argsF, okCell, constA, cellA, Value.oneCell', List.length_cons, List.length_nil, List.getElem?_cons_zero, List.getElem?_cons_succ, List.set_cons_zero, List.set_cons_succ, List.all_cons, List.all_nil, Option.map_some, Nat.reduceAdd, Nat.reduceSub, Nat.reduceEqDiff, Nat.reduceLeDiff, Nat.succ_ne_zero, ne_eq, not_false_eq_true, true_and, and_self, eq_self, reduceCtorEq, Bool.false_eq_true, ↓reduceIte, Nat.zero_add, TT22, TT40]
            refine ACall.intro (get32_a b 8 (by omega)) ?_
            simp only [ac_seq, ac_region, at_normal, ao_nil, ao_cons, as_call, as_store, as_move, as_fieldAddr, as_extract, u32A, boA, fr_false, List.contains_nil, beq_self_eq_true, Bool.and_self, hk_some, hopG, rd, aopsD, heapF, frzW, frzR, constT, evT, lk, putT, cellsF, ovw, argsF, okCell, constA, cellA, Value.oneCell', List.length_cons, List.length_nil, List.getElem?_cons_zero, List.getElem?_cons_succ, List.set_cons_zero, List.set_cons_succ, List.all_cons, List.all_nil, Option.map_some, Nat.reduceAdd, Nat.reduceSub, Nat.reduceEqDiff, Nat.reduceLeDiff, Nat.succ_ne_zero, ne_eq, not_false_eq_true, true_and, and_self, eq_self, reduceCtorEq, Bool.false_eq_true, ↓reduceIte, Nat.zero_add, TT22, TT40]
            refine ACall.intro (get16_a b 14 (by omega)) ?_
            simp only [ac_seq, ac_region, at_normal, ao_nil, ao_cons, as_call, as_store, as_move, as_fieldAddr, as_extract, u16A, boA, fr_false, List.contains_nil, beq_self_eq_true, Bool.and_self, hk_some, hopG, rd, aopsD, heapF, frzW, frzR, constT, evT, lk, putT, cellsF, ovw, argsF, okCell, constA, cellA, Value.oneCell', List.length_cons, List.length_nil, List.getElem?_cons_zero, List.getElem?_cons_succ, List.set_cons_zero, List.set_cons_succ, List.all_cons, List.all_nil, Option.map_some, Nat.reduceAdd, Nat.reduceSub, Nat.reduceEqDiff, Nat.reduceLeDiff, Nat.succ_ne_zero, ne_eq, not_false_eq_true, true_and, and_self, eq_self, reduceCtorEq, Bool.false_eq_true, ↓reduceIte, Nat.zero_add, TT23, TT40]
            refine ACall.intro (get16_a b 18 (by omega)) ?_
            simp only [e4, ac_seq, ac_region, at_normal, ao_nil, ao_cons, as_call, as_store, as_move, as_binOp, as_fieldAddr, as_extract, u16A, boA, fr_false, List.contains_nil, beq_self_eq_true, Bool.and_self, hk_some, hopG, rd, aopsD, heapF, frzW, frzR, constT, evT, lk, putT, binF, cellsF, ovw, argsF, okCell, constA, cellA, Value.oneCell', List.length_cons, List.length_nil, List.getElem?_cons_zero, List.getElem?_cons_succ, List.set_cons_zero, List.set_cons_succ, List.all_cons, List.all_nil, Option.map_some, Nat.reduceAdd, Nat.reduceSub, Nat.reduceEqDiff, Nat.reduceLeDiff, Nat.succ_ne_zero, ne_eq, not_false_eq_true, true_and, and_self, eq_self, reduceCtorEq, Bool.false_eq_true, ↓reduceIte, Nat.zero_add, TT3, TT23, TT40]
            refine ACall.intro (cut_a b 20 _ (by omega) hsm) ?_
            simp only [i64_in (n := (b.length : Int) - (n : Int)) (by omega) (by omega), ac_seq, ac_region, at_normal, ao_nil, ao_cons, as_call, as_store, as_move, as_binOp, as_fieldAddr, as_extract, as_len, boA, fr_false, List.contains_nil, beq_self_eq_true, Bool.and_self, hk_some, hopG, hopF, rd, aopsD, heapF, frzW, frzR, evT, lk, putT, lenF, binF, cellsF, ovw, argsF, okCell, List.length_cons, List.length_nil, List.getElem?_cons_zero, List.getElem?_cons_succ, List.set_cons_zero, List.set_cons_succ, List.all_cons, List.all_nil, Option.map_some, Nat.reduceAdd, Nat.reduceSub, Nat.reduceEqDiff, Nat.reduceLeDiff, Nat.succ_ne_zero, ne_eq, not_false_eq_true, true_and, and_self, eq_self, reduceCtorEq, Bool.false_eq_true, ↓reduceIte, Nat.zero_add, TT3, TT38, TT40]
            refine ACall.intro (cut_a b n _ (by omega) hsm) ?_
            simp only [cutB_all b (n := n) (by omega), ac_ret, ac_seq, ac_region, at_normal, ae_ret, ao_nil, ao_cons, as_store, as_move, as_assign, as_load, as_fieldAddr, as_extract, boA, fr_false, fr_nil, fr_cons, List.contains_nil, beq_self_eq_true, Bool.and_self, hk_some, hopG, rd, aopsD, heapF, constT, evT, lk, putT, loadF, cellsF, ovw, okCell, resF, resL, constA, cellA, TK.isAgg, Value.oneCell', List.length_cons, List.length_nil, List.getElem?_cons_zero, List.getElem?_cons_succ, List.drop_zero, List.take_succ_cons, List.take_nil, List.set_cons_zero, List.set_cons_succ, List.all_cons, List.all_nil, Option.map_some, Option.bind_some, Nat.reduceAdd, Nat.reduceSub, Nat.reduceEqDiff, Nat.reduceLeDiff, Nat.succ_ne_zero, ne_eq, not_false_eq_true, true_and, and_true, and_self, eq_self, Bool.false_eq_true, ↓reduceIte, Nat.zero_add, Nat.le_refl, TT38, TT40]
            try rfl

/-! ### the reference -/
set_option maxRecDepth 100000 in
theorem refMay09_a (s : SegN) (hs : s.ok) (ho : s.opts.length ≤ 100000) (hd : s.data.length ≤ 1000000) : ASpec Try.prog 78 [segA s] (boA (segMay s)) := by
  have e1 : ((s.opts.length : Int)).tmod 4 = ((s.opts.length % 4 : Nat) : Int) := by rw [tmodN (by omega)]; omega
  have e2 : IntKind.i64.wrap (65515 - (s.opts.length : Int)) = 65515 - (s.opts.length : Int) := i64_in (by omega) (by omega)
  obtain ⟨k1, k2, k3, k4, k5, k6, k7, k8⟩ := hs
  refine ASpec.of_body TT_ok Try.mixed _ [.tmp 2] ([], []) Try.func78 (by kernel_rfl) rfl rfl (by simp only [Try.ntmps78, List.length_cons, List.length_nil]; omega) rfl (by kernel_rfl) ?_
  simp only [argE_cons, argE_nil, ac_seq, ac_region, at_normal, ao_nil, ao_cons, ao_guard_t, as_box, as_move, as_assign, as_binOp, as_load, as_fieldAddr, segL, segA, u8A, u16A, u32A, boA, fr_false, List.contains_nil, beq_self_eq_true, hk_some, hopG, rd, aopsD, heapF, constT, evT, lk, putT, GV, gdst, binF, loadF, cellsF, constA, cellA, TK.isAgg, List.length_nil, List.getElem?_cons_zero, List.getElem?_cons_succ, List.drop_zero, List.drop_succ_cons, List.nil_append, Option.map_some, Nat.reduceSub, Nat.reduceEqDiff, Nat.reduceLeDiff, Nat.succ_ne_zero, ne_eq, not_false_eq_true, true_and, eq_self, Bool.false_eq_true, ↓reduceIte, Nat.zero_add, TT5, TT40]
  refine AIf.intro (fun c1 => ?_) (fun c1 => ?_)
  · simp only [c1, ao_cons, ao_guard_t, st_at, pk_at, if_t, as_pick, as_move, as_binOp, as_load, as_fieldAddr, as_len, beq_self_eq_true, hk_some, hopG, hopF, rd, constT, evT, lk, putT, GV, gdst, lenF, binF, loadF, constA, cellA, TK.isAgg, List.getElem?_cons_zero, List.getElem?_cons_succ, List.drop_zero, List.drop_succ_cons, Option.map_some, Nat.reduceSub, Nat.reduceEqDiff, Nat.succ_ne_zero, ne_eq, not_false_eq_true, true_and, eq_self, Bool.false_eq_true, ↓reduceIte, Nat.zero_add, TT3, TT38, TT40]
    rw [dT] at c1
    refine AIf.intro (fun c2 => ?_) (fun c2 => ?_)
    · simp only [c2, e1, ao_cons, ao_guard_t, st_at, pk_at, if_t, as_pick, as_move, as_binOp, as_load, as_fieldAddr, as_len, beq_self_eq_true, Int.reduceEq, hk_some, hopG, hopF, rd, constT, evT, lk, putT, GV, gdst, lenF, binF, loadF, constA, cellA, TK.isAgg, List.getElem?_cons_zero, List.getElem?_cons_succ, List.drop_zero, List.drop_succ_cons, Option.map_some, Nat.reduceSub, Nat.reduceEqDiff, Nat.succ_ne_zero, ne_eq, not_false_eq_true, true_and, and_self, eq_self, Bool.false_eq_true, ↓reduceIte, Nat.zero_add, TT3, TT38, TT40]
      rw [dT] at c2
      refine AIf.intro (fun c3 => ?_) (fun c3 => ?_)
      · simp only [c3, e2, ac_ret, at_normal, ae_ret, ao_nil, ao_cons, ao_guard_t, st_at, pk_at, if_t, as_pick, as_assign, as_binOp, as_load, as_fieldAddr, as_len, beq_self_eq_true, hk_some, hopG, hopF, rd, constT, evT, lk, putT, GV, gdst, lenF, binF, loadF, resF, resL, constA, cellA, TK.isAgg, List.getElem?_cons_zero, List.getElem?_cons_succ, List.drop_zero, List.drop_succ_cons, Option.map_some, Option.bind_some, Nat.reduceSub, Nat.reduceEqDiff, Nat.succ_ne_zero, ne_eq, not_false_eq_true, true_and, and_true, eq_self, Bool.false_eq_true, ↓reduceIte, Nat.zero_add, TT3, TT38, TT40]
        rw [dT] at c3
        congr 3
        rw [Bool.eq_iff_iff]
        simp [segMay]
        omega
      · simp only [c3, ac_ret, at_normal, ae_ret, ao_nil, ao_cons, ao_guard_t, sk_at, pk_at, if_f, as_pick, as_assign, beq_self_eq_true, rd, constT, evT, lk, putT, GV, gdst, resF, resL, constA, cellA, Option.map_some, Option.bind_some, Nat.reduceSub, Nat.reduceEqDiff, true_and, and_true, eq_self, ↓reduceIte]
        rw [dF] at c3
        rw [show segMay s = false by simp [segMay]; omega]
    · simp only [c2, ac_ret, at_normal, ae_ret, ao_nil, ao_cons, ao_guard_t, sk_at, pk_at, if_f, as_pick, as_move, as_assign, beq_self_eq_true, rd, constT, evT, lk, putT, GV, gdst, resF, resL, constA, cellA, Option.map_some, Option.bind_some, Nat.reduceSub, Nat.reduceEqDiff, true_and, and_true, eq_self, ↓reduceIte]
      rw [dF] at c2
      rw [show segMay s = false by simp [segMay]; omega]
  · simp only [c1, ac_ret, at_normal, ae_ret, ao_nil, ao_cons, ao_guard_t, sk_at, pk_at, if_f, as_pick, as_move, as_assign, beq_self_eq_true, rd, constT, evT, lk, putT, GV, gdst, resF, resL, constA, cellA, Option.map_some, Option.bind_some, Nat.reduceSub, Nat.reduceEqDiff, true_and, and_true, eq_self, ↓reduceIte]
    rw [dF] at c1
    rw [show segMay s = false by simp [segMay]; omega]
set_option maxRecDepth 100000 in
theorem refBytes09_a (s : SegN) (x : Int) (hs : s.ok) (hm : segMay s = true) (hx : 0 ≤ x ∧ x ≤ 65535) : ASpec Try.prog 79 [segA s, i64 x] (.bs (segB s x)) := by
  obtain ⟨k1, k2, k3, k4, k5, k6, k7, k8⟩ := hs
  have hm' := hm
  simp only [segMay, Bool.and_eq_true, decide_eq_true_eq] at hm'
  obtain ⟨m1, m2, m3, m4⟩ := hm'
  refine ASpec.of_body TT_ok Try.mixed _ [.tmp 4] ([], []) Try.func79 (by kernel_rfl) rfl rfl (by simp only [Try.ntmps79, List.length_cons, List.length_nil]; omega) rfl (by kernel_rfl) ?_
  simp only [u8bd, u8w, u8m, tdivN (a := s.src) (b := 256) (by omega), tmodN (a := s.src) (b := 256) (by omega), u16_in (n := s.src / 256) (by omega) (by omega), tdivN (a := s.dst) (b := 256) (by omega), tmodN (a := s.dst) (b := 256) (by omega), u16_in (n := s.dst / 256) (by omega) (by omega), argE_cons, argE_nil, ac_seq, ac_region, at_normal, ao_nil, ao_cons, as_call, as_box, as_move, as_assign, as_binOp, as_convert, as_load, as_fieldAddr, as_buildSlice, segL, segA, u8A, u16A, u32A, i64, fr_false, List.contains_nil, Nat.reduceBEq, beq_self_eq_true, Int.reduceEq, hk_some, hopG, rd, aopsD, heapF, frzW, tlN, constT, evT, lk, putT, binF, convF, loadF, cellsF, ovw, fillF, bytesOf, makeSF, partsF, argsF, constA, cellA, TK.isAgg, Value.oneCell', List.length_cons, List.length_nil, List.getElem?_cons_zero, List.getElem?_cons_succ, List.drop_zero, List.drop_succ_cons, List.set_cons_zero, List.set_cons_succ, List.nil_append, List.cons_append, List.replicate_succ, List.replicate_zero, List.flatten_cons, List.flatten_nil, List.append_nil, Option.map_some, Nat.reduceAdd, Nat.reduceSub, Nat.reduceEqDiff, Nat.reduceLeDiff, Nat.succ_ne_zero, ne_eq, not_false_eq_true, true_and, and_self, eq_self, Bool.false_eq_true, ↓reduceIte, Nat.mul_one, Nat.zero_add, Nat.add_zero, Nat.le_refl, TT5, TT22, TT23, TT38, TT40]
  refine ACall.intro (refPut_a s.seq 4 k3 (by omega)) ?_
  simp only [lowB_four, ao_cons, as_call, as_load, as_fieldAddr, Nat.reduceBEq, hk_some, hopG, rd, frzW, constT, evT, lk, putT, loadF, argsF, constA, cellA, TK.isAgg, List.getElem?_cons_zero, List.getElem?_cons_succ, List.drop_zero, List.drop_succ_cons, Option.map_some, Nat.reduceSub, Nat.reduceEqDiff, Nat.succ_ne_zero, ne_eq, not_false_eq_true, true_and, eq_self, Bool.false_eq_true, ↓reduceIte, Nat.zero_add, TT22, TT40]
  refine ACall.intro (refPut_a s.ack 4 k4 (by omega)) ?_
  simp only [lowB_four, ao_cons, as_call, Nat.reduceBEq, rd, frzW, evT, lk, putT, argsF, Option.map_some, Nat.reduceSub, Nat.reduceEqDiff, eq_self, ↓reduceIte]
  refine ACall.intro (add_a (put32 [s.seq]) (put32 [s.ack]) (by simp [length_put32])) ?_
  have a1 : ((s.opts.length : Int)).tdiv 4 = ((s.opts.length / 4 : Nat) : Int) := by rw [tdivN (by omega)]; omega
  have a2 : IntKind.i64.wrap ((s.opts.length / 4 : Nat) : Int) = ((s.opts.length / 4 : Nat) : Int) := i64_in (by omega) (by omega)
  have a3 : IntKind.i64.wrap (5 + ((s.opts.length / 4 : Nat) : Int)) = ((5 + s.opts.length / 4 : Nat) : Int) := by rw [i64_in (by omega) (by omega)]; omega
  have a4 : IntKind.u8.wrap ((5 + s.opts.length / 4 : Nat) : Int) = ((5 + s.opts.length / 4 : Nat) : Int) := u8_in (by omega) (by omega)
  have a5 : IntKind.u8.wrap (((5 + s.opts.length / 4 : Nat) : Int) * 16) = ((5 + s.opts.length / 4 : Nat) : Int) * 16 := u8_in (by omega) (by omega)
  have a6 : IntKind.u8.wrap (((5 + s.opts.length / 4 : Nat) : Int) * 16 + s.res) = ((5 + s.opts.length / 4 : Nat) : Int) * 16 + s.res := u8_in (by omega) (by omega)
  simp only [ao_cons, as_call, Nat.reduceBEq, rd, frzW, evT, lk, putT, argsF, Option.map_some, Nat.reduceSub, Nat.reduceEqDiff, eq_self, ↓reduceIte]
  refine ACall.intro (add_a _ _ (by simp [length_put32])) ?_
  simp only [a1, a2, a3, a4, a5, a6, u8bd, u8w, u8m, tdivN (a := s.win) (b := 256) (by omega), tmodN (a := s.win) (b := 256) (by omega), u16_in (n := s.win / 256) (by omega) (by omega), tdivN (a := s.urg) (b := 256) (by omega), tmodN (a := s.urg) (b := 256) (by omega), u16_in (n := s.urg / 256) (by omega) (by omega), tdivN (a := x) (b := 256) (by omega), tmodN (a := x) (b := 256) (by omega), i64_in (n := x / 256) (by omega) (by omega), ac_seq, ac_region, at_normal, ao_nil, ao_cons, as_call, as_move, as_assign, as_binOp, as_convert, as_load, as_fieldAddr, as_buildSlice, as_len, fr_false, List.contains_nil, Nat.reduceBEq, beq_self_eq_true, Int.reduceEq, hk_some, hopG, hopF, rd, aopsD, frzW, frzR, constT, evT, lk, putT, lenF, binF, convF, loadF, cellsF, ovw, fillF, bytesOf, makeSF, partsF, argsF, constA, cellA, TK.isAgg, Value.oneCell', List.length_cons, List.length_nil, List.getElem?_cons_zero, List.getElem?_cons_succ, List.drop_zero, List.drop_succ_cons, List.set_cons_zero, List.set_cons_succ, List.nil_append, List.cons_append, List.replicate_succ, List.replicate_zero, List.flatten_cons, List.flatten_nil, List.append_nil, Option.map_some, Nat.reduceAdd, Nat.reduceSub, Nat.reduceEqDiff, Nat.reduceLeDiff, Nat.succ_ne_zero, ne_eq, not_false_eq_true, true_and, and_true, and_self, eq_self, reduceCtorEq, Bool.false_eq_true, ↓reduceIte, Nat.mul_one, Nat.zero_add, Nat.le_refl, TT3, TT5, TT23, TT38, TT40]
  refine ⟨⟨by omega, by omega⟩, ?_⟩
  refine ACall.intro (add_a _ _ (by simp [length_put32])) ?_
  simp only [ac_seq, ac_region, at_normal, ao_nil, ao_cons, as_call, as_move, as_assign, as_load, as_fieldAddr, fr_false, List.contains_nil, beq_self_eq_true, hk_some, hopG, rd, aopsD, frzW, frzR, evT, lk, putT, loadF, argsF, TK.isAgg, List.getElem?_cons_zero, List.getElem?_cons_succ, List.drop_zero, List.drop_succ_cons, List.cons_append, Option.map_some, Nat.reduceSub, Nat.reduceEqDiff, Nat.reduceLeDiff, Nat.succ_ne_zero, ne_eq, not_false_eq_true, true_and, eq_self, Bool.false_eq_true, ↓reduceIte, Nat.zero_add, TT38, TT40]
  refine ACall.intro (add_a s.opts s.data (by omega)) ?_
  simp only [ao_cons, as_call, beq_self_eq_true, rd, frzW, frzR, evT, lk, putT, argsF, Option.map_some, Nat.reduceSub, Nat.reduceEqDiff, eq_self, ↓reduceIte]
  refine ACall.intro (add_a _ _ (by simp [length_put32]; omega)) ?_
  simp only [ac_ret, at_normal, ae_ret, ao_nil, ao_cons, as_assign, beq_self_eq_true, rd, evT, lk, putT, resF, resL, List.cons_append, Option.map_some, Option.bind_some, Nat.reduceSub, true_and, and_true, eq_self, ↓reduceIte]
  simp [segB, put16, put32]
set_option maxRecDepth 100000 in
theorem refPut09_a (src dst : Int) (s : SegN) (hs : s.ok) (hm : segMay s = true) (h1 : 0 ≤ src ∧ src ≤ 4294967295) (h2 : 0 ≤ dst ∧ dst ≤ 4294967295) :
    ASpec Try.prog 49 [u32A src, u32A dst, segA s] (.tup [.bs (tcpB src dst s), i64 0]) := by
  have hm' := hm
  simp only [segMay, Bool.and_eq_true, decide_eq_true_eq] at hm'
  obtain ⟨m1, m2, m3, m4⟩ := hm'
  have eL : ((segB s 0).length : Int) = (20 + s.opts.length + s.data.length : Nat) := by rw [segB_len]
  refine ASpec.of_body TT_ok Try.mixed _ [.tmp 6, .tmp 7] ([], []) Try.func49 (by kernel_rfl) rfl rfl (by simp only [Try.ntmps49, List.length_cons, List.length_nil]; omega) rfl (by kernel_rfl) ?_
  simp only [argE_cons, argE_nil, ac_seq, ac_region, at_normal, ao_nil, ao_cons, as_call, as_box, as_assign, as_load, segL, segA, u8A, u16A, u32A, i64, fr_false, List.contains_nil, beq_self_eq_true, hk_some, hopG, rd, aopsD, heapF, frzW, frzR, constT, evT, lk, putT, loadF, cellsF, argsF, constA, cellA, TK.isAgg, List.length_cons, List.length_nil, List.getElem?_cons_zero, List.drop_zero, List.take_succ_cons, List.take_nil, List.nil_append, Option.map_some, Nat.reduceAdd, Nat.reduceSub, Nat.reduceEqDiff, Nat.reduceLeDiff, true_and, eq_self, reduceCtorEq, Bool.false_eq_true, ↓reduceIte, Nat.zero_add, Nat.le_refl, TT40]
  refine ACall.intro (refMay09_a s hs (by omega) (by omega)) ?_
  simp only [hm, ac_skip, ac_seq, ac_cond, ac_region, at_normal, ao_nil, ao_cons, if_f, as_call, as_unOp, as_load, boA, fr_false, List.contains_nil, beq_self_eq_true, hk_some, hopG, rd, aopsD, frzW, frzR, constT, evT, lk, putT, unF, loadF, argsF, constA, cellA, TK.isAgg, List.length_cons, List.length_nil, List.getElem?_cons_zero, List.drop_zero, List.take_succ_cons, List.take_nil, Option.map_some, Nat.reduceAdd, Nat.reduceSub, Nat.reduceEqDiff, Nat.reduceLeDiff, true_and, eq_self, Bool.false_eq_true, Bool.not_true, ↓reduceIte, Nat.zero_add, Nat.le_refl, TT40]
  refine ACall.intro (refBytes09_a s 0 hs hm (by omega)) ?_
  simp only [eL, ac_seq, ac_region, at_normal, ao_nil, ao_cons, as_call, as_move, as_assign, as_load, as_len, fr_false, List.contains_nil, Nat.reduceBEq, beq_self_eq_true, hk_some, hopG, hopF, rd, aopsD, frzW, tlN, constT, evT, lk, putT, lenF, loadF, argsF, constA, cellA, TK.isAgg, List.length_cons, List.length_nil, List.getElem?_cons_zero, List.drop_zero, List.take_succ_cons, List.take_nil, Option.map_some, Nat.reduceAdd, Nat.reduceSub, Nat.reduceEqDiff, Nat.reduceLeDiff, Nat.succ_ne_zero, true_and, eq_self, reduceCtorEq, ↓reduceIte, Nat.zero_add, Nat.le_refl, TT38, TT40]
  refine ACall.intro (refHead08_a src dst 6 _ h1 h2 (by omega) (by omega)) ?_
  simp only [ao_cons, as_call, as_move, Nat.reduceBEq, rd, frzW, evT, lk, putT, argsF, Option.map_some, Nat.reduceSub, Nat.reduceEqDiff, eq_self, ↓reduceIte]
  refine ACall.intro (add_a _ _ (by simp [psB_len, segB_len]; omega)) ?_
  simp only [ao_cons, as_call, Nat.reduceBEq, rd, frzW, evT, lk, putT, argsF, Option.map_some, Nat.reduceSub, eq_self, ↓reduceIte]
  refine ACall.intro (refOf_a _ (by simp [small, psB_len, segB_len]; omega)) ?_
  simp only [ao_cons, as_call, i64, Nat.reduceBEq, rd, frzW, evT, lk, putT, argsF, Option.map_some, Nat.reduceSub, Nat.reduceEqDiff, eq_self, ↓reduceIte]
  have hb := onesF_bd (psB src dst 6 (20 + s.opts.length + s.data.length : Nat) ++ segB s 0)
  refine ACall.intro (refBytes09_a s _ hs hm (by omega)) ?_
  simp only [ac_ret, at_normal, ae_ret, ao_nil, ao_cons, as_assign, Nat.reduceBEq, rd, constT, evT, lk, putT, resF, resL, constA, cellA, Option.map_some, Option.bind_some, Nat.reduceSub, Nat.reduceEqDiff, true_and, and_true, eq_self, ↓reduceIte]
  rfl
set_option maxRecDepth 100000 in
theorem refPut09_no (src dst : Int) (s : SegN) (hs : s.ok) (hm : segMay s = false) (ho : s.opts.length ≤ 100000) (hd : s.data.length ≤ 1000000) :
    ASpec Try.prog 49 [u32A src, u32A dst, segA s] (.tup [.bs [], i64 2]) := by
  refine ASpec.of_body TT_ok Try.mixed _ [.tmp 6, .tmp 7] ([], []) Try.func49 (by kernel_rfl) rfl rfl (by simp only [Try.ntmps49, List.length_cons, List.length_nil]; omega) rfl (by kernel_rfl) ?_
  simp only [argE_cons, argE_nil, ac_seq, ac_region, at_normal, ao_nil, ao_cons, as_call, as_box, as_assign, as_load, segL, segA, u8A, u16A, u32A, i64, fr_false, List.contains_nil, beq_self_eq_true, hk_some, hopG, rd, aopsD, heapF, frzW, frzR, constT, evT, lk, putT, loadF, cellsF, argsF, constA, cellA, TK.isAgg, List.length_cons, List.length_nil, List.getElem?_cons_zero, List.drop_zero, List.take_succ_cons, List.take_nil, List.nil_append, Option.map_some, Nat.reduceAdd, Nat.reduceSub, Nat.reduceEqDiff, Nat.reduceLeDiff, true_and, eq_self, reduceCtorEq, Bool.false_eq_true, ↓reduceIte, Nat.zero_add, Nat.le_refl, TT40]
  refine ACall.intro (refMay09_a s hs ho hd) ?_
  simp only [hm, ac_ret, ac_seq, ac_cond, ac_region, at_normal, at_ret, ae_ret, ao_nil, ao_cons, if_t, as_assign, as_unOp, boA, fr_false, List.contains_nil, beq_self_eq_true, hk_some, hopG, rd, aopsD, constT, evT, lk, putT, unF, resF, resL, constA, cellA, Option.map_some, Option.bind_some, Nat.reduceSub, Nat.reduceEqDiff, Nat.reduceLeDiff, and_true, and_self, eq_self, Bool.false_eq_true, Bool.not_false, ↓reduceIte]
  try rfl
set_option maxRecDepth 100000 in
theorem refSame09_a (s t : SegN) : ASpec Try.prog 17 [segA s, segA t] (boA (decide (s.src = t.src) && (decide (s.dst = t.dst) && (decide (s.seq = t.seq) && (decide (s.ack = t.ack) && (decide (s.res = t.res) && (decide (s.flags = t.flags) && (decide (s.win = t.win) && (decide (s.urg = t.urg) && ((s.opts == t.opts) && (s.data == t.data))))))))))) := by
  refine ASpec.of_body TT_ok Try.mixed _ [.tmp 4] ([], []) Try.func17 (by kernel_rfl) rfl rfl (by simp only [Try.ntmps17, List.length_cons, List.length_nil]; omega) rfl (by kernel_rfl) ?_
  simp only [argE_cons, argE_nil, ac_seq, ac_region, at_normal, ao_nil, ao_cons, ao_guard_t, as_box, as_move, as_assign, as_binOp, as_load, as_fieldAddr, segL, segA, u8A, u16A, u32A, boA, fr_false, List.contains_nil, beq_self_eq_true, hk_some, hopG, rd, aopsD, heapF, constT, evT, lk, putT, GV, gdst, binF, loadF, cellsF, constA, cellA, TK.isAgg, List.length_cons, List.length_nil, List.getElem?_cons_zero, List.getElem?_cons_succ, List.drop_zero, List.nil_append, List.cons_append, Option.map_some, Nat.reduceAdd, Nat.reduceSub, Nat.reduceEqDiff, Nat.reduceLeDiff, Nat.succ_ne_zero, ne_eq, not_false_eq_true, true_and, eq_self, reduceCtorEq, Bool.false_eq_true, ↓reduceIte, Nat.zero_add, Nat.add_zero, TT23, TT40]
  cases c1 : decide (s.src = t.src) <;> simp only [ac_ret, ac_seq, ac_region, at_normal, ae_ret, ao_nil, ao_cons, ao_guard_t, st_at, sk_at, pk_at, if_t, if_f, as_pick, as_move, as_assign, as_binOp, as_load, as_fieldAddr, fr_false, List.contains_nil, beq_self_eq_true, Bool.true_and, Bool.false_and, hk_some, hopG, rd, aopsD, constT, evT, lk, putT, GV, gdst, binF, loadF, resF, resL, constA, cellA, TK.isAgg, List.getElem?_cons_zero, List.getElem?_cons_succ, List.drop_zero, List.drop_succ_cons, Option.map_some, Option.bind_some, Nat.reduceSub, Nat.reduceEqDiff, Nat.reduceLeDiff, Nat.succ_ne_zero, ne_eq, not_false_eq_true, true_and, and_true, and_self, eq_self, Bool.false_eq_true, ↓reduceIte, Nat.zero_add, TT23, TT40] <;> try rfl
  cases c2 : decide (s.dst = t.dst) <;> simp only [ac_ret, ac_seq, ac_region, at_normal, ae_ret, ao_nil, ao_cons, ao_guard_t, st_at, sk_at, pk_at, if_t, if_f, as_pick, as_move, as_assign, as_binOp, as_load, as_fieldAddr, fr_false, List.contains_nil, beq_self_eq_true, Bool.true_and, Bool.false_and, hk_some, hopG, rd, aopsD, constT, evT, lk, putT, GV, gdst, binF, loadF, resF, resL, constA, cellA, TK.isAgg, List.getElem?_cons_zero, List.getElem?_cons_succ, List.drop_zero, List.drop_succ_cons, Option.map_some, Option.bind_some, Nat.reduceSub, Nat.reduceEqDiff, Nat.reduceLeDiff, Nat.succ_ne_zero, ne_eq, not_false_eq_true, true_and, and_true, and_self, eq_self, Bool.false_eq_true, ↓reduceIte, Nat.zero_add, TT22, TT40] <;> try rfl
  cases c3 : decide (s.seq = t.seq) <;> simp only [ac_ret, ac_seq, ac_region, at_normal, ae_ret, ao_nil, ao_cons, ao_guard_t, st_at, sk_at, pk_at, if_t, if_f, as_pick, as_move, as_assign, as_binOp, as_load, as_fieldAddr, fr_false, List.contains_nil, beq_self_eq_true, Bool.true_and, Bool.false_and, hk_some, hopG, rd, aopsD, constT, evT, lk, putT, GV, gdst, binF, loadF, resF, resL, constA, cellA, TK.isAgg, List.getElem?_cons_zero, List.getElem?_cons_succ, List.drop_zero, List.drop_succ_cons, Option.map_some, Option.bind_some, Nat.reduceSub, Nat.reduceEqDiff, Nat.reduceLeDiff, Nat.succ_ne_zero, ne_eq, not_false_eq_true, true_and, and_true, and_self, eq_self, Bool.false_eq_true, ↓reduceIte, Nat.zero_add, TT22, TT40] <;> try rfl
  cases c4 : decide (s.ack = t.ack) <;> simp only [ac_ret, ac_seq, ac_region, at_normal, ae_ret, ao_nil, ao_cons, ao_guard_t, st_at, sk_at, pk_at, if_t, if_f, as_pick, as_move, as_assign, as_binOp, as_load, as_fieldAddr, fr_false, List.contains_nil, beq_self_eq_true, Bool.true_and, Bool.false_and, hk_some, hopG, rd, aopsD, constT, evT, lk, putT, GV, gdst, binF, loadF, resF, resL, constA, cellA, TK.isAgg, List.getElem?_cons_zero, List.getElem?_cons_succ, List.drop_zero, List.drop_succ_cons, Option.map_some, Option.bind_some, Nat.reduceSub, Nat.reduceEqDiff, Nat.reduceLeDiff, Nat.succ_ne_zero, ne_eq, not_false_eq_true, true_and, and_true, and_self, eq_self, Bool.false_eq_true, ↓reduceIte, Nat.zero_add, TT5, TT40] <;> try rfl
  cases c5 : decide (s.res = t.res) <;> simp only [ac_ret, ac_seq, ac_region, at_normal, ae_ret, ao_nil, ao_cons, ao_guard_t, st_at, sk_at, pk_at, if_t, if_f, as_pick, as_move, as_assign, as_binOp, as_load, as_fieldAddr, fr_false, List.contains_nil, beq_self_eq_true, Bool.true_and, Bool.false_and, hk_some, hopG, rd, aopsD, constT, evT, lk, putT, GV, gdst, binF, loadF, resF, resL, constA, cellA, TK.isAgg, List.getElem?_cons_zero, List.getElem?_cons_succ, List.drop_zero, List.drop_succ_cons, Option.map_some, Option.bind_some, Nat.reduceSub, Nat.reduceEqDiff, Nat.reduceLeDiff, Nat.succ_ne_zero, ne_eq, not_false_eq_true, true_and, and_true, and_self, eq_self, Bool.false_eq_true, ↓reduceIte, Nat.zero_add, TT5, TT40] <;> try rfl
  cases c6 : decide (s.flags = t.flags) <;> simp only [ac_ret, ac_seq, ac_region, at_normal, ae_ret, ao_nil, ao_cons, ao_guard_t, st_at, sk_at, pk_at, if_t, if_f, as_pick, as_move, as_assign, as_binOp, as_load, as_fieldAddr, fr_false, List.contains_nil, beq_self_eq_true, Bool.true_and, Bool.false_and, hk_some, hopG, rd, aopsD, constT, evT, lk, putT, GV, gdst, binF, loadF, resF, resL, constA, cellA, TK.isAgg, List.getElem?_cons_zero, List.getElem?_cons_succ, List.drop_zero, List.drop_succ_cons, Option.map_some, Option.bind_some, Nat.reduceSub, Nat.reduceEqDiff, Nat.reduceLeDiff, Nat.succ_ne_zero, ne_eq, not_false_eq_true, true_and, and_true, and_self, eq_self, Bool.false_eq_true, ↓reduceIte, Nat.zero_add, TT23, TT40] <;> try rfl
  cases c7 : decide (s.win = t.win) <;> simp only [ac_ret, ac_seq, ac_region, at_normal, ae_ret, ao_nil, ao_cons, ao_guard_t, st_at, sk_at, pk_at, if_t, if_f, as_pick, as_move, as_assign, as_binOp, as_load, as_fieldAddr, fr_false, List.contains_nil, beq_self_eq_true, Bool.true_and, Bool.false_and, hk_some, hopG, rd, aopsD, constT, evT, lk, putT, GV, gdst, binF, loadF, resF, resL, constA, cellA, TK.isAgg, List.getElem?_cons_zero, List.getElem?_cons_succ, List.drop_zero, List.drop_succ_cons, Option.map_some, Option.bind_some, Nat.reduceSub, Nat.reduceEqDiff, Nat.reduceLeDiff, Nat.succ_ne_zero, ne_eq, not_false_eq_true, true_and, and_true, and_self, eq_self, Bool.false_eq_true, ↓reduceIte, Nat.zero_add, TT23, TT40] <;> try rfl
  cases c8 : decide (s.urg = t.urg) <;> simp only [ac_ret, at_normal, ae_ret, ao_nil, ao_cons, ao_guard_t, st_at, sk_at, pk_at, if_t, if_f, as_pick, as_call, as_move, as_assign, as_load, as_fieldAddr, beq_self_eq_true, Bool.true_and, Bool.false_and, hk_some, hopG, rd, frzW, frzR, constT, evT, lk, putT, GV, gdst, loadF, argsF, resF, resL, constA, cellA, TK.isAgg, List.getElem?_cons_zero, List.getElem?_cons_succ, List.drop_zero, List.drop_succ_cons, Option.map_some, Option.bind_some, Nat.reduceSub, Nat.reduceEqDiff, Nat.succ_ne_zero, ne_eq, not_false_eq_true, true_and, and_true, and_self, eq_self, Bool.false_eq_true, ↓reduceIte, Nat.zero_add, TT38, TT40] <;> try rfl
  refine ACall.intro (refSame_a _ _) ?_
  cases c9 : (s.opts == t.opts) <;> simp only [ac_ret, at_normal, ae_ret, ao_nil, ao_cons, ao_guard_t, st_at, sk_at, pk_at, if_t, if_f, as_pick, as_call, as_move, as_assign, as_load, as_fieldAddr, boA, beq_self_eq_true, Bool.true_and, Bool.false_and, hk_some, hopG, rd, frzW, frzR, constT, evT, lk, putT, GV, gdst, loadF, argsF, resF, resL, constA, cellA, TK.isAgg, List.getElem?_cons_zero, List.getElem?_cons_succ, List.drop_zero, List.drop_succ_cons, Option.map_some, Option.bind_some, Nat.reduceSub, Nat.reduceEqDiff, Nat.succ_ne_zero, ne_eq, not_false_eq_true, true_and, and_true, and_self, eq_self, Bool.false_eq_true, ↓reduceIte, Nat.zero_add, TT38, TT40] <;> try rfl
  refine ACall.intro (refSame_a _ _) ?_
  simp only [ac_ret, at_normal, ae_ret, ao_nil, ao_cons, pk_at, if_t, as_pick, as_assign, boA, beq_self_eq_true, rd, evT, lk, putT, resF, resL, Option.map_some, Option.bind_some, Nat.reduceSub, Nat.reduceEqDiff, and_true, and_self, eq_self, ↓reduceIte]
theorem refSame09_self (s : SegN) : ASpec Try.prog 17 [segA s, segA s] (boA true) := by
  have := refSame09_a s s
  simpa using this
set_option maxRecDepth 100000 in
theorem refFew09_a (s : SegN) : ASpec Try.prog 13 [segA s] (segA { s with opts := s.opts.take 50, data := s.data.take 200 }) := by
  refine ASpec.of_body TT_ok Try.mixed _ [.cell 2 40] ([], []) Try.func13 (by kernel_rfl) rfl rfl (by simp only [Try.ntmps13, List.length_cons, List.length_nil]; omega) rfl (by kernel_rfl) ?_
  simp only [argE_cons, argE_nil, ac_seq, ac_region, at_normal, ao_nil, ao_cons, as_call, as_box, as_alloc, as_load, as_fieldAddr, segL, segA, u8A, u16A, u32A, fr_false, List.contains_nil, beq_self_eq_true, hk_some, hopG, rd, aopsD, heapF, frzW, frzR, constT, evT, lk, putT, loadF, cellsF, argsF, constA, cellA, TK.isAgg, List.length_cons, List.length_nil, List.getElem?_cons_zero, List.getElem?_cons_succ, List.drop_zero, List.drop_succ_cons, List.nil_append, List.cons_append, Option.map_some, Nat.reduceSub, Nat.reduceEqDiff, Nat.reduceLeDiff, Nat.succ_ne_zero, ne_eq, not_false_eq_true, true_and, eq_self, Bool.false_eq_true, ↓reduceIte, Nat.zero_add, TT38, TT40]
  refine ACall.intro (few_a s.opts 50) ?_
  simp only [ac_seq, ac_region, at_normal, ao_nil, ao_cons, as_call, as_store, as_load, as_fieldAddr, fr_false, List.contains_nil, beq_self_eq_true, Bool.and_self, hk_some, hopG, rd, aopsD, heapF, frzW, frzR, constT, evT, lk, putT, loadF, cellsF, ovw, argsF, okCell, constA, cellA, TK.isAgg, List.length_cons, List.length_nil, List.getElem?_cons_zero, List.getElem?_cons_succ, List.drop_zero, List.drop_succ_cons, List.set_cons_zero, List.set_cons_succ, List.all_cons, List.all_nil, Option.map_some, Nat.reduceAdd, Nat.reduceSub, Nat.reduceEqDiff, Nat.reduceLeDiff, Nat.succ_ne_zero, ne_eq, not_false_eq_true, true_and, and_self, eq_self, Bool.false_eq_true, ↓reduceIte, Nat.zero_add, TT38, TT40]
  refine ACall.intro (few_a s.data 200) ?_
  simp only [ac_ret, ac_seq, ac_region, at_normal, ae_ret, ao_nil, ao_cons, as_store, as_load, as_fieldAddr, fr_false, fr_nil, fr_cons, List.contains_nil, beq_self_eq_true, Bool.and_self, hk_some, hopG, rd, aopsD, heapF, evT, lk, putT, loadF, cellsF, ovw, okCell, resF, resL, TK.isAgg, Value.oneCell', List.length_cons, List.length_nil, List.getElem?_cons_zero, List.getElem?_cons_succ, List.drop_zero, List.take_succ_cons, List.take_nil, List.set_cons_zero, List.set_cons_succ, List.all_cons, List.all_nil, Option.map_some, Option.bind_some, Nat.reduceAdd, Nat.reduceSub, Nat.reduceEqDiff, Nat.reduceLeDiff, Nat.succ_ne_zero, ne_eq, not_false_eq_true, and_true, and_self, eq_self, Bool.false_eq_true, ↓reduceIte, Nat.zero_add, Nat.le_refl, TT38, TT40]
set_option maxRecDepth 100000 in
theorem refBit09_a (f k : Int) (hf : 0 ≤ f ∧ f ≤ 255) (hk : 1 ≤ k ∧ k ≤ 128) : ASpec Try.prog 54 [u8A f, i64 k] (boA (decide (f / k % 2 = 1))) := by
  have h0 : 0 ≤ f / k := Int.ediv_nonneg hf.1 (by omega)
  have h1 : f / k ≤ f := Int.ediv_le_self _ hf.1
  refine ASpec.of_body TT_ok Try.mixed _ [.tmp 4] ([], []) Try.func54 (by kernel_rfl) rfl rfl (by simp only [Try.ntmps54, List.length_cons, List.length_nil]; omega) rfl (by kernel_rfl) ?_
  simp only [i64_in (n := f) (by omega) (by omega), tdivN (a := f) (b := k) (by omega), i64_in (n := f / k) (by omega) (by omega), tmodN (a := f / k) (b := 2) h0, argE_cons, argE_nil, ac_ret, ac_seq, ac_region, at_normal, ae_ret, ao_nil, ao_cons, as_move, as_assign, as_binOp, as_convert, u8A, i64, boA, fr_false, List.contains_nil, beq_self_eq_true, Int.reduceEq, hk_some, hopG, rd, aopsD, constT, evT, lk, putT, binF, convF, resF, resL, constA, cellA, Option.map_some, Option.bind_some, Nat.reduceAdd, Nat.reduceSub, Nat.reduceEqDiff, Nat.reduceLeDiff, Nat.succ_ne_zero, ne_eq, not_false_eq_true, true_and, and_true, and_self, eq_self, reduceCtorEq, Bool.false_eq_true, ↓reduceIte, Nat.zero_add, TT3, TT5]
  omega
theorem hasN1 : ∀ n : _root_.Fin 256, hasN ((n.val : Nat) : Int) 1 = decide (((n.val : Nat) : Int) / 1 % 2 = 1) := by decide +kernel
theorem hasN2 : ∀ n : _root_.Fin 256, hasN ((n.val : Nat) : Int) 2 = decide (((n.val : Nat) : Int) / 2 % 2 = 1) := by decide +kernel
theorem hasN16 : ∀ n : _root_.Fin 256, hasN ((n.val : Nat) : Int) 16 = decide (((n.val : Nat) : Int) / 16 % 2 = 1) := by decide +kernel
theorem hasN_bit (s f : Int) (hs : 0 ≤ s ∧ s ≤ 255) (hf : f = 1 ∨ f = 2 ∨ f = 16) : hasN s f = decide (s / f % 2 = 1) := by
  obtain ⟨n, rfl⟩ := Int.eq_ofNat_of_zero_le hs.1
  rcases hf with rfl | rfl | rfl
  · exact hasN1 ⟨n, by omega⟩
  · exact hasN2 ⟨n, by omega⟩
  · exact hasN16 ⟨n, by omega⟩




























end Go.Proofs.Ythjojkkapboonaa
