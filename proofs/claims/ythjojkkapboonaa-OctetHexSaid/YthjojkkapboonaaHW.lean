/- Which text any bytes are, and which bytes any text is; and that it is the same there and back. -/
import Derived.Test.YthjojkkapboonaaHZ
namespace Go.Proofs.Ythjojkkapboonaa
set_option linter.unusedSimpArgs false
set_option linter.unusedVariables false
open Go.RowKit

theorem unhexP_e (l : List UInt8) : IntKind.i64.wrap (unhexP l).2 = (unhexP l).2 := by
  unfold unhexP
  split
  · show IntKind.i64.wrap 3 = 3
    decide
  · split
    · show IntKind.i64.wrap 0 = 0
      decide
    · show IntKind.i64.wrap 3 = 3
      decide
theorem val_fig : ∀ f : _root_.Fin 16, val (fig ((f.val : Nat) : Int)) = ((f.val : Nat) : Int) := by decide +kernel
theorem val_figN (n : Int) (h : 0 ≤ n ∧ n ≤ 15) : val (fig n) = n := by
  obtain ⟨m, rfl⟩ := Int.eq_ofNat_of_zero_le h.1
  exact val_fig ⟨m, by omega⟩
theorem hexL_even : ∀ (l : List UInt8) (j : Nat), j < l.length → (hexL l).getD (2 * j) 0 = fig (((l.getD j 0).toNat : Int) / 16) ∧ (hexL l).getD (2 * j + 1) 0 = fig (((l.getD j 0).toNat : Int) % 16)
  | [], j, h => by simp at h
  | x :: l, 0, _ => by simp [hexL]
  | x :: l, j + 1, h => by
    have := hexL_even l j (by simpa using h)
    rw [show 2 * (j + 1) = 2 * j + 1 + 1 by omega]
    simpa [hexL] using this
theorem hexL_ok (l : List UInt8) : (hexL l).all okV = true := by
  induction l with
  | nil => rfl
  | cons x l ih =>
    have := x.toNat_lt
    simp only [hexL, List.all_cons, Bool.and_eq_true, ih, and_true]
    refine ⟨?_, ?_⟩
    · simp only [okV, decide_eq_true_eq]
      rw [val_figN _ (by omega)]
      omega
    · simp only [okV, decide_eq_true_eq]
      rw [val_figN _ (by omega)]
      omega
theorem unhex_hex (l : List UInt8) : unhexP (hexL l) = (l, 0) := by
  have hl := length_hexL l
  rw [unhexP, if_neg (by omega), if_pos (hexL_ok l)]
  congr 1
  apply List.ext_getElem
  · rw [outAt_len]; omega
  · intro i h1 h2
    simp only [outAt, List.getElem_map, List.getElem_range]
    obtain ⟨e1, e2⟩ := hexL_even l i h2
    have hx := (l.getD i 0).toNat_lt
    unfold outC
    rw [if_pos (by omega), e1, e2, val_figN _ (by omega), val_figN _ (by omega)]
    have : l.getD i 0 = l[i] := by simp [List.getD, h2]
    rw [this]
    apply UInt8.toNat_inj.1
    have h256 := l[i].toNat_lt
    have := u8_toNat (((l[i].toNat : Int)) / 16 * 16 + (l[i].toNat : Int) % 16)
    omega
set_option maxRecDepth 100000 in
theorem octetHex_a (l : List UInt8) (s : ByteArray) : ASpec Try.prog 5 [.bs l, .one (.string s)] (boA true) := by
  have h3 : (l.take 300).length ≤ 300 := by simp; omega
  refine ASpec.of_body TT_ok Try.mixed _ [.tmp 4] ([], []) Try.func5 (by kernel_rfl) rfl rfl (by simp only [Try.ntmps5, List.length_cons, List.length_nil]; omega) rfl (by kernel_rfl) ?_
  simp only [argE_cons, argE_nil, ac_seq, ac_region, at_normal, ao_nil, ao_cons, as_call, as_move, as_assign, boA, fr_false, List.contains_nil, beq_self_eq_true, rd, aopsD, frzW, frzR, constT, evT, lk, putT, argsF, constA, cellA, Option.map_some, Nat.reduceAdd, Nat.reduceSub, Nat.reduceLeDiff, Nat.succ_ne_zero, eq_self, Bool.false_eq_true, ↓reduceIte, Nat.zero_add]
  refine ACall.intro (few_a l 300) ?_
  generalize l.take 300 = b at *
  have hh : (bstr (hexL b)).size ≤ 1000000 := by
    have := length_hexL b
    simp
    omega
  have hback := unhex_a (bstr (hexL b)) hh
  rw [toList_bstr, unhex_hex] at hback
  simp only [ac_seq, ac_cond, ac_region, at_normal, ao_nil, ao_cons, as_move, as_assign, as_binOp, as_len, fr_false, List.contains_nil, beq_self_eq_true, hk_some, hopG, hopF, rd, aopsD, constT, evT, lk, putT, lenF, binF, constA, cellA, Option.map_some, Nat.reduceSub, Nat.reduceEqDiff, Nat.reduceLeDiff, true_and, eq_self, reduceCtorEq, Bool.false_eq_true, ↓reduceIte, TT3, TT9]
  cases c1 : decide ((300 : Int) < (s.size : Int))
  · rw [dF] at c1
    have he := unhexP_e s.toList
    simp only [ac_skip, ac_seq, ac_region, at_normal, ao_cons, if_f, as_call, as_move, fr_false, List.contains_nil, beq_self_eq_true, rd, aopsD, frzW, frzR, evT, lk, putT, argsF, Option.map_some, Nat.reduceSub, Nat.reduceEqDiff, Nat.reduceLeDiff, eq_self, reduceCtorEq, Bool.false_eq_true, ↓reduceIte]
    refine ACall.intro (unhex_a s (by omega)) ?_
    simp only [ac_seq, ac_region, at_normal, ao_nil, ao_cons, as_call, as_move, as_assign, as_extract, i64, fr_false, List.contains_nil, beq_self_eq_true, hk_some, hopG, rd, aopsD, frzW, frzR, evT, lk, putT, argsF, List.getElem?_cons_zero, List.getElem?_cons_succ, Option.map_some, Nat.reduceSub, Nat.reduceEqDiff, Nat.reduceLeDiff, true_and, eq_self, reduceCtorEq, Bool.false_eq_true, ↓reduceIte]
    refine ACall.intro (refUnhex_a s (by omega)) ?_
    simp only [ac_seq, ac_region, at_normal, ao_nil, ao_cons, as_call, as_move, as_assign, as_extract, i64, fr_false, List.contains_nil, beq_self_eq_true, hk_some, hopG, rd, aopsD, frzW, frzR, evT, lk, putT, argsF, List.getElem?_cons_zero, List.getElem?_cons_succ, Option.map_some, Nat.reduceSub, Nat.reduceEqDiff, Nat.reduceLeDiff, Nat.succ_ne_zero, true_and, eq_self, Bool.false_eq_true, ↓reduceIte]
    refine ACall.intro (hex_a b (by omega)) ?_
    simp only [ao_cons, as_call, as_move, beq_self_eq_true, rd, frzW, frzR, evT, lk, putT, argsF, Option.map_some, Nat.reduceSub, Nat.succ_ne_zero, eq_self, ↓reduceIte]
    refine ACall.intro (refHex_a b (by omega)) ?_
    simp only [ao_cons, ao_guard_f, st_at, if_f, as_call, as_move, as_binOp, beq_self_eq_true, hk_some, hopG, rd, frzW, frzR, evT, lk, putT, GV, gdst, binF, argsF, Option.map_some, Nat.reduceSub, Nat.reduceEqDiff, true_and, eq_self, Bool.not_true, ↓reduceIte, TT9]
    refine ACall.intro (refSame_a _ _) ?_
    simp only [ac_skip, ac_seq, ac_cond, ac_region, at_normal, ao_nil, ao_cons, ao_guard_f, st_at, pk_at, if_f, as_pick, as_call, as_move, as_binOp, as_unOp, boA, fr_false, List.contains_nil, beq_self_eq_true, decide_true, hk_some, hopG, rd, aopsD, frzW, frzR, evT, lk, putT, GV, gdst, binF, unF, argsF, Option.map_some, Nat.reduceSub, Nat.reduceEqDiff, Nat.reduceLeDiff, Nat.succ_ne_zero, true_and, eq_self, Bool.false_eq_true, Bool.not_true, ↓reduceIte, TT3]
    refine ACall.intro (hex_a b (by omega)) ?_
    simp only [ao_cons, as_call, beq_self_eq_true, rd, frzW, frzR, evT, lk, putT, argsF, Option.map_some, Nat.reduceSub, eq_self, ↓reduceIte]
    refine ACall.intro hback ?_
    simp only [ac_seq, ac_region, at_normal, ao_nil, ao_cons, as_call, as_move, as_assign, as_extract, i64, fr_false, List.contains_nil, beq_self_eq_true, hk_some, hopG, rd, aopsD, frzW, frzR, evT, lk, putT, argsF, List.getElem?_cons_zero, List.getElem?_cons_succ, Option.map_some, Nat.reduceSub, Nat.reduceEqDiff, Nat.reduceLeDiff, Nat.succ_ne_zero, true_and, eq_self, Bool.false_eq_true, ↓reduceIte]
    refine ACall.intro (refSame_a b b) ?_
    simp only [ao_cons, ao_guard_t, st_at, pk_at, if_t, as_pick, as_call, as_move, as_binOp, boA, beq_self_eq_true, decide_true, hk_some, hopG, rd, frzW, frzR, constT, evT, lk, putT, GV, gdst, binF, argsF, constA, cellA, Option.map_some, Nat.reduceSub, Nat.reduceEqDiff, true_and, eq_self, ↓reduceIte, TT56]
    refine ACall.intro lives01_a ?_
    simp only [ac_ret, at_normal, ae_ret, ao_nil, ao_cons, pk_at, if_t, as_pick, as_assign, boA, beq_self_eq_true, rd, evT, lk, putT, resF, resL, Option.map_some, Option.bind_some, Nat.reduceSub, Nat.reduceEqDiff, and_true, and_self, eq_self, ↓reduceIte]
  · rw [dT] at c1
    have q : (300 : Int) ≤ (s.size : Int) := by omega
    simp only [q, ac_seq, ac_region, at_normal, ao_nil, ao_cons, if_t, as_call, as_move, as_assign, as_slice, fr_false, List.contains_nil, beq_self_eq_true, hk_some, hopG, rd, aopsD, frzW, frzR, constT, evT, lk, putT, bndF, cutF, argsF, constA, cellA, List.getElem?_nil, Option.map_some, Option.map_none, Option.bind_some, Nat.reduceSub, Nat.reduceEqDiff, Nat.reduceLeDiff, true_and, and_true, and_self, eq_self, reduceCtorEq, Bool.false_eq_true, ↓reduceIte, Int.toNat_zero, Int.reduceToNat, Int.reduceLE, TT9]
    obtain ⟨z, hz⟩ : ∃ z, z = s.extract 0 300 := ⟨_, rfl⟩
    have hzs : z.size ≤ 300 := by rw [hz]; simp; omega
    rw [← hz]
    have he := unhexP_e z.toList
    refine ACall.intro (unhex_a z (by omega)) ?_
    simp only [ac_seq, ac_region, at_normal, ao_nil, ao_cons, as_call, as_move, as_assign, as_extract, i64, fr_false, List.contains_nil, beq_self_eq_true, hk_some, hopG, rd, aopsD, frzW, frzR, evT, lk, putT, argsF, List.getElem?_cons_zero, List.getElem?_cons_succ, Option.map_some, Nat.reduceSub, Nat.reduceEqDiff, Nat.reduceLeDiff, true_and, eq_self, Bool.false_eq_true, ↓reduceIte]
    refine ACall.intro (refUnhex_a z (by omega)) ?_
    simp only [ac_seq, ac_region, at_normal, ao_nil, ao_cons, as_call, as_move, as_assign, as_extract, i64, fr_false, List.contains_nil, beq_self_eq_true, hk_some, hopG, rd, aopsD, frzW, frzR, evT, lk, putT, argsF, List.getElem?_cons_zero, List.getElem?_cons_succ, Option.map_some, Nat.reduceSub, Nat.reduceEqDiff, Nat.reduceLeDiff, Nat.succ_ne_zero, true_and, eq_self, Bool.false_eq_true, ↓reduceIte]
    refine ACall.intro (hex_a b (by omega)) ?_
    simp only [ao_cons, as_call, as_move, beq_self_eq_true, rd, frzW, frzR, evT, lk, putT, argsF, Option.map_some, Nat.reduceSub, Nat.succ_ne_zero, eq_self, ↓reduceIte]
    refine ACall.intro (refHex_a b (by omega)) ?_
    simp only [ao_cons, ao_guard_f, st_at, if_f, as_call, as_move, as_binOp, beq_self_eq_true, hk_some, hopG, rd, frzW, frzR, evT, lk, putT, GV, gdst, binF, argsF, Option.map_some, Nat.reduceSub, Nat.reduceEqDiff, true_and, eq_self, Bool.not_true, ↓reduceIte, TT9]
    refine ACall.intro (refSame_a _ _) ?_
    simp only [ac_skip, ac_seq, ac_cond, ac_region, at_normal, ao_nil, ao_cons, ao_guard_f, st_at, pk_at, if_f, as_pick, as_call, as_move, as_binOp, as_unOp, boA, fr_false, List.contains_nil, beq_self_eq_true, decide_true, hk_some, hopG, rd, aopsD, frzW, frzR, evT, lk, putT, GV, gdst, binF, unF, argsF, Option.map_some, Nat.reduceSub, Nat.reduceEqDiff, Nat.reduceLeDiff, Nat.succ_ne_zero, true_and, eq_self, Bool.false_eq_true, Bool.not_true, ↓reduceIte, TT3]
    refine ACall.intro (hex_a b (by omega)) ?_
    simp only [ao_cons, as_call, beq_self_eq_true, rd, frzW, frzR, evT, lk, putT, argsF, Option.map_some, Nat.reduceSub, eq_self, ↓reduceIte]
    refine ACall.intro hback ?_
    simp only [ac_seq, ac_region, at_normal, ao_nil, ao_cons, as_call, as_move, as_assign, as_extract, i64, fr_false, List.contains_nil, beq_self_eq_true, hk_some, hopG, rd, aopsD, frzW, frzR, evT, lk, putT, argsF, List.getElem?_cons_zero, List.getElem?_cons_succ, Option.map_some, Nat.reduceSub, Nat.reduceEqDiff, Nat.reduceLeDiff, Nat.succ_ne_zero, true_and, eq_self, Bool.false_eq_true, ↓reduceIte]
    refine ACall.intro (refSame_a b b) ?_
    simp only [ao_cons, ao_guard_t, st_at, pk_at, if_t, as_pick, as_call, as_move, as_binOp, boA, beq_self_eq_true, decide_true, hk_some, hopG, rd, frzW, frzR, constT, evT, lk, putT, GV, gdst, binF, argsF, constA, cellA, Option.map_some, Nat.reduceSub, Nat.reduceEqDiff, true_and, eq_self, ↓reduceIte, TT56]
    refine ACall.intro lives01_a ?_
    simp only [ac_ret, at_normal, ae_ret, ao_nil, ao_cons, pk_at, if_t, as_pick, as_assign, boA, beq_self_eq_true, rd, evT, lk, putT, resF, resL, Option.map_some, Option.bind_some, Nat.reduceSub, Nat.reduceEqDiff, and_true, and_self, eq_self, ↓reduceIte]
end Go.Proofs.Ythjojkkapboonaa
