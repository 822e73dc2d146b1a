/- The statements of udp. -/
import Derived.Test.YtdbaehpfjpghfaaCJ
namespace Go.Proofs.Ytdbaehpfjpghfaa
set_option linter.unusedSimpArgs false
set_option linter.unusedVariables false
open Go.RowKit

theorem udpP_e (src dst : Int) (b : List UInt8) : IntKind.i64.wrap (udpP src dst b).2 = (udpP src dst b).2 := by
  unfold udpP
  repeat' split
  all_goals rfl
set_option maxRecDepth 100000 in
theorem udpHeads_a (src dst proto n : Int) (h1 : 0 ≤ src ∧ src ≤ 4294967295) (h2 : 0 ≤ dst ∧ dst ≤ 4294967295) (h3 : 0 ≤ proto ∧ proto ≤ 255) : ASpec Try.prog 11 [u32A src, u32A dst, u8A proto, i64 n] (boA true) := by
  refine ASpec.of_body TT_ok Try.mixed _ [.tmp 8] [] Try.func11 (by kernel_rfl) rfl rfl (by simp only [Try.ntmps11, List.length_cons, List.length_nil]; omega) rfl (by kernel_rfl) ?_
  simp only [argE_cons, argE_nil, ac_seq, ac_region, at_normal, ao_nil, ao_cons, ao_guard_f, as_move, as_assign, as_binOp, u8A, u32A, i64, boA, fr_false, List.contains_nil, hk_some, hopF, evT, lk, putT, GV, gdst, binF, constA, cellA, Option.map_some, Nat.reduceAdd, Nat.reduceEqDiff, true_and, eq_self, reduceCtorEq, ↓reduceIte, Nat.zero_add, TT3]
  refine AIf.intro (fun c1 => ?_) (fun c1 => ?_)
  · simp only [c1, ac_seq, ac_cond, ac_region, at_normal, ao_nil, ao_cons, ao_guard_f, sk_at, pk_at, if_t, as_pick, as_call, fr_false, List.contains_nil, evT, lk, putT, GV, gdst, argsF, constA, cellA, Nat.reduceEqDiff, eq_self, ↓reduceIte]
    refine ACall.intro lives08_a ?_
    simp only [ac_ret, at_normal, at_ret, ae_ret, ao_nil, ao_cons, as_assign, boA, evT, lk, putT, resF, resL, Option.map_some, Option.bind_some, and_true, and_self, eq_self, ↓reduceIte]
  · simp only [c1, ac_cond, at_normal, ao_nil, ao_cons, ao_guard_f, st_at, pk_at, if_f, as_pick, as_move, as_binOp, hk_some, hopF, evT, lk, putT, GV, gdst, binF, constA, cellA, Option.map_some, Nat.reduceEqDiff, true_and, eq_self, reduceCtorEq, ↓reduceIte, TT3]
    refine AIf.intro (fun c2 => ?_) (fun c2 => ?_)
    · simp only [c2, ac_seq, ac_region, ao_cons, as_call, fr_false, List.contains_nil, evT, argsF]
      refine ACall.intro lives08_a ?_
      simp only [ac_ret, at_normal, at_ret, ae_ret, ao_nil, ao_cons, as_assign, boA, evT, lk, putT, resF, resL, Option.map_some, Option.bind_some, and_true, and_self, eq_self, ↓reduceIte]
    · simp only [c2, ac_skip, ac_seq, ac_region, at_normal, ao_cons, as_call, as_move, fr_false, List.contains_nil, evT, lk, putT, argsF, Option.map_some, Nat.reduceEqDiff, Nat.succ_ne_zero, eq_self, reduceCtorEq, ↓reduceIte]
      rw [dF] at c1 c2
      refine ACall.intro (head_a src dst proto n h1 h2 h3) ?_
      simp only [ao_cons, as_call, as_move, evT, lk, putT, argsF, Option.map_some, Nat.reduceEqDiff, Nat.succ_ne_zero, eq_self, reduceCtorEq, ↓reduceIte]
      refine ACall.intro (refHead08_a src dst proto n h1 h2 h3 (by omega)) ?_
      simp only [ao_cons, as_call, evT, lk, putT, argsF, Option.map_some, Nat.reduceEqDiff, eq_self, ↓reduceIte]
      refine ACall.intro (refSame_a _ _) ?_
      simp only [ao_cons, ao_guard_t, st_at, if_t, as_call, as_move, boA, beq_self_eq_true, evT, lk, putT, GV, gdst, argsF, eq_self, ↓reduceIte]
      refine ACall.intro lives08_a ?_
      simp only [ac_ret, at_normal, ae_ret, ao_nil, ao_cons, pk_at, if_t, as_pick, as_assign, boA, evT, lk, putT, resF, resL, Option.map_some, Option.bind_some, Nat.reduceEqDiff, and_true, and_self, eq_self, ↓reduceIte]
set_option maxRecDepth 100000 in
theorem udpParses_a (src dst : Int) (l : List UInt8) (h1 : 0 ≤ src ∧ src ≤ 4294967295) (h2 : 0 ≤ dst ∧ dst ≤ 4294967295) : ASpec Try.prog 21 [u32A src, u32A dst, .bs l] (boA true) := by
  have h3 : (l.take 300).length ≤ 300 := by simp; omega
  refine ASpec.of_body TT_ok Try.mixed _ [.tmp 6] [] Try.func21 (by kernel_rfl) rfl rfl (by simp only [Try.ntmps21, List.length_cons, List.length_nil]; omega) rfl (by kernel_rfl) ?_
  simp only [argE_cons, argE_nil, ac_seq, ac_region, at_normal, ao_nil, ao_cons, as_call, as_move, as_assign, u32A, boA, fr_false, List.contains_nil, evT, lk, putT, argsF, constA, cellA, Option.map_some, Nat.reduceAdd, Nat.reduceEqDiff, eq_self, reduceCtorEq, ↓reduceIte, Nat.zero_add]
  refine ACall.intro (few_a l 300) ?_
  generalize l.take 300 = m at *
  simp only [ac_seq, ac_region, at_normal, ao_nil, ao_cons, as_call, as_move, as_assign, fr_false, List.contains_nil, evT, lk, putT, argsF, Option.map_some, Nat.reduceEqDiff, Nat.succ_ne_zero, eq_self, reduceCtorEq, ↓reduceIte]
  refine ACall.intro (udpParse_a src dst m h1 h2 (by omega)) ?_
  simp only [ac_seq, ac_region, at_normal, ao_nil, ao_cons, as_call, as_alloc, as_store, as_move, as_assign, as_extract, datA, u16A, i64, boA, fr_false, List.contains_nil, Bool.and_self, hk_some, hopF, heapF, evT, lk, putT, cellsF, ovw, argsF, okCell, Value.oneCell', List.length_cons, List.length_nil, List.getElem?_cons_zero, List.getElem?_cons_succ, List.set_cons_zero, List.set_cons_succ, List.nil_append, List.all_cons, List.all_nil, Option.map_some, Nat.reduceAdd, Nat.reduceEqDiff, Nat.succ_ne_zero, true_and, and_self, eq_self, reduceCtorEq, ↓reduceIte, Nat.zero_add, Nat.le_refl, TT93]
  refine ACall.intro (refParse08_a src dst m h1 h2 (by omega)) ?_
  simp only [ac_seq, ac_region, at_normal, ao_nil, ao_cons, as_call, as_alloc, as_store, as_move, as_assign, as_load, as_extract, datA, u16A, i64, boA, fr_false, List.contains_nil, Bool.and_self, hk_some, hopF, heapF, evT, lk, putT, loadF, cellsF, ovw, argsF, okCell, TK.isAgg, Value.oneCell', List.length_cons, List.length_nil, List.getElem?_cons_zero, List.getElem?_cons_succ, List.drop_zero, List.take_succ_cons, List.take_nil, List.set_cons_zero, List.set_cons_succ, List.nil_append, List.cons_append, List.all_cons, List.all_nil, Option.map_some, Nat.reduceAdd, Nat.reduceEqDiff, true_and, and_self, eq_self, ↓reduceIte, Nat.zero_add, Nat.le_refl, TT93]
  refine ACall.intro (refSame08_a ..) ?_
  simp only [ao_cons, ao_guard_t, st_at, pk_at, if_t, as_pick, as_call, as_move, as_binOp, boA, beq_self_eq_true, decide_true, Bool.and_self, hk_some, hopF, evT, lk, putT, GV, gdst, binF, argsF, Option.map_some, Nat.reduceEqDiff, true_and, eq_self, ↓reduceIte, TT3]
  refine ACall.intro lives08_a ?_
  simp only [ac_ret, at_normal, ae_ret, ao_nil, ao_cons, pk_at, if_t, as_pick, as_assign, boA, evT, lk, putT, resF, resL, Option.map_some, Option.bind_some, Nat.reduceEqDiff, and_true, and_self, eq_self, ↓reduceIte]
theorem get16_put (a b : List UInt8) (s : Int) (hs : 0 ≤ s ∧ s ≤ 65535) : get16 (a ++ (put16 [s] ++ b)) a.length = s := by
  have hb : thereB (a ++ (put16 [s] ++ b)).length a.length 2 = true := thereB_iff.2 (by simp [length_put16]; omega)
  rw [get16, if_pos hb, Int.toNat_natCast, List.drop_left, List.take_left' (by simp [length_put16])]
  have q1 := u8_toNat (s / 256)
  have q2 := u8_toNat s
  simp only [put16, num_two]
  omega
theorem fills_two (a b : List UInt8) (ha : a.length % 2 = 0) (hO : 65535 - onesF (a ++ ([0, 0] ++ b)) = 0) : onesF (a ++ (put16 [65535] ++ b)) = 65535 := by
  have e : (raw (a ++ ([0, 0] ++ b)) : Int) = raw a + raw b := by
    have := raw_mid a b 0 ha (by omega) (by omega)
    have e2 : put16 [0] = [0, 0] := by decide
    rw [e2] at this
    omega
  have e3 := raw_mid a b 65535 ha (by omega) (by omega)
  have hO2 : onesF (a ++ ([0, 0] ++ b)) = foldF (raw a + raw b) := by rw [onesF, e]
  show foldF _ = 65535
  rw [e3]
  have hm := foldF_mod (raw a + raw b)
  have h2 := foldF_mod (↑(raw a) + 65535 + ↑(raw b))
  have h3 := foldF_pos (n := ↑(raw a) + 65535 + ↑(raw b)) (by omega)
  have h4 := foldF_bd (↑(raw a) + 65535 + ↑(raw b))
  omega
theorem udpP_B (src dst sp dp : Int) (bare : Bool) (l r : List UInt8) (h3 : 0 ≤ sp ∧ sp ≤ 65535) (h4 : 0 ≤ dp ∧ dp ≤ 65535) (hl : l.length ≤ 1000) (hr : r.length ≤ 1000) : udpP src dst (udpB src dst sp dp bare l ++ r) = ((sp, dp, bare, l), (0 : Int)) := by
  have hbd := udpS_bd src dst sp dp l
  obtain ⟨s, hs, hB⟩ : ∃ s, s = (if bare then 0 else udpS src dst sp dp l) ∧ udpB src dst sp dp bare l = put16 [sp, dp, 8 + (l.length : Int), s] ++ l := ⟨_, rfl, rfl⟩
  have hs0 : s = 0 ↔ bare = true := by
    rw [hs]
    cases bare
    · simp; omega
    · simp
  have hsb : 0 ≤ s ∧ s ≤ 65535 := by
    rw [hs]
    split <;> omega
  have hlen : (udpB src dst sp dp bare l).length = 8 + l.length := udpB_len ..
  have hn : ((udpB src dst sp dp bare l ++ r).length : Int) = 8 + l.length + r.length := by simp [hlen]
  have g0 : get16 (udpB src dst sp dp bare l ++ r) 0 = sp := by
    rw [hB]
    exact get16_put [] (put16 [dp, 8 + (l.length : Int), s] ++ l ++ r) sp h3
  have g2 : get16 (udpB src dst sp dp bare l ++ r) 2 = dp := by
    rw [hB]
    exact get16_put (put16 [sp]) (put16 [8 + (l.length : Int), s] ++ l ++ r) dp h4
  have g4 : get16 (udpB src dst sp dp bare l ++ r) 4 = 8 + (l.length : Int) := by
    rw [hB]
    exact get16_put (put16 [sp, dp]) (put16 [s] ++ l ++ r) (8 + (l.length : Int)) (by omega)
  have g6 : get16 (udpB src dst sp dp bare l ++ r) 6 = s := by
    rw [hB]
    exact get16_put (put16 [sp, dp, 8 + (l.length : Int)]) (l ++ r) s hsb
  have ht : (udpB src dst sp dp bare l ++ r).take (8 + l.length) = udpB src dst sp dp bare l := List.take_left' hlen
  have hd : (udpB src dst sp dp bare l).drop 8 = l := by rw [hB]; rfl
  have hsum : bare = false → onesF (psB src dst 17 (8 + (l.length : Int)) ++ udpB src dst sp dp bare l) = 65535 := by
    intro hb
    have hh : (psB src dst 17 (8 + (l.length : Int))).length = 12 := by simp [psB, length_put32, length_put16]
    have e0 : ([0, 0] : List UInt8) = put16 [0] := by decide
    have e1 : psB src dst 17 (8 + (l.length : Int)) ++ (put16 [sp, dp, 8 + (l.length : Int), 0] ++ l) = psB src dst 17 (8 + (l.length : Int)) ++ put16 [sp, dp, 8 + (l.length : Int)] ++ ([0, 0] ++ l) := by
      rw [e0]; simp [put16]
    have e2 : psB src dst 17 (8 + (l.length : Int)) ++ (put16 [sp, dp, 8 + (l.length : Int), s] ++ l) = psB src dst 17 (8 + (l.length : Int)) ++ put16 [sp, dp, 8 + (l.length : Int)] ++ (put16 [s] ++ l) := by
      simp [put16]
    rw [hB, e2]
    rw [hb] at hs
    simp only [Bool.false_eq_true, if_false, udpS, e1] at hs
    have ha : (psB src dst 17 (8 + (l.length : Int)) ++ put16 [sp, dp, 8 + (l.length : Int)]).length % 2 = 0 := by simp [hh, length_put16]
    split at hs <;> rename_i hx
    · rw [hs]
      exact fills_two _ l ha hx
    · rw [hs]
      exact fills_law _ l ha
  rw [udpP, if_neg (by omega), g4, if_neg (by omega), if_neg (by omega), g6, show (8 + (l.length : Int)).toNat = 8 + l.length by omega, ht, g0, g2, hd]
  cases bare
  · rw [if_neg (by simp [hsum])]
    have : ¬ s = 0 := by simpa using hs0
    simp [this]
  · have : s = 0 := by simpa using hs0
    rw [if_neg (by simp [this])]
    simp [this]
set_option maxRecDepth 100000 in
theorem udpPuts_a (src dst sp dp : Int) (bare : Bool) (l r : List UInt8) (h1 : 0 ≤ src ∧ src ≤ 4294967295) (h2 : 0 ≤ dst ∧ dst ≤ 4294967295) (h3 : 0 ≤ sp ∧ sp ≤ 65535) (h4 : 0 ≤ dp ∧ dp ≤ 65535) : ASpec Try.prog 22 [u32A src, u32A dst, datA sp dp bare l, .bs r] (boA true) := by
  have h5 : (l.take 200).length ≤ 200 := by simp; omega
  have h6 : (r.take 40).length ≤ 40 := by simp; omega
  refine ASpec.of_body TT_ok Try.mixed _ [.tmp 8] [] Try.func22 (by kernel_rfl) rfl rfl (by simp only [Try.ntmps22, List.length_cons, List.length_nil]; omega) rfl (by kernel_rfl) ?_
  simp only [argE_cons, argE_nil, ac_seq, ac_region, at_normal, ao_nil, ao_cons, as_call, as_box, as_assign, as_load, datA, u16A, u32A, boA, fr_false, List.contains_nil, hk_some, hopF, heapF, evT, lk, putT, loadF, cellsF, argsF, constA, cellA, TK.isAgg, List.length_cons, List.length_nil, List.getElem?_cons_zero, List.drop_zero, List.take_succ_cons, List.take_nil, List.nil_append, Option.map_some, Nat.reduceAdd, Nat.reduceEqDiff, true_and, eq_self, reduceCtorEq, ↓reduceIte, Nat.zero_add, Nat.le_refl, TT93]
  refine ACall.intro (refFew08_a sp dp bare l) ?_
  generalize l.take 200 = m at *
  simp only [ac_seq, ac_region, at_normal, ao_nil, ao_cons, as_call, as_store, as_move, as_load, datA, u16A, boA, fr_false, List.contains_nil, Bool.and_self, hk_some, hopF, heapF, evT, lk, putT, loadF, cellsF, ovw, argsF, okCell, TK.isAgg, Value.oneCell', List.length_cons, List.length_nil, List.getElem?_cons_zero, List.drop_zero, List.take_succ_cons, List.take_nil, List.set_cons_zero, List.set_cons_succ, List.all_cons, List.all_nil, Option.map_some, Nat.reduceAdd, Nat.reduceEqDiff, Nat.succ_ne_zero, true_and, and_self, eq_self, reduceCtorEq, ↓reduceIte, Nat.zero_add, Nat.le_refl, TT93]
  refine ACall.intro (udpPut_a src dst sp dp bare m h1 h2 h3 h4 (by omega)) ?_
  simp only [ac_seq, ac_region, at_normal, ao_nil, ao_cons, as_call, as_move, as_assign, as_load, as_extract, i64, fr_false, List.contains_nil, hk_some, hopF, evT, lk, putT, loadF, argsF, TK.isAgg, List.length_cons, List.length_nil, List.getElem?_cons_zero, List.getElem?_cons_succ, List.drop_zero, List.take_succ_cons, List.take_nil, Option.map_some, Nat.reduceAdd, Nat.reduceEqDiff, Nat.succ_ne_zero, true_and, eq_self, reduceCtorEq, ↓reduceIte, Nat.zero_add, Nat.le_refl, TT93]
  refine ACall.intro (refPut08_a src dst sp dp bare m h1 h2 h3 h4 (by omega)) ?_
  simp only [ac_seq, ac_region, at_normal, ao_nil, ao_cons, as_call, as_move, as_assign, as_extract, i64, fr_false, List.contains_nil, hk_some, hopF, evT, lk, putT, argsF, List.getElem?_cons_zero, List.getElem?_cons_succ, Option.map_some, Nat.reduceEqDiff, true_and, eq_self, ↓reduceIte]
  refine ACall.intro (refSame_a _ _) ?_
  simp only [ac_skip, ac_seq, ac_cond, ac_region, at_normal, ao_nil, ao_cons, ao_guard_f, st_at, pk_at, if_f, as_pick, as_call, as_move, as_binOp, as_unOp, boA, fr_false, List.contains_nil, beq_self_eq_true, decide_true, hk_some, hopF, evT, lk, putT, GV, gdst, binF, unF, argsF, constA, cellA, Option.map_some, Nat.reduceEqDiff, Nat.succ_ne_zero, true_and, eq_self, reduceCtorEq, Bool.not_true, ↓reduceIte, TT3, TT61]
  refine ACall.intro (few_a r 40) ?_
  generalize r.take 40 = k at *
  simp only [ao_cons, as_call, evT, lk, putT, argsF, Option.map_some, Nat.reduceEqDiff, eq_self, ↓reduceIte]
  have hlen : (udpB src dst sp dp bare m).length = 8 + m.length := udpB_len ..
  refine ACall.intro (add_a (udpB src dst sp dp bare m) k (by omega)) ?_
  simp only [ao_cons, as_call, evT, lk, putT, argsF, Option.map_some, Nat.reduceEqDiff, eq_self, ↓reduceIte]
  refine ACall.intro (udpParse_a src dst (udpB src dst sp dp bare m ++ k) h1 h2 (by simp; omega)) ?_
  simp only [udpP_B src dst sp dp bare m k h3 h4 (by omega) (by omega), ac_seq, ac_region, at_normal, ao_nil, ao_cons, ao_guard_t, st_at, if_t, as_call, as_alloc, as_store, as_move, as_assign, as_binOp, as_load, as_extract, datA, u16A, i64, boA, fr_false, List.contains_nil, decide_true, Bool.and_self, hk_some, hopF, heapF, evT, lk, putT, GV, gdst, binF, loadF, cellsF, ovw, argsF, okCell, constA, cellA, TK.isAgg, Value.oneCell', List.length_cons, List.length_nil, List.getElem?_cons_zero, List.getElem?_cons_succ, List.drop_zero, List.take_succ_cons, List.take_nil, List.set_cons_zero, List.set_cons_succ, List.nil_append, List.cons_append, List.all_cons, List.all_nil, Option.map_some, Nat.reduceAdd, Nat.reduceEqDiff, true_and, and_self, eq_self, ↓reduceIte, Nat.zero_add, Nat.le_refl, TT61, TT93]
  refine ACall.intro (refSame08_a ..) ?_
  simp only [ao_cons, ao_guard_t, st_at, pk_at, if_t, as_pick, as_call, as_move, boA, beq_self_eq_true, decide_true, Bool.and_self, evT, lk, putT, GV, gdst, argsF, Nat.reduceEqDiff, eq_self, ↓reduceIte]
  refine ACall.intro lives08_a ?_
  simp only [ac_ret, at_normal, ae_ret, ao_nil, ao_cons, pk_at, if_t, as_pick, as_assign, boA, evT, lk, putT, resF, resL, Option.map_some, Option.bind_some, Nat.reduceEqDiff, and_true, and_self, eq_self, ↓reduceIte]
end Go.Proofs.Ytdbaehpfjpghfaa
