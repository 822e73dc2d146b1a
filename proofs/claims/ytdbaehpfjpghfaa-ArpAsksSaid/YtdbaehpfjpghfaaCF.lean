/- The reference of icmp, and the statements' own texts. -/
import Derived.Test.YtdbaehpfjpghfaaCE
import Derived.Test.YtdbaehpfjpghfaaPA
namespace Go.Proofs.Ytdbaehpfjpghfaa
set_option linter.unusedSimpArgs false
set_option linter.unusedVariables false
open Go.RowKit

theorem icmpB_eq (t c r : Int) (l : List UInt8) : icmpB t c r l = [u8 t, u8 c, u8 ((65535 - onesF ([u8 t, u8 c, u8 0, u8 0] ++ put32 [r] ++ l)) / 256), u8 (65535 - onesF ([u8 t, u8 c, u8 0, u8 0] ++ put32 [r] ++ l))] ++ (put32 [r] ++ l) := by
  have hb : thereB ([u8 t, u8 c, u8 0, u8 0] ++ put32 [r] ++ l).length 2 2 = true := thereB_iff.2 (by simp; omega)
  rw [icmpB, set16, if_pos hb]
  rfl

set_option maxRecDepth 100000 in
theorem refPut07_a (t c r : Int) (l : List UInt8) (ht : 0 ≤ t ∧ t ≤ 255) (hc : 0 ≤ c ∧ c ≤ 255) (hr : 0 ≤ r ∧ r ≤ 4294967295) (hl : l.length ≤ 100000) : ASpec Try.prog 101 [icmpA t c r l] (.bs (icmpB t c r l)) := by
  have hb := onesF_bd ([u8 t, u8 c, u8 0, u8 0] ++ put32 [r] ++ l)
  have hsm : small ([u8 t, u8 c, u8 0, u8 0] ++ put32 [r] ++ l) := by simp [small, length_put32]; omega
  refine ASpec.of_body TT_ok Try.mixed _ [.tmp 2] [] Try.func101 (by kernel_rfl) rfl rfl (by simp only [Try.ntmps101, List.length_cons, List.length_nil]; omega) rfl (by kernel_rfl) ?_
  simp only [argE_cons, argE_nil, ac_seq, ac_region, at_normal, ao_nil, ao_cons, as_call, as_box, as_assign, as_load, as_fieldAddr, as_buildSlice, icmpA, u8A, u32A, fr_false, List.contains_nil, hk_some, hopF, heapF, evT, lk, putT, loadF, cellsF, ovw, fillF, bytesOf, makeSF, partsF, argsF, constA, cellA, TK.isAgg, Value.oneCell', List.length_cons, List.length_nil, List.getElem?_cons_zero, List.getElem?_cons_succ, List.drop_zero, List.drop_succ_cons, List.set_cons_zero, List.set_cons_succ, List.nil_append, List.cons_append, List.replicate_succ, List.replicate_zero, List.flatten_cons, List.flatten_nil, List.append_nil, Option.map_some, Nat.reduceAdd, Nat.reduceEqDiff, Nat.reduceLeDiff, Nat.succ_ne_zero, ne_eq, not_false_eq_true, true_and, and_true, and_self, eq_self, Bool.false_eq_true, ↓reduceIte, Int.reduceLE, Nat.mul_one, Nat.zero_add, Nat.add_zero, Nat.le_refl, TT5, TT22, TT38, TT78]
  refine ⟨⟨ht, hc⟩, ACall.intro (refPut_a r 4 hr (by omega)) ?_⟩
  simp only [lowB_four, ao_cons, as_call, evT, lk, putT, argsF, Option.map_some, Nat.reduceEqDiff, eq_self, ↓reduceIte]
  refine ACall.intro (add_a [u8 t, u8 c, u8 0, u8 0] (put32 [r]) (by simp [length_put32])) ?_
  simp only [ao_cons, as_call, as_load, as_fieldAddr, hk_some, hopF, evT, lk, putT, loadF, argsF, TK.isAgg, List.getElem?_cons_zero, List.getElem?_cons_succ, List.drop_zero, List.drop_succ_cons, List.nil_append, List.cons_append, Option.map_some, Nat.reduceEqDiff, Nat.succ_ne_zero, ne_eq, not_false_eq_true, true_and, eq_self, Bool.false_eq_true, ↓reduceIte, Nat.zero_add, TT38, TT78]
  refine ACall.intro (add_a ([u8 t, u8 c, u8 0, u8 0] ++ put32 [r]) l (by simp [length_put32]; omega)) ?_
  simp only [ac_seq, ac_region, at_normal, ao_nil, ao_cons, as_call, as_move, as_assign, fr_false, List.contains_nil, evT, lk, putT, argsF, List.nil_append, List.cons_append, Option.map_some, eq_self, ↓reduceIte]
  refine ACall.intro (refOf_a ([u8 t, u8 c, u8 0, u8 0] ++ put32 [r] ++ l) (by simpa using hsm)) ?_
  have eB := icmpB_eq t c r l
  generalize hS : 65535 - onesF ([u8 t, u8 c, u8 0, u8 0] ++ put32 [r] ++ l) = s at *
  simp only [u8bd, u8w, u8m, tdivN (a := s) (b := 256) (by omega), tmodN (a := s) (b := 256) (by omega), i64_in (n := s / 256) (by omega) (by omega), ac_seq, ac_region, at_normal, ao_nil, ao_cons, as_call, as_move, as_assign, as_binOp, as_convert, as_load, as_fieldAddr, as_buildSlice, as_slice, i64, fr_false, List.contains_nil, Int.reduceEq, hk_some, hopF, evT, lk, putT, binF, convF, loadF, cellsF, ovw, fillF, bytesOf, makeSF, bndF, cutF, partsF, argsF, constA, cellA, TK.isAgg, Value.oneCell', List.length_cons, List.length_nil, List.getElem?_cons_zero, List.getElem?_cons_succ, List.drop_zero, List.drop_succ_cons, List.set_cons_zero, List.set_cons_succ, List.nil_append, List.cons_append, List.replicate_succ, List.replicate_zero, List.flatten_cons, List.flatten_nil, List.append_nil, Option.map_some, Option.map_none, Option.bind_some, Nat.reduceAdd, Nat.reduceEqDiff, Nat.reduceLeDiff, Nat.succ_ne_zero, ne_eq, not_false_eq_true, true_and, and_true, and_self, eq_self, Bool.false_eq_true, ↓reduceIte, Int.reduceToNat, Int.reduceLE, Nat.mul_one, Nat.zero_add, Nat.add_zero, Nat.le_refl, TT3, TT5, TT38, TT78]
  refine ⟨⟨ht, hc⟩, by simp; omega, ?_⟩
  rw [List.take_of_length_le (by simp; omega)]
  refine ACall.intro (add_a _ (put32 [r] ++ l) (by simp [length_put32]; omega)) ?_
  simp only [ac_ret, at_normal, ae_ret, ao_nil, ao_cons, as_assign, evT, lk, putT, resF, resL, List.nil_append, List.cons_append, Option.map_some, Option.bind_some, true_and, and_true, eq_self, ↓reduceIte]
  rw [eB]
  rfl

set_option maxRecDepth 100000 in
theorem refParse07_a (l : List UInt8) (hl : small l) : ASpec Try.prog 99 [.bs l] (.tup [icmpA (icmpP l).1.1 (icmpP l).1.2.1 (icmpP l).1.2.2.1 (icmpP l).1.2.2.2, i64 (icmpP l).2]) := by
  refine ASpec.of_body TT_ok Try.mixed _ [.cell 2 78, .tmp 3] [] Try.func99 (by kernel_rfl) rfl rfl (by simp only [Try.ntmps99, List.length_cons, List.length_nil]; omega) rfl (by kernel_rfl) ?_
  simp only [argE_cons, argE_nil, ac_seq, ac_cond, ac_region, at_normal, ao_nil, ao_cons, as_alloc, as_move, as_assign, as_binOp, as_len, icmpA, u8A, u32A, i64, fr_false, List.contains_nil, hk_some, hopF, heapF, evT, lk, putT, lenF, binF, constA, cellA, List.length_nil, List.nil_append, Option.map_some, Nat.succ_ne_zero, true_and, eq_self, ↓reduceIte, Nat.zero_add, TT3, TT38, TT78]
  refine AIf.intro (fun h1 => ?_) (fun h1 => ?_)
  · simp only [h1, ac_ret, ac_seq, ac_region, at_normal, at_ret, ae_ret, ao_nil, ao_cons, as_store, as_assign, as_build, fr_false, List.contains_nil, Bool.and_self, hk_some, hopF, heapF, evT, lk, putT, loadF, cellsF, ovw, fillF, buildF, partsF, okCell, resF, resL, constA, cellA, TK.isAgg, Value.oneCell', List.length_cons, List.length_nil, List.getElem?_cons_zero, List.drop_zero, List.take_succ_cons, List.take_nil, List.set_cons_zero, List.set_cons_succ, List.all_cons, List.all_nil, Option.map_some, Option.bind_some, Nat.reduceAdd, Nat.reduceEqDiff, true_and, and_true, and_self, eq_self, ↓reduceIte, Nat.zero_add, Nat.le_refl, TT78]
    rw [dT] at h1
    have e : icmpP l = ((0, 0, 0, []), 4) := if_pos (by omega)
    rw [e]
  · simp only [h1, ac_skip, ac_seq, ac_region, at_normal, ao_cons, as_call, as_move, fr_false, List.contains_nil, evT, lk, putT, argsF, Option.map_some, Nat.succ_ne_zero, eq_self, ↓reduceIte]
    rw [dF] at h1
    refine ACall.intro (refOnes_a l hl) ?_
    simp only [ac_cond, at_normal, ao_nil, ao_cons, as_binOp, i64, hk_some, hopF, evT, lk, putT, binF, constA, cellA, Option.map_some, true_and, eq_self, ↓reduceIte, TT3]
    refine AIf.intro (fun h2 => ?_) (fun h2 => ?_)
    · simp only [h2, ac_ret, ac_seq, ac_region, at_normal, at_ret, ae_ret, ao_nil, ao_cons, as_store, as_assign, as_build, fr_false, List.contains_nil, Bool.and_self, hk_some, hopF, heapF, evT, lk, putT, loadF, cellsF, ovw, fillF, buildF, partsF, okCell, resF, resL, constA, cellA, TK.isAgg, Value.oneCell', List.length_cons, List.length_nil, List.getElem?_cons_zero, List.drop_zero, List.take_succ_cons, List.take_nil, List.set_cons_zero, List.set_cons_succ, List.all_cons, List.all_nil, Option.map_some, Option.bind_some, Nat.reduceAdd, Nat.reduceEqDiff, true_and, and_true, and_self, eq_self, ↓reduceIte, Nat.zero_add, Nat.le_refl, TT78]
      have e : icmpP l = ((0, 0, 0, []), 5) := by
        rw [icmpP, if_neg (by omega), if_pos (by simpa using h2)]
      rw [e]
    · simp only [h2, ac_skip, ac_seq, ac_region, at_normal, ao_nil, ao_cons, as_call, as_alloc, as_store, as_move, as_load, as_indexAddr, as_build, fr_false, List.contains_nil, Bool.and_self, hk_some, hopF, heapF, evT, lk, putT, loadF, cellsF, ovw, fillF, buildF, partsF, argsF, okCell, constA, cellA, TK.isAgg, Value.oneCell', List.length_cons, List.length_nil, List.getElem?_cons_zero, List.getElem?_cons_succ, List.set_cons_zero, List.set_cons_succ, List.nil_append, List.cons_append, List.all_cons, List.all_nil, Option.map_some, Nat.reduceAdd, Nat.reduceEqDiff, Nat.reduceLeDiff, Nat.succ_ne_zero, true_and, and_self, eq_self, Bool.false_eq_true, ↓reduceIte, Int.toNat_zero, Int.reduceToNat, Int.reduceLE, Nat.zero_add, Nat.le_refl, TT5, TT38, TT78]
      have e : icmpP l = ((((l.getD 0 0).toNat : Int), ((l.getD 1 0).toNat : Int), get32 l 4, l.drop 8), (0 : Int)) := by
        rw [icmpP, if_neg (by omega), if_neg (by simpa using h2)]
      refine ⟨by omega, by omega, ?_⟩
      refine ACall.intro (refGet_a l 4 4 (by omega) (by omega)) ?_
      simp only [ac_seq, ac_region, at_normal, ao_nil, ao_cons, as_call, as_store, as_move, as_binOp, as_fieldAddr, as_extract, as_len, u32A, boA, fr_false, List.contains_nil, Int.cast_ofNat_Int, Bool.and_self, hk_some, hopF, heapF, evT, lk, putT, lenF, binF, cellsF, ovw, argsF, okCell, constA, cellA, Value.oneCell', List.length_cons, List.length_nil, List.getElem?_cons_zero, List.getElem?_cons_succ, List.set_cons_zero, List.set_cons_succ, List.all_cons, List.all_nil, Option.map_some, Nat.reduceAdd, Nat.reduceEqDiff, Nat.reduceLeDiff, Nat.succ_ne_zero, ne_eq, not_false_eq_true, true_and, and_self, eq_self, ↓reduceIte, Int.reduceToNat, Nat.zero_add, TT3, TT22, TT38, TT78]
      refine ACall.intro (refCut_a l 8 _ (by omega) hl) ?_
      simp only [i64_in (n := (l.length : Int) - 8) (by omega) (by simp only [small] at hl; omega), ac_ret, ac_seq, ac_region, at_normal, ae_ret, ao_nil, ao_cons, as_store, as_move, as_assign, as_load, as_fieldAddr, as_extract, boA, fr_false, List.contains_nil, Bool.and_self, hk_some, hopF, heapF, evT, lk, putT, loadF, cellsF, ovw, okCell, resF, resL, constA, cellA, TK.isAgg, Value.oneCell', List.length_cons, List.length_nil, List.getElem?_cons_zero, List.getElem?_cons_succ, List.drop_zero, List.take_succ_cons, List.take_nil, List.set_cons_zero, List.set_cons_succ, List.all_cons, List.all_nil, Option.map_some, Option.bind_some, Nat.reduceAdd, Nat.reduceEqDiff, Nat.succ_ne_zero, ne_eq, not_false_eq_true, true_and, and_true, and_self, eq_self, ↓reduceIte, Nat.zero_add, Nat.le_refl, TT38, TT78]
      rw [e, show cutB l 8 ((l.length : Int) - 8) = l.drop 8 from cutB_all l (n := 8) (by omega)]
      rfl
set_option maxRecDepth 100000 in
theorem lives07_a : ASpec Try.prog 76 [] (boA true) := by
  refine ASpec.of_body TT_ok Try.mixed _ [.tmp 0] [] Try.func76 (by kernel_rfl) rfl rfl (by simp only [Try.ntmps76, List.length_nil]; omega) rfl (by kernel_rfl) ?_
  simp only [argE_nil, ac_seq, ac_region, at_normal, ao_nil, ao_cons, as_call, as_assign, boA, fr_false, List.contains_nil, evT, putT, argsF, constA, cellA, Option.map_some]
  refine ACall.intro (ask_a 1 2 [] (by omega) (by omega) (by simp)) ?_
  simp only [ao_cons, as_call, icmpA, u8A, u32A, evT, lk, putT, argsF, Option.map_some, eq_self, ↓reduceIte, Int.reduceMul, Int.reduceAdd]
  refine ACall.intro (icmpPut_a 8 0 _ [] (by omega) (by omega) (by omega) (by simp)) ?_
  simp only [ao_cons, as_call, as_buildSlice, hk_some, hopF, evT, lk, putT, cellsF, ovw, fillF, bytesOf, makeSF, partsF, argsF, constA, cellA, Value.oneCell', List.length_cons, List.length_nil, List.set_cons_zero, List.set_cons_succ, List.nil_append, List.cons_append, List.replicate_succ, List.replicate_zero, List.flatten_cons, List.flatten_nil, List.append_nil, Option.map_some, Nat.reduceAdd, Nat.reduceEqDiff, Nat.reduceLeDiff, true_and, and_self, eq_self, ↓reduceIte, Int.reduceLE, Nat.mul_one, Nat.zero_add, Nat.le_refl, TT5, TT38]
  refine ACall.intro (refSame_a _ _) ?_
  simp only [ac_ret, at_normal, ae_ret, ao_nil, ao_cons, as_assign, boA, evT, lk, putT, resF, resL, Option.map_some, Option.bind_some, true_and, and_true, eq_self, ↓reduceIte]
  rw [show (icmpB 8 0 65538 [] == [u8 8, u8 0, u8 247, u8 252, u8 0, u8 1, u8 0, u8 2]) = true by decide]
theorem icmpP_e (l : List UInt8) : IntKind.i64.wrap (icmpP l).2 = (icmpP l).2 := by
  unfold icmpP
  split
  · rfl
  · split <;> rfl
set_option maxRecDepth 100000 in
theorem icmpParses_a (l : List UInt8) : ASpec Try.prog 17 [.bs l] (boA true) := by
  have h3 : (l.take 300).length ≤ 300 := by simp; omega
  refine ASpec.of_body TT_ok Try.mixed _ [.tmp 2] [] Try.func17 (by kernel_rfl) rfl rfl (by simp only [Try.ntmps17, List.length_cons, List.length_nil]; omega) rfl (by kernel_rfl) ?_
  simp only [argE_cons, argE_nil, ac_seq, ac_region, at_normal, ao_nil, ao_cons, as_call, as_move, as_assign, boA, fr_false, List.contains_nil, evT, lk, putT, argsF, constA, cellA, Option.map_some, Nat.succ_ne_zero, eq_self, ↓reduceIte, Nat.zero_add]
  refine ACall.intro (few_a l 300) ?_
  generalize l.take 300 = m at *
  simp only [ac_seq, ac_region, at_normal, ao_nil, ao_cons, as_call, as_move, as_assign, fr_false, List.contains_nil, evT, lk, putT, argsF, Option.map_some, eq_self, ↓reduceIte]
  refine ACall.intro (icmpParse_a m (by simp only [small]; omega)) ?_
  simp only [ac_seq, ac_region, at_normal, ao_nil, ao_cons, as_call, as_alloc, as_store, as_move, as_assign, as_extract, icmpA, u8A, u32A, i64, fr_false, List.contains_nil, Bool.and_self, hk_some, hopF, heapF, evT, lk, putT, cellsF, ovw, argsF, okCell, Value.oneCell', List.length_cons, List.length_nil, List.getElem?_cons_zero, List.getElem?_cons_succ, List.set_cons_zero, List.set_cons_succ, List.nil_append, List.all_cons, List.all_nil, Option.map_some, Nat.reduceAdd, Nat.reduceEqDiff, Nat.succ_ne_zero, true_and, and_self, eq_self, ↓reduceIte, Nat.zero_add, Nat.le_refl, TT78]
  refine ACall.intro (refParse07_a m (by simp only [small]; omega)) ?_
  simp only [ac_seq, ac_region, at_normal, ao_nil, ao_cons, as_call, as_alloc, as_store, as_move, as_assign, as_load, as_extract, icmpA, u8A, u32A, i64, fr_false, List.contains_nil, Bool.and_self, hk_some, hopF, heapF, evT, lk, putT, loadF, cellsF, ovw, argsF, okCell, TK.isAgg, Value.oneCell', List.length_cons, List.length_nil, List.getElem?_cons_zero, List.getElem?_cons_succ, List.drop_zero, List.take_succ_cons, List.take_nil, List.set_cons_zero, List.set_cons_succ, List.nil_append, List.cons_append, List.all_cons, List.all_nil, Option.map_some, Nat.reduceAdd, Nat.reduceEqDiff, true_and, and_self, eq_self, ↓reduceIte, Nat.zero_add, Nat.le_refl, TT78]
  refine ACall.intro (refSame07_a ..) ?_
  simp only [ao_cons, ao_guard_t, st_at, pk_at, if_t, as_pick, as_call, as_move, as_binOp, boA, beq_self_eq_true, decide_true, Bool.and_self, hk_some, hopF, evT, lk, putT, GV, gdst, binF, argsF, Option.map_some, Nat.reduceEqDiff, true_and, eq_self, ↓reduceIte, TT3]
  refine ACall.intro lives07_a ?_
  simp only [ac_ret, at_normal, ae_ret, ao_nil, ao_cons, pk_at, if_t, as_pick, as_assign, boA, evT, lk, putT, resF, resL, Option.map_some, Option.bind_some, Nat.reduceEqDiff, and_true, and_self, eq_self, ↓reduceIte]
theorem icmpB_len (t c r : Int) (l : List UInt8) : (icmpB t c r l).length = 8 + l.length := by rw [icmpB_eq]; simp [length_put32]; omega
theorem get32_put (a b : List UInt8) (r : Int) (hr : 0 ≤ r ∧ r ≤ 4294967295) : get32 (a ++ (put32 [r] ++ b)) a.length = r := by
  have hb : thereB (a ++ (put32 [r] ++ b)).length a.length 4 = true := thereB_iff.2 (by simp [length_put32]; omega)
  rw [get32, if_pos hb]
  have e : ((a ++ (put32 [r] ++ b)).drop ((a.length : Int)).toNat).take 4 = put32 [r] := by
    rw [Int.toNat_natCast, List.drop_left, List.take_left' (by simp [length_put32])]
  rw [e]
  have h1 := u8_toNat (r / 16777216)
  have h2 := u8_toNat (r / 65536)
  have h3 := u8_toNat (r / 256)
  have h4 := u8_toNat r
  simp only [num, put32, List.foldl_cons, List.foldl_nil]
  omega
theorem icmpP_B (t c r : Int) (l : List UInt8) (ht : 0 ≤ t ∧ t ≤ 255) (hc : 0 ≤ c ∧ c ≤ 255) (hr : 0 ≤ r ∧ r ≤ 4294967295) (hl : l.length ≤ 1000) : icmpP (icmpB t c r l) = ((t, c, r, l), (0 : Int)) := by
  have hlen := icmpB_len t c r l
  have h1 : onesF (icmpB t c r l) = 65535 := by
    have := fills_law [u8 t, u8 c] (put32 [r] ++ l) (by simp)
    have e : [u8 t, u8 c] ++ ([0, 0] ++ (put32 [r] ++ l)) = [u8 t, u8 c, u8 0, u8 0] ++ put32 [r] ++ l := by simp; rfl
    rw [e] at this
    rw [icmpB_eq]
    exact this
  rw [icmpP, if_neg (by omega), if_neg (by simp [h1])]
  have e : icmpB t c r l = [u8 t, u8 c, u8 ((65535 - onesF ([u8 t, u8 c, u8 0, u8 0] ++ put32 [r] ++ l)) / 256), u8 (65535 - onesF ([u8 t, u8 c, u8 0, u8 0] ++ put32 [r] ++ l))] ++ (put32 [r] ++ l) := icmpB_eq t c r l
  rw [e]
  have g := get32_put [u8 t, u8 c, u8 ((65535 - onesF ([u8 t, u8 c, u8 0, u8 0] ++ put32 [r] ++ l)) / 256), u8 (65535 - onesF ([u8 t, u8 c, u8 0, u8 0] ++ put32 [r] ++ l))] l r hr
  have h2 := u8_toNat t
  have h3 := u8_toNat c
  simp only [List.length_cons, List.length_nil] at g
  have g' : get32 ([u8 t, u8 c, u8 ((65535 - onesF ([u8 t, u8 c, u8 0, u8 0] ++ put32 [r] ++ l)) / 256), u8 (65535 - onesF ([u8 t, u8 c, u8 0, u8 0] ++ put32 [r] ++ l))] ++ (put32 [r] ++ l)) 4 = r := g
  rw [g']
  simp only [List.cons_append, List.nil_append, List.getD_cons_zero, List.getD_cons_succ, List.drop_succ_cons, List.drop_zero, put32, h2, h3]
  rw [show t % 256 = t by omega, show c % 256 = c by omega]
set_option maxRecDepth 100000 in
theorem icmpPuts_a (t c r : Int) (l : List UInt8) (ht : 0 ≤ t ∧ t ≤ 255) (hc : 0 ≤ c ∧ c ≤ 255) (hr : 0 ≤ r ∧ r ≤ 4294967295) : ASpec Try.prog 18 [icmpA t c r l] (boA true) := by
  have h3 : (l.take 200).length ≤ 200 := by simp; omega
  refine ASpec.of_body TT_ok Try.mixed _ [.tmp 2] [] Try.func18 (by kernel_rfl) rfl rfl (by simp only [Try.ntmps18, List.length_cons, List.length_nil]; omega) rfl (by kernel_rfl) ?_
  simp only [argE_cons, argE_nil, ac_seq, ac_region, at_normal, ao_nil, ao_cons, as_call, as_box, as_assign, as_load, icmpA, u8A, u32A, boA, fr_false, List.contains_nil, hk_some, hopF, heapF, evT, lk, putT, loadF, cellsF, argsF, constA, cellA, TK.isAgg, List.length_cons, List.length_nil, List.getElem?_cons_zero, List.drop_zero, List.take_succ_cons, List.take_nil, List.nil_append, Option.map_some, Nat.reduceAdd, Nat.reduceEqDiff, true_and, eq_self, ↓reduceIte, Nat.zero_add, Nat.le_refl, TT78]
  refine ACall.intro (refFew07_a t c r l) ?_
  generalize l.take 200 = m at *
  simp only [ac_seq, ac_region, at_normal, ao_nil, ao_cons, as_call, as_store, as_load, icmpA, u8A, u32A, fr_false, List.contains_nil, Bool.and_self, hk_some, hopF, heapF, evT, lk, putT, loadF, cellsF, ovw, argsF, okCell, TK.isAgg, Value.oneCell', List.length_cons, List.length_nil, List.getElem?_cons_zero, List.drop_zero, List.take_succ_cons, List.take_nil, List.set_cons_zero, List.set_cons_succ, List.all_cons, List.all_nil, Option.map_some, Nat.reduceAdd, Nat.reduceEqDiff, true_and, and_self, eq_self, ↓reduceIte, Nat.zero_add, Nat.le_refl, TT78]
  refine ACall.intro (icmpPut_a t c r m ht hc hr (by omega)) ?_
  simp only [ac_seq, ac_region, at_normal, ao_nil, ao_cons, as_call, as_move, as_assign, fr_false, List.contains_nil, evT, lk, putT, argsF, Option.map_some, eq_self, ↓reduceIte]
  refine ACall.intro (icmpParse_a _ (by have := icmpB_len t c r m; simp only [small]; omega)) ?_
  simp only [icmpP_B t c r m ht hc hr (by omega), ac_seq, ac_region, at_normal, ao_nil, ao_cons, as_call, as_alloc, as_store, as_move, as_assign, as_load, as_extract, icmpA, u8A, u32A, i64, fr_false, List.contains_nil, Bool.and_self, hk_some, hopF, heapF, evT, lk, putT, loadF, cellsF, ovw, argsF, okCell, TK.isAgg, Value.oneCell', List.length_cons, List.length_nil, List.getElem?_cons_zero, List.getElem?_cons_succ, List.drop_zero, List.take_succ_cons, List.take_nil, List.set_cons_zero, List.set_cons_succ, List.nil_append, List.cons_append, List.all_cons, List.all_nil, Option.map_some, Nat.reduceAdd, Nat.reduceEqDiff, true_and, and_self, eq_self, ↓reduceIte, Nat.zero_add, Nat.le_refl, TT78]
  refine ACall.intro (refPut07_a t c r m ht hc hr (by omega)) ?_
  simp only [ao_cons, as_call, evT, lk, putT, argsF, Option.map_some, Nat.reduceEqDiff, eq_self, ↓reduceIte]
  refine ACall.intro (refSame_a _ _) ?_
  simp only [ao_cons, ao_guard_t, st_at, pk_at, if_t, as_pick, as_call, as_move, as_binOp, as_load, boA, beq_self_eq_true, decide_true, hk_some, hopF, evT, lk, putT, GV, gdst, binF, loadF, argsF, constA, cellA, TK.isAgg, List.length_cons, List.length_nil, List.getElem?_cons_zero, List.getElem?_cons_succ, List.drop_zero, List.take_succ_cons, List.take_nil, Option.map_some, Nat.reduceAdd, Nat.reduceEqDiff, true_and, eq_self, ↓reduceIte, Nat.zero_add, Nat.le_refl, TT61, TT78]
  refine ACall.intro (refSame07_a ..) ?_
  simp only [ao_cons, ao_guard_t, st_at, pk_at, if_t, as_pick, as_call, as_move, boA, beq_self_eq_true, decide_true, Bool.and_self, evT, lk, putT, GV, gdst, argsF, Nat.reduceEqDiff, eq_self, ↓reduceIte]
  refine ACall.intro lives07_a ?_
  simp only [ac_ret, at_normal, ae_ret, ao_nil, ao_cons, pk_at, if_t, as_pick, as_assign, boA, evT, lk, putT, resF, resL, Option.map_some, Option.bind_some, Nat.reduceEqDiff, and_true, and_self, eq_self, ↓reduceIte]
set_option maxRecDepth 100000 in
theorem icmpEchoes_a (id seq : Int) (l : List UInt8) (t c r : Int) (k : List UInt8) (hi : 0 ≤ id ∧ id ≤ 65535) (hs : 0 ≤ seq ∧ seq ≤ 65535) (hr : 0 ≤ r ∧ r ≤ 4294967295) : ASpec Try.prog 9 [u16A id, u16A seq, .bs l, icmpA t c r k] (boA true) := by
  have e1 : IntKind.u32.wrap id = id := u32_in (by omega) (by omega)
  have e2 : IntKind.u32.wrap seq = seq := u32_in (by omega) (by omega)
  have e3 : IntKind.u32.wrap (id * 65536) = id * 65536 := u32_in (by omega) (by omega)
  have e4 : IntKind.u32.wrap (id * 65536 + seq) = id * 65536 + seq := u32_in (by omega) (by omega)
  have h3 : (l.take 200).length ≤ 200 := by simp; omega
  have h4 : (k.take 200).length ≤ 200 := by simp; omega
  refine ASpec.of_body TT_ok Try.mixed _ [.tmp 8] [] Try.func9 (by kernel_rfl) rfl rfl (by simp only [Try.ntmps9, List.length_cons, List.length_nil]; omega) rfl (by kernel_rfl) ?_
  simp only [argE_cons, argE_nil, ac_seq, ac_region, at_normal, ao_nil, ao_cons, as_call, as_box, as_move, as_assign, icmpA, u8A, u16A, u32A, boA, fr_false, List.contains_nil, heapF, evT, lk, putT, cellsF, argsF, constA, cellA, List.length_nil, List.nil_append, Option.map_some, Nat.reduceAdd, Nat.reduceEqDiff, true_and, eq_self, reduceCtorEq, ↓reduceIte, Nat.zero_add]
  refine ACall.intro (few_a l 200) ?_
  simp only [ao_cons, as_call, as_load, hk_some, hopF, evT, lk, putT, loadF, argsF, TK.isAgg, List.length_cons, List.length_nil, List.getElem?_cons_zero, List.drop_zero, List.take_succ_cons, List.take_nil, Option.map_some, Nat.reduceAdd, Nat.reduceEqDiff, true_and, eq_self, ↓reduceIte, Nat.zero_add, Nat.le_refl, TT78]
  refine ACall.intro (refFew07_a t c r k) ?_
  generalize l.take 200 = m at *
  generalize k.take 200 = n at *
  simp only [ac_seq, ac_region, at_normal, ao_nil, ao_cons, as_call, as_store, as_move, as_assign, icmpA, u8A, u32A, fr_false, List.contains_nil, Bool.and_self, heapF, evT, lk, putT, cellsF, ovw, argsF, okCell, Value.oneCell', List.length_cons, List.length_nil, List.getElem?_cons_zero, List.set_cons_zero, List.set_cons_succ, List.all_cons, List.all_nil, Option.map_some, Nat.reduceAdd, Nat.reduceEqDiff, Nat.succ_ne_zero, true_and, and_self, eq_self, reduceCtorEq, ↓reduceIte, Nat.zero_add, Nat.le_refl, TT78]
  refine ACall.intro (ask_a id seq m hi hs (by simp only [small]; omega)) ?_
  simp only [e1, e2, e3, e4, ac_seq, ac_region, at_normal, ao_nil, ao_cons, as_call, as_alloc, as_store, as_move, as_binOp, as_convert, as_load, as_build, icmpA, u8A, u32A, fr_false, List.contains_nil, Bool.and_self, hk_some, hopF, heapF, evT, lk, putT, binF, convF, loadF, cellsF, ovw, fillF, buildF, partsF, argsF, okCell, constA, cellA, TK.isAgg, Value.oneCell', List.length_cons, List.length_nil, List.getElem?_cons_zero, List.getElem?_cons_succ, List.drop_zero, List.take_succ_cons, List.take_nil, List.set_cons_zero, List.set_cons_succ, List.nil_append, List.cons_append, List.all_cons, List.all_nil, Option.map_some, Nat.reduceAdd, Nat.reduceEqDiff, Nat.reduceLeDiff, Nat.succ_ne_zero, true_and, and_self, eq_self, reduceCtorEq, ↓reduceIte, Nat.zero_add, Nat.le_refl, TT22, TT23, TT78]
  refine ACall.intro (refSame07_a ..) ?_
  simp only [ac_skip, ac_seq, ac_cond, ac_region, at_normal, ao_nil, ao_cons, if_f, as_call, as_unOp, as_load, boA, fr_false, List.contains_nil, beq_self_eq_true, decide_true, Bool.and_self, hk_some, hopF, evT, lk, putT, unF, loadF, argsF, TK.isAgg, List.length_cons, List.length_nil, List.getElem?_cons_zero, List.getElem?_cons_succ, List.drop_zero, List.take_succ_cons, List.take_nil, Option.map_some, Nat.reduceAdd, Nat.reduceEqDiff, true_and, eq_self, Bool.not_true, ↓reduceIte, Nat.zero_add, Nat.le_refl, TT78]
  refine ACall.intro (answer_a _ _ _ m (by simp only [small]; omega)) ?_
  simp only [ac_seq, ac_region, at_normal, ao_nil, ao_cons, as_call, as_alloc, as_store, as_load, icmpA, u8A, u32A, fr_false, List.contains_nil, Bool.and_self, hk_some, hopF, heapF, evT, lk, putT, loadF, cellsF, ovw, argsF, okCell, TK.isAgg, Value.oneCell', List.length_cons, List.length_nil, List.getElem?_cons_zero, List.getElem?_cons_succ, List.drop_zero, List.take_succ_cons, List.take_nil, List.set_cons_zero, List.set_cons_succ, List.nil_append, List.cons_append, List.all_cons, List.all_nil, Option.map_some, Nat.reduceAdd, Nat.reduceEqDiff, true_and, and_self, eq_self, ↓reduceIte, Nat.zero_add, Nat.le_refl, TT78]
  refine ACall.intro (ident_a _ _ _ m (by omega)) ?_
  simp only [ac_seq, ac_region, at_normal, ao_nil, ao_cons, as_call, as_move, as_assign, as_load, as_extract, u16A, fr_false, List.contains_nil, hk_some, hopF, evT, lk, putT, loadF, argsF, TK.isAgg, List.length_cons, List.length_nil, List.getElem?_cons_zero, List.getElem?_cons_succ, List.drop_zero, List.take_succ_cons, List.take_nil, Option.map_some, Nat.reduceAdd, Nat.reduceEqDiff, true_and, eq_self, ↓reduceIte, Nat.zero_add, Nat.le_refl, TT78]
  refine ACall.intro (ident_a _ _ _ n hr) ?_
  have q1 : (id * 65536 + seq) / 65536 = id := by omega
  have q2 : (id * 65536 + seq) % 65536 = seq := by omega
  have q3 : IntKind.u32.wrap (r / 65536) = r / 65536 := u32_in (by omega) (by omega)
  have q4 : IntKind.u32.wrap (r % 65536) = r % 65536 := u32_in (by omega) (by omega)
  have q5 : IntKind.u32.wrap (r / 65536 * 65536) = r / 65536 * 65536 := u32_in (by omega) (by omega)
  have q6 : r / 65536 * 65536 + r % 65536 = r := by omega
  have q7 : IntKind.u32.wrap r = r := u32_in (by omega) (by omega)
  simp only [q1, q2, ac_seq, ac_region, at_normal, ao_nil, ao_cons, ao_guard_t, st_at, pk_at, if_t, as_pick, as_call, as_alloc, as_store, as_move, as_assign, as_binOp, as_load, as_fieldAddr, as_extract, u16A, fr_false, List.contains_nil, decide_true, Bool.and_self, hk_some, hopF, heapF, evT, lk, putT, GV, gdst, binF, loadF, cellsF, ovw, argsF, okCell, constA, cellA, TK.isAgg, Value.oneCell', List.length_cons, List.length_nil, List.getElem?_cons_zero, List.getElem?_cons_succ, List.drop_zero, List.drop_succ_cons, List.take_succ_cons, List.take_nil, List.set_cons_zero, List.set_cons_succ, List.nil_append, List.cons_append, List.all_cons, List.all_nil, Option.map_some, Nat.reduceAdd, Nat.reduceEqDiff, Nat.reduceLeDiff, Nat.succ_ne_zero, ne_eq, not_false_eq_true, true_and, and_self, eq_self, reduceCtorEq, Bool.false_eq_true, ↓reduceIte, Nat.zero_add, Nat.add_zero, Nat.le_refl, TT5, TT23, TT38, TT78]
  refine ACall.intro (refSame_a _ _) ?_
  simp only [q3, q4, q5, q6, q7, ao_cons, ao_guard_t, st_at, pk_at, if_t, as_pick, as_call, as_move, as_binOp, as_convert, as_load, as_fieldAddr, boA, beq_self_eq_true, decide_true, hk_some, hopF, evT, lk, putT, GV, gdst, binF, convF, loadF, argsF, constA, cellA, TK.isAgg, List.length_cons, List.length_nil, List.getElem?_cons_zero, List.getElem?_cons_succ, List.drop_zero, List.drop_succ_cons, List.take_succ_cons, List.take_nil, Option.map_some, Nat.reduceAdd, Nat.reduceEqDiff, Nat.succ_ne_zero, ne_eq, not_false_eq_true, true_and, eq_self, Bool.false_eq_true, ↓reduceIte, Nat.zero_add, Nat.le_refl, TT22, TT23, TT78]
  refine ACall.intro (answer_a t c r n (by simp only [small]; omega)) ?_
  simp only [ao_guard_t, st_at, if_t, as_call, as_load, icmpA, u8A, u32A, hk_some, hopF, evT, lk, putT, GV, gdst, loadF, argsF, TK.isAgg, List.length_cons, List.length_nil, List.getElem?_cons_zero, List.getElem?_cons_succ, List.drop_zero, List.take_succ_cons, List.take_nil, Option.map_some, Nat.reduceAdd, Nat.reduceEqDiff, true_and, eq_self, ↓reduceIte, Nat.zero_add, Nat.le_refl, TT78]
  refine ACall.intro (refSame07_a ..) ?_
  simp only [ao_cons, ao_guard_t, st_at, pk_at, if_t, as_pick, as_call, as_move, boA, beq_self_eq_true, decide_true, Bool.and_self, evT, lk, putT, GV, gdst, argsF, Nat.reduceEqDiff, eq_self, ↓reduceIte]
  refine ACall.intro lives07_a ?_
  simp only [ac_ret, at_normal, ae_ret, ao_nil, ao_cons, pk_at, if_t, as_pick, as_assign, boA, evT, lk, putT, resF, resL, Option.map_some, Option.bind_some, Nat.reduceEqDiff, and_true, and_self, eq_self, ↓reduceIte]
set_option maxRecDepth 100000 in
theorem icmpFails_a (t c r : Int) (l : List UInt8) (t' c' r' : Int) (k : List UInt8) : ASpec Try.prog 10 [u8A t, u8A c, u32A r, .bs l, icmpA t' c' r' k] (boA true) := by
  have h3 : (l.take 200).length ≤ 200 := by simp; omega
  refine ASpec.of_body TT_ok Try.mixed _ [.tmp 10] [] Try.func10 (by kernel_rfl) rfl rfl (by simp only [Try.ntmps10, List.length_cons, List.length_nil]; omega) rfl (by kernel_rfl) ?_
  simp only [argE_cons, argE_nil, ac_seq, ac_region, at_normal, ao_nil, ao_cons, as_call, as_box, as_move, as_assign, icmpA, u8A, u32A, boA, fr_false, List.contains_nil, heapF, evT, lk, putT, cellsF, argsF, constA, cellA, List.length_nil, List.nil_append, Option.map_some, Nat.reduceAdd, Nat.reduceEqDiff, true_and, eq_self, reduceCtorEq, ↓reduceIte, Nat.zero_add]
  refine ACall.intro (few_a l 200) ?_
  generalize l.take 200 = m at *
  simp only [ac_seq, ac_region, at_normal, ao_nil, ao_cons, as_call, as_move, as_assign, fr_false, List.contains_nil, evT, lk, putT, argsF, Option.map_some, Nat.reduceEqDiff, Nat.succ_ne_zero, eq_self, reduceCtorEq, ↓reduceIte]
  refine ACall.intro (failed_a t c r m (by simp only [small]; omega)) ?_
  simp only [ac_seq, ac_region, at_normal, ao_nil, ao_cons, as_call, as_alloc, as_store, as_move, icmpA, u8A, u32A, fr_false, List.contains_nil, Bool.and_self, heapF, evT, lk, putT, cellsF, ovw, argsF, okCell, constA, cellA, Value.oneCell', List.length_cons, List.length_nil, List.getElem?_cons_zero, List.getElem?_cons_succ, List.set_cons_zero, List.set_cons_succ, List.nil_append, List.cons_append, List.all_cons, List.all_nil, Option.map_some, Nat.reduceAdd, Nat.reduceEqDiff, Nat.succ_ne_zero, true_and, and_self, eq_self, reduceCtorEq, ↓reduceIte, Nat.zero_add, Nat.le_refl, TT78]
  refine ACall.intro (few_a m 28) ?_
  simp only [ac_seq, ac_region, at_normal, ao_nil, ao_cons, as_call, as_alloc, as_store, as_load, as_build, fr_false, List.contains_nil, Bool.and_self, hk_some, hopF, heapF, evT, lk, putT, loadF, cellsF, ovw, fillF, buildF, partsF, argsF, okCell, TK.isAgg, Value.oneCell', List.length_cons, List.length_nil, List.getElem?_cons_zero, List.getElem?_cons_succ, List.drop_zero, List.take_succ_cons, List.take_nil, List.set_cons_zero, List.set_cons_succ, List.nil_append, List.cons_append, List.all_cons, List.all_nil, Option.map_some, Nat.reduceAdd, Nat.reduceEqDiff, Nat.reduceLeDiff, true_and, and_self, eq_self, ↓reduceIte, Nat.zero_add, Nat.le_refl, TT78]
  refine ACall.intro (refSame07_a ..) ?_
  simp only [ao_cons, ao_guard_t, st_at, if_t, as_call, as_move, as_load, boA, beq_self_eq_true, decide_true, Bool.and_self, hk_some, hopF, evT, lk, putT, GV, gdst, loadF, argsF, TK.isAgg, List.length_cons, List.length_nil, List.getElem?_cons_zero, List.drop_zero, List.take_succ_cons, List.take_nil, Option.map_some, Nat.reduceAdd, Nat.reduceEqDiff, true_and, eq_self, ↓reduceIte, Nat.zero_add, Nat.le_refl, TT78]
  refine ACall.intro (about_a t' c' r' k) ?_
  rcases (show t' = 3 ∨ t' = 11 ∨ t' = 12 ∨ (t' ≠ 3 ∧ t' ≠ 11 ∧ t' ≠ 12) by omega) with rfl | rfl | rfl | ⟨c1, c2, c3⟩
  · simp only [ao_cons, ao_guard_t, ao_guard_f, st_at, sk_at, pk_at, if_t, as_pick, as_call, as_move, as_binOp, as_load, as_fieldAddr, boA, Bool.or_false, beq_self_eq_true, decide_true, decide_false, Int.reduceEq, hk_some, hopF, evT, lk, putT, GV, gdst, binF, loadF, argsF, constA, cellA, TK.isAgg, List.getElem?_cons_zero, List.drop_zero, Option.map_some, Nat.reduceEqDiff, Nat.succ_ne_zero, ne_eq, not_false_eq_true, true_and, eq_self, Bool.false_eq_true, ↓reduceIte, Nat.add_zero, TT4, TT5, TT78]
    refine ACall.intro lives07_a ?_
    simp only [ac_ret, at_normal, ae_ret, ao_nil, ao_cons, pk_at, if_t, as_pick, as_assign, boA, evT, lk, putT, resF, resL, Option.map_some, Option.bind_some, Nat.reduceEqDiff, and_true, and_self, eq_self, ↓reduceIte]
  · simp only [ao_cons, ao_guard_t, ao_guard_f, st_at, sk_at, pk_at, if_t, if_f, as_pick, as_call, as_move, as_binOp, as_load, as_fieldAddr, boA, Bool.or_false, beq_self_eq_true, Bool.or_true, decide_true, decide_false, Int.reduceEq, hk_some, hopF, evT, lk, putT, GV, gdst, binF, loadF, argsF, constA, cellA, TK.isAgg, List.getElem?_cons_zero, List.drop_zero, Option.map_some, Nat.reduceEqDiff, Nat.succ_ne_zero, ne_eq, not_false_eq_true, true_and, eq_self, Bool.false_eq_true, ↓reduceIte, Nat.add_zero, TT4, TT5, TT78]
    refine ACall.intro lives07_a ?_
    simp only [ac_ret, at_normal, ae_ret, ao_nil, ao_cons, pk_at, if_t, as_pick, as_assign, boA, evT, lk, putT, resF, resL, Option.map_some, Option.bind_some, Nat.reduceEqDiff, and_true, and_self, eq_self, ↓reduceIte]
  · simp only [ao_cons, ao_guard_t, ao_guard_f, st_at, pk_at, if_t, if_f, as_pick, as_call, as_move, as_binOp, as_load, as_fieldAddr, boA, beq_self_eq_true, Bool.or_true, decide_true, decide_false, Int.reduceEq, hk_some, hopF, evT, lk, putT, GV, gdst, binF, loadF, argsF, constA, cellA, TK.isAgg, List.getElem?_cons_zero, List.drop_zero, Option.map_some, Nat.reduceEqDiff, Nat.succ_ne_zero, ne_eq, not_false_eq_true, true_and, eq_self, Bool.false_eq_true, ↓reduceIte, Nat.add_zero, TT4, TT5, TT78]
    refine ACall.intro lives07_a ?_
    simp only [ac_ret, at_normal, ae_ret, ao_nil, ao_cons, pk_at, if_t, as_pick, as_assign, boA, evT, lk, putT, resF, resL, Option.map_some, Option.bind_some, Nat.reduceEqDiff, and_true, and_self, eq_self, ↓reduceIte]
  · simp only [c1, c2, c3, ao_cons, ao_guard_t, ao_guard_f, st_at, pk_at, if_t, if_f, as_pick, as_call, as_move, as_binOp, as_load, as_fieldAddr, boA, Bool.or_false, beq_self_eq_true, decide_false, hk_some, hopF, evT, lk, putT, GV, gdst, binF, loadF, argsF, constA, cellA, TK.isAgg, List.getElem?_cons_zero, List.drop_zero, Option.map_some, Nat.reduceEqDiff, Nat.succ_ne_zero, ne_eq, not_false_eq_true, true_and, eq_self, Bool.false_eq_true, ↓reduceIte, Nat.add_zero, TT4, TT5, TT78]
    refine ACall.intro lives07_a ?_
    simp only [ac_ret, at_normal, ae_ret, ao_nil, ao_cons, pk_at, if_t, as_pick, as_assign, boA, evT, lk, putT, resF, resL, Option.map_some, Option.bind_some, Nat.reduceEqDiff, and_true, and_self, eq_self, ↓reduceIte]
end Go.Proofs.Ytdbaehpfjpghfaa
