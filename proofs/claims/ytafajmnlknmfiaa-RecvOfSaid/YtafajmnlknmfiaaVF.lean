/- The statements of ipv4: their own texts. -/
import Derived.Test.YtafajmnlknmfiaaVD
import Derived.Test.YtafajmnlknmfiaaVE
namespace Go.Proofs.Ytafajmnlknmfiaa
set_option linter.unusedSimpArgs false
set_option linter.unusedVariables false
open Go.RowKit

theorem ipB_len (p : PktN) : (ipB p).length = 20 + p.opts.length + p.data.length := by
  have : (topB p).length = 20 + p.opts.length := ipHeadB_len _ _
  rw [ipB, List.length_append, this]
theorem ipParse_B (p : PktN) (l : List UInt8) (hp : p.ok) (hm : pktMay p = true) (hl : l.length ≤ 100000) : ASpec Try.prog 84 [.bs (ipB p ++ l)] (.tup [pktA p, i64 0]) := by
  have hm' := hm
  simp only [pktMay, Bool.and_eq_true, decide_eq_true_eq] at hm'
  have h1 := ipB_len p
  have := ipParse_a (ipB p ++ l) (by simp; omega)
  rw [ipP_B p l hp hm] at this
  exact this
theorem ipParse_B0 (p : PktN) (hp : p.ok) (hm : pktMay p = true) : ASpec Try.prog 84 [.bs (ipB p)] (.tup [pktA p, i64 0]) := by
  have := ipParse_B p [] hp hm (by simp)
  rwa [List.append_nil] at this
theorem ipP_e (b : List UInt8) : IntKind.i64.wrap (ipP b).2 = (ipP b).2 := by
  have h := ipHd_cases b
  unfold ipP
  split
  · rfl
  · exact i64_in (by simp only; omega) (by simp only; omega)
theorem get_two (b : List UInt8) (k : Int) (h0 : 0 ≤ k) : (if thereB b.length k 2 then (num ((b.drop k.toNat).take 2) : Int) else 0) = get16 b k := by
  unfold get16
  split
  · rename_i h
    have ht := thereB_iff.1 h
    have e := (split16 (l := b) (n := k.toNat) (by omega)).2
    have : ((num (List.take 2 (List.drop k.toNat b)) % 65536 : Nat) : Int) = (num (List.take 2 (List.drop k.toNat b)) : Int) % 65536 := by simp
    rw [this]; omega
  · rfl
theorem refSame06_mf (t : PktN) (b : Bool) (h : t.mf = b) : ASpec Try.prog 67 [pktA t, pktA { t with mf := b }] (boA true) := by
  subst h
  exact refSame06_self t
def pkt6 : PktN := ⟨0, 0, false, false, 0, 9, 17, 1, 2, [], [u8 7]⟩
theorem pkt6_ok : pkt6.ok := by constructor <;> simp [pkt6]
set_option maxRecDepth 100000 in
theorem lives06_a : ASpec Try.prog 86 [] (boA true) := by
  have hl : ((ipB pkt6).length : Int) = 21 := by rw [ipB_len]; rfl
  have h0 : byteN (ipB pkt6) 0 = 69 := rfl
  refine ASpec.of_body TT_ok Try.mixed _ [.tmp 0] ([], []) Try.func86 (by kernel_rfl) rfl rfl (by simp only [Try.ntmps86, List.length_nil]; omega) rfl (by kernel_rfl) ?_
  simp only [argE_nil, ac_seq, ac_region, at_normal, ao_nil, ao_cons, as_call, as_assign, as_build, as_buildSlice, boA, fr_false, List.contains_nil, beq_self_eq_true, hk_some, hopG, rd, aopsD, frzW, frzR, constT, evT, lk, putT, cellsF, ovw, fillF, buildF, bytesOf, makeSF, partsF, argsF, constA, cellA, Value.oneCell', List.length_cons, List.length_nil, List.getElem?_cons_zero, List.getElem?_cons_succ, List.set_cons_zero, List.set_cons_succ, List.replicate_succ, List.replicate_zero, List.flatten_cons, List.flatten_nil, List.append_nil, Option.map_some, Nat.reduceAdd, Nat.reduceSub, Nat.reduceLeDiff, true_and, and_self, eq_self, Bool.false_eq_true, ↓reduceIte, Int.reduceLE, Nat.mul_one, Nat.zero_add, Nat.le_refl, TT5, TT38, TT92]
  refine ACall.intro (ipPut_a pkt6 pkt6_ok rfl) ?_
  simp only [ac_seq, ac_region, at_normal, ao_nil, ao_cons, as_call, as_move, as_assign, as_extract, i64, fr_false, List.contains_nil, beq_self_eq_true, hk_some, hopG, rd, aopsD, frzW, frzR, evT, lk, putT, argsF, List.getElem?_cons_zero, List.getElem?_cons_succ, Option.map_some, Nat.reduceSub, Nat.reduceEqDiff, Nat.reduceLeDiff, true_and, eq_self, Bool.false_eq_true, ↓reduceIte]
  refine ACall.intro (ipParse_B0 pkt6 pkt6_ok rfl) ?_
  generalize hB : ipB pkt6 = B at *
  simp only [hl, getD_byteN, h0, pkt6, ac_ret, ac_seq, ac_region, at_normal, ae_ret, ao_nil, ao_cons, ao_guard_t, st_at, pk_at, if_t, as_pick, as_alloc, as_store, as_move, as_assign, as_binOp, as_load, as_fieldAddr, as_indexAddr, as_extract, as_len, pktL, pktA, u8A, u16A, u32A, i64, boA, fr_false, List.contains_nil, beq_self_eq_true, Int.cast_ofNat_Int, decide_true, Bool.and_self, hk_some, hopG, hopF, rd, aopsD, heapF, constT, evT, lk, putT, GV, gdst, lenF, binF, loadF, cellsF, ovw, okCell, resF, resL, constA, cellA, TK.isAgg, Value.oneCell', List.length_cons, List.length_nil, List.getElem?_cons_zero, List.getElem?_cons_succ, List.drop_zero, List.drop_succ_cons, List.set_cons_zero, List.set_cons_succ, List.nil_append, List.all_cons, List.all_nil, Option.map_some, Option.bind_some, Nat.reduceAdd, Nat.reduceSub, Nat.reduceEqDiff, Nat.reduceLeDiff, Nat.succ_ne_zero, ne_eq, not_false_eq_true, and_true, and_self, eq_self, Bool.false_eq_true, ↓reduceIte, Int.toNat_zero, Int.reduceLT, Int.reduceLE, Nat.zero_add, Nat.le_refl, TT3, TT5, TT38, TT61, TT92]
set_option maxRecDepth 100000 in
theorem ipv4Parses_a (l : List UInt8) : ASpec Try.prog 18 [.bs l] (boA true) := by
  have h3 : (l.take 400).length ≤ 400 := by simp; omega
  refine ASpec.of_body TT_ok Try.mixed _ [.tmp 2] ([], []) Try.func18 (by kernel_rfl) rfl rfl (by simp only [Try.ntmps18, List.length_cons, List.length_nil]; omega) rfl (by kernel_rfl) ?_
  simp only [argE_cons, argE_nil, ac_seq, ac_region, at_normal, ao_nil, ao_cons, as_call, as_move, as_assign, boA, fr_false, List.contains_nil, beq_self_eq_true, rd, aopsD, frzW, frzR, constT, evT, lk, putT, argsF, constA, cellA, Option.map_some, Nat.reduceSub, Nat.reduceLeDiff, Nat.succ_ne_zero, eq_self, Bool.false_eq_true, ↓reduceIte, Nat.zero_add]
  refine ACall.intro (few_a l 400) ?_
  generalize l.take 400 = m at *
  simp only [ac_seq, ac_region, at_normal, ao_nil, ao_cons, as_call, as_move, as_assign, fr_false, List.contains_nil, beq_self_eq_true, rd, aopsD, frzW, frzR, evT, lk, putT, argsF, Option.map_some, Nat.reduceSub, Nat.reduceLeDiff, eq_self, Bool.false_eq_true, ↓reduceIte]
  refine ACall.intro (ipParse_a m (by omega)) ?_
  simp only [ac_seq, ac_region, at_normal, ao_nil, ao_cons, as_call, as_alloc, as_store, as_move, as_assign, as_extract, pktL, pktA, u8A, u16A, u32A, i64, boA, fr_false, List.contains_nil, beq_self_eq_true, Bool.and_self, hk_some, hopG, rd, aopsD, heapF, frzW, frzR, evT, lk, putT, cellsF, ovw, argsF, okCell, Value.oneCell', List.length_cons, List.length_nil, List.getElem?_cons_zero, List.getElem?_cons_succ, List.set_cons_zero, List.set_cons_succ, List.nil_append, List.all_cons, List.all_nil, Option.map_some, Nat.reduceAdd, Nat.reduceSub, Nat.reduceEqDiff, Nat.reduceLeDiff, Nat.succ_ne_zero, true_and, and_self, eq_self, Bool.false_eq_true, ↓reduceIte, Nat.zero_add, Nat.le_refl, TT92]
  refine ACall.intro (refParse06_a m (by omega)) ?_
  simp only [ac_seq, ac_region, at_normal, ao_nil, ao_cons, as_call, as_alloc, as_store, as_move, as_assign, as_load, as_extract, pktL, pktA, u8A, u16A, u32A, i64, boA, fr_false, List.contains_nil, beq_self_eq_true, Bool.and_self, hk_some, hopG, rd, aopsD, heapF, frzW, frzR, evT, lk, putT, loadF, cellsF, ovw, argsF, okCell, TK.isAgg, Value.oneCell', List.length_cons, List.length_nil, List.getElem?_cons_zero, List.getElem?_cons_succ, List.drop_zero, List.take_succ_cons, List.take_nil, List.set_cons_zero, List.set_cons_succ, List.nil_append, List.cons_append, List.all_cons, List.all_nil, Option.map_some, Nat.reduceAdd, Nat.reduceSub, Nat.reduceEqDiff, Nat.reduceLeDiff, true_and, and_self, eq_self, Bool.false_eq_true, ↓reduceIte, Nat.zero_add, Nat.le_refl, TT92]
  refine ACall.intro (refSame06_self (ipP m).1) ?_
  simp only [ao_cons, ao_guard_t, st_at, pk_at, if_t, as_pick, as_call, as_move, as_binOp, boA, beq_self_eq_true, decide_true, hk_some, hopG, rd, frzW, frzR, evT, lk, putT, GV, gdst, binF, argsF, Option.map_some, Nat.reduceSub, Nat.reduceEqDiff, true_and, eq_self, ↓reduceIte, TT3]
  refine ACall.intro lives06_a ?_
  simp only [ac_ret, at_normal, ae_ret, ao_nil, ao_cons, pk_at, if_t, as_pick, as_assign, boA, beq_self_eq_true, rd, evT, lk, putT, resF, resL, Option.map_some, Option.bind_some, Nat.reduceSub, Nat.reduceEqDiff, and_true, and_self, eq_self, ↓reduceIte]
set_option maxRecDepth 100000 in
theorem ipv4Puts_a (s : PktN) (l : List UInt8) (hs : s.ok) : ASpec Try.prog 20 [pktA s, .bs l] (boA true) := by
  have h3 : (l.take 40).length ≤ 40 := by simp; omega
  obtain ⟨t, ht⟩ : ∃ t : PktN, t = { s with opts := s.opts.take 50, data := s.data.take 300 } := ⟨_, rfl⟩
  have hto : t.ok := by subst ht; obtain ⟨k1, k2, k3, k4, k5, k6, k7⟩ := hs; constructor <;> assumption
  have l1 : t.opts.length ≤ 50 := by subst ht; simp; omega
  have l2 : t.data.length ≤ 300 := by subst ht; simp; omega
  have e1 : IntKind.i64.wrap (20 + (t.opts.length : Int)) = 20 + (t.opts.length : Int) := i64_in (by omega) (by omega)
  have e2 : decide (0 < t.off) = !decide (t.off = 0) := by
    have := hto.off
    rw [Bool.eq_iff_iff]; simp; omega
  have hlen := ipB_len t
  refine ASpec.of_body TT_ok Try.mixed _ [.tmp 4] ([], []) Try.func20 (by kernel_rfl) rfl rfl (by simp only [Try.ntmps20, List.length_cons, List.length_nil]; omega) rfl (by kernel_rfl) ?_
  simp only [argE_cons, argE_nil, ac_seq, ac_region, at_normal, ao_nil, ao_cons, as_call, as_box, as_assign, as_load, pktL, pktA, u8A, u16A, u32A, boA, fr_false, List.contains_nil, beq_self_eq_true, hk_some, hopG, rd, aopsD, heapF, frzW, frzR, constT, evT, lk, putT, loadF, cellsF, argsF, constA, cellA, TK.isAgg, List.length_cons, List.length_nil, List.getElem?_cons_zero, List.drop_zero, List.take_succ_cons, List.take_nil, List.nil_append, Option.map_some, Nat.reduceAdd, Nat.reduceSub, Nat.reduceEqDiff, Nat.reduceLeDiff, true_and, eq_self, Bool.false_eq_true, ↓reduceIte, Nat.zero_add, Nat.le_refl, TT92]
  refine ACall.intro (refFew06_a s) ?_
  rw [← ht]
  clear ht
  simp only [ac_seq, ac_region, at_normal, ao_nil, ao_cons, as_call, as_store, as_load, pktL, pktA, u8A, u16A, u32A, boA, fr_false, List.contains_nil, beq_self_eq_true, Bool.and_self, hk_some, hopG, rd, aopsD, heapF, frzW, frzR, evT, lk, putT, loadF, cellsF, ovw, argsF, okCell, TK.isAgg, Value.oneCell', List.length_cons, List.length_nil, List.getElem?_cons_zero, List.drop_zero, List.take_succ_cons, List.take_nil, List.set_cons_zero, List.set_cons_succ, List.all_cons, List.all_nil, Option.map_some, Nat.reduceAdd, Nat.reduceSub, Nat.reduceEqDiff, Nat.reduceLeDiff, true_and, and_self, eq_self, Bool.false_eq_true, ↓reduceIte, Nat.zero_add, Nat.le_refl, TT92]
  cases hm : pktMay t
  · refine ACall.intro (ipPut_no t hm (by omega) (by omega)) ?_
    simp only [ac_seq, ac_region, at_normal, ao_nil, ao_cons, as_call, as_move, as_assign, as_load, as_extract, i64, fr_false, List.contains_nil, beq_self_eq_true, hk_some, hopG, rd, aopsD, frzW, frzR, evT, lk, putT, loadF, argsF, TK.isAgg, List.length_cons, List.length_nil, List.getElem?_cons_zero, List.getElem?_cons_succ, List.drop_zero, List.take_succ_cons, List.take_nil, Option.map_some, Nat.reduceAdd, Nat.reduceSub, Nat.reduceEqDiff, Nat.reduceLeDiff, true_and, eq_self, Bool.false_eq_true, ↓reduceIte, Nat.zero_add, Nat.le_refl, TT92]
    refine ACall.intro (refPut06_no t hto hm (by omega) (by omega)) ?_
    simp only [ac_seq, ac_region, at_normal, ao_nil, ao_cons, as_call, as_move, as_assign, as_extract, i64, fr_false, List.contains_nil, Nat.reduceBEq, beq_self_eq_true, hk_some, hopG, rd, aopsD, frzW, tlN, evT, lk, putT, argsF, List.length_cons, List.length_nil, List.getElem?_cons_zero, List.getElem?_cons_succ, Option.map_some, Nat.reduceAdd, Nat.reduceSub, Nat.reduceEqDiff, Nat.reduceLeDiff, true_and, eq_self, ↓reduceIte, Nat.zero_add]
    refine ACall.intro (refSame_a [] []) ?_
    simp only [ao_cons, ao_guard_f, st_at, pk_at, if_f, as_pick, as_call, as_move, as_binOp, as_unOp, as_load, boA, Nat.reduceBEq, beq_self_eq_true, decide_true, hk_some, hopG, rd, frzW, evT, lk, putT, GV, gdst, binF, unF, loadF, argsF, TK.isAgg, List.length_cons, List.length_nil, List.getElem?_cons_zero, List.drop_zero, List.take_succ_cons, List.take_nil, Option.map_some, Nat.reduceAdd, Nat.reduceSub, Nat.reduceEqDiff, true_and, eq_self, Bool.not_true, ↓reduceIte, Nat.zero_add, Nat.le_refl, TT3, TT92]
    refine ACall.intro (ipCheck_a t (by omega) (by omega)) ?_
    simp only [hm, ao_cons, ao_guard_f, st_at, pk_at, if_f, as_pick, as_call, as_move, as_binOp, as_load, i64, Nat.reduceBEq, decide_true, hk_some, hopG, rd, frzW, evT, lk, putT, GV, gdst, binF, loadF, argsF, TK.isAgg, List.length_cons, List.length_nil, List.getElem?_cons_zero, List.drop_zero, List.take_succ_cons, List.take_nil, Option.map_some, Nat.reduceAdd, Nat.reduceSub, Nat.reduceEqDiff, true_and, eq_self, Bool.false_eq_true, Bool.not_true, ↓reduceIte, Nat.zero_add, Nat.le_refl, TT61, TT92]
    refine ACall.intro (ipSize_a t (by omega)) ?_
    simp only [e1, ao_cons, ao_guard_f, st_at, pk_at, if_f, as_pick, as_call, as_move, as_binOp, as_load, as_fieldAddr, as_len, i64, Nat.reduceBEq, decide_true, hk_some, hopG, hopF, rd, frzW, constT, evT, lk, putT, GV, gdst, lenF, binF, loadF, argsF, constA, cellA, TK.isAgg, List.length_cons, List.length_nil, List.getElem?_cons_zero, List.getElem?_cons_succ, List.drop_zero, List.drop_succ_cons, List.take_succ_cons, List.take_nil, Option.map_some, Nat.reduceAdd, Nat.reduceSub, Nat.reduceEqDiff, Nat.succ_ne_zero, ne_eq, not_false_eq_true, true_and, eq_self, Bool.false_eq_true, Bool.not_true, ↓reduceIte, Nat.zero_add, Nat.le_refl, TT3, TT38, TT92]
    refine ACall.intro (ipPart_a t) ?_
    cases hmf : t.mf
    · simp only [e2, ac_skip, ac_seq, ac_cond, ac_region, at_normal, ao_nil, ao_cons, ao_guard_f, st_at, pk_at, if_t, if_f, as_pick, as_call, as_move, as_binOp, as_load, as_fieldAddr, boA, fr_false, List.contains_nil, Bool.false_or, Nat.reduceBEq, beq_self_eq_true, decide_false, Int.reduceEq, hk_some, hopG, rd, aopsD, frzW, frzR, constT, evT, lk, putT, GV, gdst, binF, loadF, argsF, constA, cellA, TK.isAgg, List.getElem?_cons_zero, List.getElem?_cons_succ, List.drop_zero, List.drop_succ_cons, Option.map_some, Nat.reduceSub, Nat.reduceEqDiff, Nat.reduceLeDiff, Nat.succ_ne_zero, ne_eq, not_false_eq_true, true_and, eq_self, Bool.false_eq_true, Bool.not_true, Bool.not_false, ↓reduceIte, Nat.zero_add, TT4, TT23, TT61, TT92]
      refine ACall.intro lives06_a ?_
      simp only [ac_ret, at_normal, at_ret, ae_ret, ao_nil, ao_cons, as_assign, boA, beq_self_eq_true, rd, evT, lk, putT, resF, resL, Option.map_some, Option.bind_some, Nat.reduceSub, and_true, and_self, eq_self, ↓reduceIte]
    · simp only [ac_skip, ac_seq, ac_cond, ac_region, at_normal, ao_nil, ao_cons, ao_guard_f, st_at, sk_at, pk_at, if_t, if_f, as_pick, as_call, as_move, as_binOp, as_load, as_fieldAddr, boA, fr_false, List.contains_nil, Bool.true_or, Nat.reduceBEq, beq_self_eq_true, decide_false, Int.reduceEq, hk_some, hopG, rd, aopsD, frzW, frzR, constT, evT, lk, putT, GV, gdst, binF, loadF, argsF, constA, cellA, TK.isAgg, List.getElem?_cons_zero, List.getElem?_cons_succ, List.drop_zero, List.drop_succ_cons, Option.map_some, Nat.reduceSub, Nat.reduceEqDiff, Nat.reduceLeDiff, Nat.succ_ne_zero, ne_eq, not_false_eq_true, true_and, eq_self, Bool.false_eq_true, Bool.not_true, Bool.not_false, ↓reduceIte, Nat.zero_add, TT4, TT61, TT92]
      refine ACall.intro lives06_a ?_
      simp only [ac_ret, at_normal, at_ret, ae_ret, ao_nil, ao_cons, as_assign, boA, beq_self_eq_true, rd, evT, lk, putT, resF, resL, Option.map_some, Option.bind_some, Nat.reduceSub, and_true, and_self, eq_self, ↓reduceIte]
  · refine ACall.intro (ipPut_a t hto hm) ?_
    simp only [ac_seq, ac_region, at_normal, ao_nil, ao_cons, as_call, as_move, as_assign, as_load, as_extract, i64, fr_false, List.contains_nil, beq_self_eq_true, hk_some, hopG, rd, aopsD, frzW, frzR, evT, lk, putT, loadF, argsF, TK.isAgg, List.length_cons, List.length_nil, List.getElem?_cons_zero, List.getElem?_cons_succ, List.drop_zero, List.take_succ_cons, List.take_nil, Option.map_some, Nat.reduceAdd, Nat.reduceSub, Nat.reduceEqDiff, Nat.reduceLeDiff, true_and, eq_self, Bool.false_eq_true, ↓reduceIte, Nat.zero_add, Nat.le_refl, TT92]
    refine ACall.intro (refPut06_a t hto hm) ?_
    simp only [ac_seq, ac_region, at_normal, ao_nil, ao_cons, as_call, as_move, as_assign, as_extract, i64, fr_false, List.contains_nil, Nat.reduceBEq, beq_self_eq_true, hk_some, hopG, rd, aopsD, frzW, tlN, evT, lk, putT, argsF, List.length_cons, List.length_nil, List.getElem?_cons_zero, List.getElem?_cons_succ, Option.map_some, Nat.reduceAdd, Nat.reduceSub, Nat.reduceEqDiff, Nat.reduceLeDiff, true_and, eq_self, ↓reduceIte, Nat.zero_add]
    refine ACall.intro (refSame_a _ _) ?_
    simp only [ao_cons, ao_guard_f, st_at, pk_at, if_f, as_pick, as_call, as_move, as_binOp, as_unOp, as_load, boA, Nat.reduceBEq, beq_self_eq_true, decide_true, hk_some, hopG, rd, frzW, evT, lk, putT, GV, gdst, binF, unF, loadF, argsF, TK.isAgg, List.length_cons, List.length_nil, List.getElem?_cons_zero, List.drop_zero, List.take_succ_cons, List.take_nil, Option.map_some, Nat.reduceAdd, Nat.reduceSub, Nat.reduceEqDiff, true_and, eq_self, Bool.not_true, ↓reduceIte, Nat.zero_add, Nat.le_refl, TT3, TT92]
    refine ACall.intro (ipCheck_a t (by omega) (by omega)) ?_
    simp only [hm, ao_cons, ao_guard_f, st_at, pk_at, if_f, as_pick, as_call, as_move, as_binOp, as_load, i64, Nat.reduceBEq, decide_true, hk_some, hopG, rd, frzW, evT, lk, putT, GV, gdst, binF, loadF, argsF, TK.isAgg, List.length_cons, List.length_nil, List.getElem?_cons_zero, List.drop_zero, List.take_succ_cons, List.take_nil, Option.map_some, Nat.reduceAdd, Nat.reduceSub, Nat.reduceEqDiff, true_and, eq_self, Bool.not_true, ↓reduceIte, Nat.zero_add, Nat.le_refl, TT61, TT92]
    refine ACall.intro (ipSize_a t (by omega)) ?_
    simp only [e1, ao_cons, ao_guard_f, st_at, pk_at, if_f, as_pick, as_call, as_move, as_binOp, as_load, as_fieldAddr, as_len, i64, Nat.reduceBEq, decide_true, hk_some, hopG, hopF, rd, frzW, constT, evT, lk, putT, GV, gdst, lenF, binF, loadF, argsF, constA, cellA, TK.isAgg, List.length_cons, List.length_nil, List.getElem?_cons_zero, List.getElem?_cons_succ, List.drop_zero, List.drop_succ_cons, List.take_succ_cons, List.take_nil, Option.map_some, Nat.reduceAdd, Nat.reduceSub, Nat.reduceEqDiff, Nat.succ_ne_zero, ne_eq, not_false_eq_true, true_and, eq_self, Bool.false_eq_true, Bool.not_true, ↓reduceIte, Nat.zero_add, Nat.le_refl, TT3, TT38, TT92]
    refine ACall.intro (ipPart_a t) ?_
    cases hmf : t.mf
    · simp only [e2, ac_skip, ac_seq, ac_cond, ac_region, at_normal, ao_nil, ao_cons, ao_guard_f, st_at, pk_at, if_f, as_pick, as_call, as_move, as_binOp, as_load, as_fieldAddr, boA, fr_false, List.contains_nil, Bool.false_or, Nat.reduceBEq, beq_self_eq_true, decide_true, hk_some, hopG, rd, aopsD, frzW, frzR, constT, evT, lk, putT, GV, gdst, binF, loadF, argsF, constA, cellA, TK.isAgg, List.getElem?_cons_zero, List.getElem?_cons_succ, List.drop_zero, List.drop_succ_cons, Option.map_some, Nat.reduceSub, Nat.reduceEqDiff, Nat.reduceLeDiff, Nat.succ_ne_zero, ne_eq, not_false_eq_true, true_and, eq_self, reduceCtorEq, Bool.false_eq_true, Bool.not_true, ↓reduceIte, Nat.zero_add, TT4, TT23, TT61, TT92]
      refine ACall.intro (few_a l 40) ?_
      simp only [ao_cons, as_call, beq_self_eq_true, rd, frzW, frzR, evT, lk, putT, argsF, Option.map_some, Nat.reduceSub, Nat.reduceEqDiff, eq_self, ↓reduceIte]
      refine ACall.intro (add_a _ _ (by omega)) ?_
      simp only [ao_cons, as_call, beq_self_eq_true, rd, frzW, frzR, evT, lk, putT, argsF, Option.map_some, Nat.reduceSub, eq_self, ↓reduceIte]
      refine ACall.intro (ipParse_B t (l.take 40) hto hm (by omega)) ?_
      simp only [ac_seq, ac_region, at_normal, ao_nil, ao_cons, ao_guard_t, st_at, if_t, as_call, as_alloc, as_store, as_move, as_assign, as_binOp, as_load, as_extract, pktL, pktA, u8A, u16A, u32A, i64, boA, fr_false, List.contains_nil, beq_self_eq_true, decide_true, Bool.and_self, hk_some, hopG, rd, aopsD, heapF, frzW, frzR, constT, evT, lk, putT, GV, gdst, binF, loadF, cellsF, ovw, argsF, okCell, constA, cellA, TK.isAgg, Value.oneCell', List.length_cons, List.length_nil, List.getElem?_cons_zero, List.getElem?_cons_succ, List.drop_zero, List.take_succ_cons, List.take_nil, List.set_cons_zero, List.set_cons_succ, List.nil_append, List.cons_append, List.all_cons, List.all_nil, Option.map_some, Nat.reduceAdd, Nat.reduceSub, Nat.reduceEqDiff, Nat.reduceLeDiff, true_and, and_self, eq_self, Bool.false_eq_true, ↓reduceIte, Nat.zero_add, Nat.le_refl, TT61, TT92]
      refine ACall.intro (refSame06_mf t _ hmf) ?_
      simp only [ao_cons, ao_guard_t, st_at, pk_at, if_t, as_pick, as_call, as_move, boA, beq_self_eq_true, frzW, frzR, evT, lk, putT, GV, gdst, argsF, Nat.reduceSub, Nat.reduceEqDiff, eq_self, ↓reduceIte]
      refine ACall.intro lives06_a ?_
      simp only [ac_ret, at_normal, ae_ret, ao_nil, ao_cons, pk_at, if_t, as_pick, as_assign, boA, beq_self_eq_true, rd, evT, lk, putT, resF, resL, Option.map_some, Option.bind_some, Nat.reduceSub, Nat.reduceEqDiff, and_true, and_self, eq_self, ↓reduceIte]
    · simp only [ac_skip, ac_seq, ac_cond, ac_region, at_normal, ao_nil, ao_cons, ao_guard_f, st_at, sk_at, pk_at, if_t, if_f, as_pick, as_call, as_move, as_binOp, as_load, as_fieldAddr, boA, fr_false, List.contains_nil, Bool.true_or, Nat.reduceBEq, beq_self_eq_true, decide_true, hk_some, hopG, rd, aopsD, frzW, frzR, constT, evT, lk, putT, GV, gdst, binF, loadF, argsF, constA, cellA, TK.isAgg, List.getElem?_cons_zero, List.getElem?_cons_succ, List.drop_zero, List.drop_succ_cons, Option.map_some, Nat.reduceSub, Nat.reduceEqDiff, Nat.reduceLeDiff, Nat.succ_ne_zero, ne_eq, not_false_eq_true, true_and, eq_self, reduceCtorEq, Bool.false_eq_true, Bool.not_true, ↓reduceIte, Nat.zero_add, TT4, TT61, TT92]
      refine ACall.intro (few_a l 40) ?_
      simp only [ao_cons, as_call, beq_self_eq_true, rd, frzW, frzR, evT, lk, putT, argsF, Option.map_some, Nat.reduceSub, Nat.reduceEqDiff, eq_self, ↓reduceIte]
      refine ACall.intro (add_a _ _ (by omega)) ?_
      simp only [ao_cons, as_call, beq_self_eq_true, rd, frzW, frzR, evT, lk, putT, argsF, Option.map_some, Nat.reduceSub, eq_self, ↓reduceIte]
      refine ACall.intro (ipParse_B t (l.take 40) hto hm (by omega)) ?_
      simp only [ac_seq, ac_region, at_normal, ao_nil, ao_cons, ao_guard_t, st_at, if_t, as_call, as_alloc, as_store, as_move, as_assign, as_binOp, as_load, as_extract, pktL, pktA, u8A, u16A, u32A, i64, boA, fr_false, List.contains_nil, beq_self_eq_true, decide_true, Bool.and_self, hk_some, hopG, rd, aopsD, heapF, frzW, frzR, constT, evT, lk, putT, GV, gdst, binF, loadF, cellsF, ovw, argsF, okCell, constA, cellA, TK.isAgg, Value.oneCell', List.length_cons, List.length_nil, List.getElem?_cons_zero, List.getElem?_cons_succ, List.drop_zero, List.take_succ_cons, List.take_nil, List.set_cons_zero, List.set_cons_succ, List.nil_append, List.cons_append, List.all_cons, List.all_nil, Option.map_some, Nat.reduceAdd, Nat.reduceSub, Nat.reduceEqDiff, Nat.reduceLeDiff, true_and, and_self, eq_self, Bool.false_eq_true, ↓reduceIte, Nat.zero_add, Nat.le_refl, TT61, TT92]
      refine ACall.intro (refSame06_mf t _ hmf) ?_
      simp only [ao_cons, ao_guard_t, st_at, pk_at, if_t, as_pick, as_call, as_move, boA, beq_self_eq_true, frzW, frzR, evT, lk, putT, GV, gdst, argsF, Nat.reduceSub, Nat.reduceEqDiff, eq_self, ↓reduceIte]
      refine ACall.intro lives06_a ?_
      simp only [ac_ret, at_normal, ae_ret, ao_nil, ao_cons, pk_at, if_t, as_pick, as_assign, boA, beq_self_eq_true, rd, evT, lk, putT, resF, resL, Option.map_some, Option.bind_some, Nat.reduceSub, Nat.reduceEqDiff, and_true, and_self, eq_self, ↓reduceIte]
set_option maxRecDepth 100000 in
theorem ipv4Back_a (l : List UInt8) : ASpec Try.prog 19 [.bs l] (boA true) := by
  have h3 : (l.take 400).length ≤ 400 := by simp; omega
  refine ASpec.of_body TT_ok Try.mixed _ [.tmp 2] ([], []) Try.func19 (by kernel_rfl) rfl rfl (by simp only [Try.ntmps19, List.length_cons, List.length_nil]; omega) rfl (by kernel_rfl) ?_
  simp only [argE_cons, argE_nil, ac_seq, ac_region, at_normal, ao_nil, ao_cons, as_call, as_move, as_assign, boA, fr_false, List.contains_nil, beq_self_eq_true, rd, aopsD, frzW, frzR, constT, evT, lk, putT, argsF, constA, cellA, Option.map_some, Nat.reduceSub, Nat.reduceLeDiff, Nat.succ_ne_zero, eq_self, Bool.false_eq_true, ↓reduceIte, Nat.zero_add]
  refine ACall.intro (few_a l 400) ?_
  generalize l.take 400 = m at *
  simp only [ac_seq, ac_region, at_normal, ao_nil, ao_cons, as_call, as_move, as_assign, fr_false, List.contains_nil, beq_self_eq_true, rd, aopsD, frzW, frzR, evT, lk, putT, argsF, Option.map_some, Nat.reduceSub, Nat.reduceLeDiff, eq_self, Bool.false_eq_true, ↓reduceIte]
  refine ACall.intro (ipParse_a m (by omega)) ?_
  cases he : decide ((ipP m).2 = 0)
  · simp only [he, ac_seq, ac_cond, ac_region, at_normal, ao_nil, ao_cons, if_t, as_call, as_alloc, as_store, as_move, as_assign, as_binOp, as_extract, pktL, pktA, u8A, u16A, u32A, i64, boA, fr_false, List.contains_nil, beq_self_eq_true, Bool.and_self, hk_some, hopG, rd, aopsD, heapF, frzW, frzR, constT, evT, lk, putT, binF, cellsF, ovw, argsF, okCell, constA, cellA, Value.oneCell', List.length_cons, List.length_nil, List.getElem?_cons_zero, List.getElem?_cons_succ, List.set_cons_zero, List.set_cons_succ, List.nil_append, List.all_cons, List.all_nil, Option.map_some, Nat.reduceAdd, Nat.reduceSub, Nat.reduceEqDiff, Nat.reduceLeDiff, true_and, and_self, eq_self, Bool.false_eq_true, Bool.not_false, ↓reduceIte, Nat.zero_add, Nat.le_refl, TT61, TT92]
    refine ACall.intro lives06_a ?_
    simp only [ac_ret, at_normal, at_ret, ae_ret, ao_nil, ao_cons, as_assign, boA, beq_self_eq_true, rd, evT, lk, putT, resF, resL, Option.map_some, Option.bind_some, Nat.reduceSub, and_true, and_self, eq_self, ↓reduceIte]
  · have he' := dT.1 he
    obtain ⟨k1, k2, k3, k4, k5, k6⟩ := ipP_ok m he'
    have hk := ipBack_law m he'
    have g10 := get_two m 10 (by omega)
    have g2 := get_two m 2 (by omega)
    have n10 := get16_bd m 10
    have n2 := get16_bd m 2
    obtain ⟨al, hal⟩ := Int.eq_ofNat_of_zero_le n2.1
    rw [hal, Int.toNat_natCast] at hk
    have hl := ipB_len (ipP m).1
    simp only [he, ac_skip, ac_seq, ac_cond, ac_region, at_normal, ao_nil, ao_cons, if_f, as_call, as_alloc, as_store, as_move, as_assign, as_binOp, as_extract, pktL, pktA, u8A, u16A, u32A, i64, boA, fr_false, List.contains_nil, beq_self_eq_true, Bool.and_self, hk_some, hopG, rd, aopsD, heapF, frzW, frzR, constT, evT, lk, putT, binF, cellsF, ovw, argsF, okCell, constA, cellA, Value.oneCell', List.length_cons, List.length_nil, List.getElem?_cons_zero, List.getElem?_cons_succ, List.set_cons_zero, List.set_cons_succ, List.nil_append, List.all_cons, List.all_nil, Option.map_some, Nat.reduceAdd, Nat.reduceSub, Nat.reduceEqDiff, Nat.reduceLeDiff, Nat.succ_ne_zero, true_and, and_self, eq_self, Bool.false_eq_true, Bool.not_true, ↓reduceIte, Nat.zero_add, Nat.le_refl, TT61, TT92]
    refine ACall.intro (refGet_a m 10 2 (by omega) (by omega)) ?_
    rw [show ((2 : Nat) : Int) = 2 from rfl, g10]
    simp only [ac_seq, ac_region, at_normal, ao_nil, ao_cons, as_call, as_move, as_assign, as_extract, u32A, boA, fr_false, List.contains_nil, beq_self_eq_true, hk_some, hopG, rd, aopsD, frzW, frzR, constT, evT, lk, putT, argsF, constA, cellA, List.getElem?_cons_zero, List.getElem?_cons_succ, Option.map_some, Nat.reduceSub, Nat.reduceEqDiff, Nat.reduceLeDiff, Nat.succ_ne_zero, true_and, eq_self, Bool.false_eq_true, ↓reduceIte]
    refine ACall.intro (refGet_a m 2 2 (by omega) (by omega)) ?_
    rw [show ((2 : Nat) : Int) = 2 from rfl, g2, hal]
    simp only [ac_seq, ac_region, at_normal, ao_nil, ao_cons, as_call, as_move, as_assign, as_load, as_extract, u32A, boA, fr_false, List.contains_nil, beq_self_eq_true, hk_some, hopG, rd, aopsD, frzW, frzR, evT, lk, putT, loadF, argsF, TK.isAgg, List.length_cons, List.length_nil, List.getElem?_cons_zero, List.getElem?_cons_succ, List.drop_zero, List.take_succ_cons, List.take_nil, Option.map_some, Nat.reduceAdd, Nat.reduceSub, Nat.reduceEqDiff, Nat.reduceLeDiff, true_and, eq_self, Bool.false_eq_true, ↓reduceIte, Nat.zero_add, Nat.le_refl, TT92]
    refine ACall.intro (ipPut_a (ipP m).1 k1 k2) ?_
    cases hs : decide (get16 m 10 = 65535)
    · rw [dF] at hs
      simp only [decide_eq_false hs, i64_in (n := (al : Int)) (by omega) (by omega), ac_seq, ac_region, at_normal, ao_nil, ao_cons, ao_guard_t, ao_guard_f, st_at, if_t, if_f, as_call, as_move, as_assign, as_binOp, as_convert, as_extract, i64, fr_false, List.contains_nil, beq_self_eq_true, decide_true, hk_some, hopG, rd, aopsD, frzW, frzR, constT, evT, lk, putT, GV, gdst, binF, convF, argsF, constA, cellA, List.getElem?_cons_zero, List.getElem?_cons_succ, Option.map_some, Nat.reduceSub, Nat.reduceEqDiff, Nat.reduceLeDiff, Nat.succ_ne_zero, true_and, eq_self, Bool.false_eq_true, ↓reduceIte, TT3, TT22, TT61]
      refine ACall.intro (few_a m al) ?_
      simp only [ao_guard_f, st_at, if_f, as_call, beq_self_eq_true, rd, frzW, frzR, evT, lk, putT, GV, gdst, argsF, Option.map_some, Nat.reduceSub, Nat.reduceEqDiff, eq_self, ↓reduceIte]
      refine ACall.intro (refSame_a _ _) ?_
      rw [hk hs]
      simp only [ao_cons, ao_guard_t, st_at, pk_at, if_t, if_f, as_pick, as_call, as_move, boA, beq_self_eq_true, frzW, frzR, evT, lk, putT, GV, gdst, argsF, Nat.reduceSub, Nat.reduceEqDiff, eq_self, ↓reduceIte]
      refine ACall.intro lives06_a ?_
      simp only [ac_ret, at_normal, ae_ret, ao_nil, ao_cons, pk_at, if_t, as_pick, as_assign, boA, beq_self_eq_true, rd, evT, lk, putT, resF, resL, Option.map_some, Option.bind_some, Nat.reduceSub, Nat.reduceEqDiff, and_true, and_self, eq_self, ↓reduceIte]
    · rw [dT] at hs
      simp only [decide_eq_true hs, ac_seq, ac_region, at_normal, ao_nil, ao_cons, ao_guard_t, ao_guard_f, st_at, sk_at, pk_at, if_t, as_pick, as_call, as_move, as_assign, as_binOp, as_extract, i64, fr_false, List.contains_nil, beq_self_eq_true, decide_true, hk_some, hopG, rd, aopsD, frzW, frzR, constT, evT, lk, putT, GV, gdst, binF, argsF, constA, cellA, List.getElem?_cons_zero, List.getElem?_cons_succ, Option.map_some, Nat.reduceSub, Nat.reduceEqDiff, Nat.reduceLeDiff, true_and, eq_self, Bool.false_eq_true, ↓reduceIte, TT22, TT61]
      refine ACall.intro lives06_a ?_
      simp only [ac_ret, at_normal, ae_ret, ao_nil, ao_cons, pk_at, if_t, as_pick, as_assign, boA, beq_self_eq_true, rd, evT, lk, putT, resF, resL, Option.map_some, Option.bind_some, Nat.reduceSub, Nat.reduceEqDiff, and_true, and_self, eq_self, ↓reduceIte]
set_option maxRecDepth 100000 in
theorem ipv4Turns_a (l : List UInt8) (ttl : Int) (ht : 0 ≤ ttl ∧ ttl ≤ 255) : ASpec Try.prog 23 [.bs l, u8A ttl] (boA true) := by
  have h3 : (l.take 400).length ≤ 400 := by simp; omega
  refine ASpec.of_body TT_ok Try.mixed _ [.tmp 4] ([], []) Try.func23 (by kernel_rfl) rfl rfl (by simp only [Try.ntmps23, List.length_cons, List.length_nil]; omega) rfl (by kernel_rfl) ?_
  simp only [argE_cons, argE_nil, ac_seq, ac_region, at_normal, ao_nil, ao_cons, as_call, as_move, as_assign, u8A, boA, fr_false, List.contains_nil, beq_self_eq_true, rd, aopsD, frzW, frzR, constT, evT, lk, putT, argsF, constA, cellA, Option.map_some, Nat.reduceAdd, Nat.reduceSub, Nat.reduceLeDiff, Nat.succ_ne_zero, eq_self, Bool.false_eq_true, ↓reduceIte, Nat.zero_add]
  refine ACall.intro (few_a l 400) ?_
  generalize l.take 400 = m at *
  simp only [ac_seq, ac_region, at_normal, ao_nil, ao_cons, as_call, as_move, as_assign, fr_false, List.contains_nil, beq_self_eq_true, rd, aopsD, frzW, frzR, evT, lk, putT, argsF, Option.map_some, Nat.reduceSub, Nat.reduceEqDiff, Nat.reduceLeDiff, eq_self, reduceCtorEq, Bool.false_eq_true, ↓reduceIte]
  have hcase : (ipHd m).2.2 = 0 ∧ (ipP m).2 = 0 ∨ ¬ (ipHd m).2.2 = 0 ∧ ¬ (ipP m).2 = 0 := by
    by_cases h : (ipHd m).2.2 = 0
    · exact .inl ⟨h, by rw [ipP, if_pos h]⟩
    · exact .inr ⟨h, by rw [ipP, if_neg h]; exact h⟩
  rcases hcase with ⟨h1, h2⟩ | ⟨h1, h2⟩
  · refine ACall.intro (ipTurn_a m ttl (by omega) ht h1) ?_
    have hlaw := ipTurn_law m ttl ht h2
    have hcl : (ipT (m.take (get16 m 2).toNat) ttl).length ≤ 1000000 := by
      have : ∀ (c : List UInt8) (k x : Int), (set16 c k x).length ≤ c.length := fun c k x => by
        unfold set16
        split <;> simp
      have a1 := this (set16 (m.take (get16 m 2).toNat) 8 (nextT (m.take (get16 m 2).toNat) ttl)) 10 (turnF (get16 (m.take (get16 m 2).toNat) 10) (get16 (m.take (get16 m 2).toNat) 8) (nextT (m.take (get16 m 2).toNat) ttl))
      have a2 := this (m.take (get16 m 2).toNat) 8 (nextT (m.take (get16 m 2).toNat) ttl)
      have a3 : (m.take (get16 m 2).toNat).length ≤ m.length := by simp; omega
      unfold ipT
      omega
    generalize ipT (m.take (get16 m 2).toNat) ttl = c at *
    simp only [ac_seq, ac_region, at_normal, ao_nil, ao_cons, as_call, as_move, as_assign, as_extract, boA, fr_false, List.contains_nil, beq_self_eq_true, hk_some, hopG, rd, aopsD, frzW, frzR, evT, lk, putT, argsF, List.getElem?_cons_zero, List.getElem?_cons_succ, Option.map_some, Nat.reduceSub, Nat.reduceEqDiff, Nat.reduceLeDiff, Nat.succ_ne_zero, true_and, eq_self, Bool.false_eq_true, ↓reduceIte]
    refine ACall.intro (refParse06_a m (by omega)) ?_
    simp only [decide_eq_true h2, ac_skip, ac_seq, ac_cond, ac_region, at_normal, ao_nil, ao_cons, if_f, as_call, as_alloc, as_store, as_move, as_assign, as_binOp, as_fieldAddr, as_extract, pktL, pktA, u8A, u16A, u32A, i64, boA, fr_false, List.contains_nil, beq_self_eq_true, Bool.and_self, hk_some, hopG, rd, aopsD, heapF, frzW, frzR, constT, evT, lk, putT, binF, cellsF, ovw, argsF, okCell, constA, cellA, Value.oneCell', List.length_cons, List.length_nil, List.getElem?_cons_zero, List.getElem?_cons_succ, List.set_cons_zero, List.set_cons_succ, List.nil_append, List.all_cons, List.all_nil, Option.map_some, Nat.reduceAdd, Nat.reduceSub, Nat.reduceEqDiff, Nat.reduceLeDiff, Nat.succ_ne_zero, ne_eq, not_false_eq_true, true_and, and_self, eq_self, reduceCtorEq, Bool.false_eq_true, Bool.not_true, ↓reduceIte, Nat.zero_add, Nat.le_refl, TT3, TT5, TT92]
    have hq := refParse06_a c hcl
    rw [hlaw] at hq
    refine ACall.intro hq ?_
    simp only [ac_seq, ac_region, at_normal, ao_nil, ao_cons, ao_guard_t, st_at, pk_at, if_t, as_pick, as_call, as_alloc, as_store, as_move, as_assign, as_binOp, as_load, as_extract, pktL, pktA, u8A, u16A, u32A, i64, boA, fr_false, List.contains_nil, beq_self_eq_true, decide_true, Bool.and_self, hk_some, hopG, rd, aopsD, heapF, frzW, frzR, constT, evT, lk, putT, GV, gdst, binF, loadF, cellsF, ovw, argsF, okCell, constA, cellA, TK.isAgg, Value.oneCell', List.length_cons, List.length_nil, List.getElem?_cons_zero, List.getElem?_cons_succ, List.drop_zero, List.take_succ_cons, List.take_nil, List.set_cons_zero, List.set_cons_succ, List.nil_append, List.cons_append, List.all_cons, List.all_nil, Option.map_some, Nat.reduceAdd, Nat.reduceSub, Nat.reduceEqDiff, Nat.reduceLeDiff, true_and, and_self, eq_self, Bool.false_eq_true, ↓reduceIte, Nat.zero_add, Nat.le_refl, TT3, TT92]
    refine ACall.intro (refSame06_self { (ipP m).1 with ttl := ttl }) ?_
    simp only [ao_cons, ao_guard_t, st_at, pk_at, if_t, as_pick, as_call, as_move, boA, beq_self_eq_true, frzW, frzR, evT, lk, putT, GV, gdst, argsF, Nat.reduceSub, Nat.reduceEqDiff, eq_self, ↓reduceIte]
    refine ACall.intro lives06_a ?_
    simp only [ac_ret, at_normal, ae_ret, ao_nil, ao_cons, pk_at, if_t, as_pick, as_assign, boA, beq_self_eq_true, rd, evT, lk, putT, resF, resL, Option.map_some, Option.bind_some, Nat.reduceSub, Nat.reduceEqDiff, and_true, and_self, eq_self, ↓reduceIte]
  · refine ACall.intro (ipTurn_no m ttl (by omega) h1) ?_
    simp only [ac_seq, ac_region, at_normal, ao_nil, ao_cons, as_call, as_move, as_assign, as_extract, boA, fr_false, List.contains_nil, beq_self_eq_true, hk_some, hopG, rd, aopsD, frzW, frzR, evT, lk, putT, argsF, List.getElem?_cons_zero, List.getElem?_cons_succ, Option.map_some, Nat.reduceSub, Nat.reduceEqDiff, Nat.reduceLeDiff, Nat.succ_ne_zero, true_and, eq_self, Bool.false_eq_true, ↓reduceIte]
    refine ACall.intro (refParse06_a m (by omega)) ?_
    simp only [decide_eq_false h2, ac_seq, ac_cond, ac_region, at_normal, ao_nil, ao_cons, ao_guard_t, st_at, pk_at, if_t, as_pick, as_call, as_alloc, as_store, as_move, as_assign, as_binOp, as_unOp, as_extract, as_len, pktL, pktA, u8A, u16A, u32A, i64, boA, fr_false, List.contains_nil, beq_self_eq_true, Int.cast_ofNat_Int, decide_true, Bool.and_self, hk_some, hopG, hopF, rd, aopsD, heapF, frzW, frzR, constT, evT, lk, putT, GV, gdst, lenF, binF, unF, cellsF, ovw, argsF, okCell, constA, cellA, Value.oneCell', List.length_cons, List.length_nil, List.getElem?_cons_zero, List.getElem?_cons_succ, List.set_cons_zero, List.set_cons_succ, List.nil_append, List.all_cons, List.all_nil, Option.map_some, Nat.reduceAdd, Nat.reduceSub, Nat.reduceEqDiff, Nat.reduceLeDiff, true_and, and_self, eq_self, Bool.false_eq_true, Bool.not_false, ↓reduceIte, Nat.zero_add, Nat.le_refl, TT3, TT38, TT92]
    refine ACall.intro lives06_a ?_
    simp only [ac_ret, at_normal, at_ret, ae_ret, ao_nil, ao_cons, pk_at, if_t, as_pick, as_assign, boA, beq_self_eq_true, rd, evT, lk, putT, resF, resL, Option.map_some, Option.bind_some, Nat.reduceSub, Nat.reduceEqDiff, and_true, and_self, eq_self, ↓reduceIte]
end Go.Proofs.Ytafajmnlknmfiaa
