/- TunBack: its own text. -/
import Derived.Test.YtafajmnlknmfiaaUB
namespace Go.Proofs.Ytafajmnlknmfiaa
set_option linter.unusedSimpArgs false
set_option linter.unusedVariables false
open Go.RowKit

set_option maxRecDepth 100000 in
theorem tunBack_a (c : CfgN) (s : PktN) (l : List UInt8) (to_ id : Int) (hc : c.ok) (hs : s.ok) (ht1 : 0 ≤ to_ ∧ to_ ≤ 4294967295) (hi : 0 ≤ id ∧ id ≤ 65535) : ASpec Try.prog 26 [cfgA c, pktA s, .bs l, u32A to_, u16A id] (boA true) := by
  have h3 : (l.take 30).length ≤ 30 := by simp; omega
  obtain ⟨t, ht⟩ : ∃ t : PktN, t = { s with opts := s.opts.take 50, data := s.data.take 300 } := ⟨_, rfl⟩
  have hto : t.ok := by subst ht; obtain ⟨k1, k2, k3, k4, k5, k6, k7⟩ := hs; constructor <;> assumption
  have l1 : t.opts.length ≤ 50 := by subst ht; simp; omega
  have l2 : t.data.length ≤ 300 := by subst ht; simp; omega
  have hbl := ipB_len t
  refine ASpec.of_body TT_ok Try.mixed _ [.tmp 10] ([], [(6, 1012)]) Try.func26 (by kernel_rfl) rfl rfl (by simp only [Try.ntmps26, List.length_cons, List.length_nil]; omega) rfl (by kernel_rfl) ?_
  simp only [argE_cons, argE_nil, ac_seq, ac_region, at_normal, ao_nil, ao_cons, as_call, as_box, as_assign, as_load, pktL, pktA, cfgL, cfgA, u8A, u16A, u32A, i64, boA, fr_false, List.contains_nil, beq_self_eq_true, hk_some, hopG, rd, aopsD, heapF, frzW, frzR, constT, evT, lk, putT, loadF, cellsF, argsF, constA, cellA, TK.isAgg, List.length_cons, List.length_nil, List.getElem?_cons_zero, List.getElem?_cons_succ, List.drop_zero, List.take_succ_cons, List.take_nil, List.nil_append, List.cons_append, Option.map_some, Nat.reduceAdd, Nat.reduceSub, Nat.reduceEqDiff, Nat.reduceLeDiff, true_and, eq_self, reduceCtorEq, Bool.false_eq_true, ↓reduceIte, Nat.zero_add, Nat.le_refl, TT92]
  refine ACall.intro (refFew06_a s) ?_
  rw [← ht]
  clear ht
  simp only [ac_seq, ac_region, at_normal, ao_nil, ao_cons, as_call, as_store, as_load, pktL, pktA, u8A, u16A, u32A, boA, fr_false, List.contains_nil, beq_self_eq_true, Bool.and_self, hk_some, hopG, rd, aopsD, heapF, frzW, frzR, evT, lk, putT, loadF, cellsF, ovw, argsF, okCell, TK.isAgg, Value.oneCell', List.length_cons, List.length_nil, List.getElem?_cons_zero, List.getElem?_cons_succ, List.drop_zero, List.take_succ_cons, List.take_nil, List.set_cons_zero, List.set_cons_succ, List.all_cons, List.all_nil, Option.map_some, Nat.reduceAdd, Nat.reduceSub, Nat.reduceEqDiff, Nat.reduceLeDiff, true_and, and_self, eq_self, Bool.false_eq_true, ↓reduceIte, Nat.zero_add, Nat.le_refl, TT92]
  cases hm : pktMay t
  · refine ACall.intro (refPut06_no t hto hm (by omega) (by omega)) ?_
    simp only [ac_seq, ac_cond, ac_region, at_normal, ao_nil, ao_cons, if_t, as_call, as_move, as_assign, as_binOp, as_extract, i64, fr_false, List.contains_nil, beq_self_eq_true, decide_false, Int.reduceEq, hk_some, hopG, rd, aopsD, frzW, frzR, constT, evT, lk, putT, binF, argsF, constA, cellA, List.getElem?_cons_zero, List.getElem?_cons_succ, Option.map_some, Nat.reduceSub, Nat.reduceEqDiff, Nat.reduceLeDiff, true_and, eq_self, Bool.false_eq_true, Bool.not_false, ↓reduceIte, TT3]
    refine ACall.intro lives29_a ?_
    simp only [ac_ret, at_normal, at_ret, ae_ret, ao_nil, ao_cons, as_assign, boA, beq_self_eq_true, rd, evT, lk, putT, resF, resL, Option.map_some, Option.bind_some, Nat.reduceSub, and_true, and_self, eq_self, ↓reduceIte]
  · refine ACall.intro (refPut06_a t hto hm) ?_
    simp only [ac_skip, ac_seq, ac_cond, ac_region, at_normal, ao_nil, ao_cons, if_f, as_call, as_store, as_move, as_assign, as_binOp, as_load, as_fieldAddr, as_extract, i64, fr_false, List.contains_nil, beq_self_eq_true, decide_true, Bool.and_self, hk_some, hopG, rd, bs_call, bs_move, bs_load, ob_cons, aopsD, heapF, frzW, tlN, constT, evT, lk, putT, binF, loadF, cellsF, ovw, argsF, okCell, constA, cellA, TK.isAgg, Value.oneCell', List.length_cons, List.length_nil, List.getElem?_cons_zero, List.getElem?_cons_succ, List.drop_zero, List.take_succ_cons, List.take_nil, List.set_cons_zero, List.set_cons_succ, List.all_cons, List.all_nil, Option.map_some, Nat.reduceAdd, Nat.reduceSub, Nat.reduceEqDiff, Nat.reduceLeDiff, Nat.succ_ne_zero, ne_eq, not_false_eq_true, true_and, and_self, eq_self, reduceCtorEq, Bool.false_eq_true, Bool.not_true, ↓reduceIte, Nat.zero_add, Nat.le_refl, TT3, TT37]
    refine ACall.intro (few_a l 30) ?_
    generalize l.take 30 = m at *
    simp only [as_call, rd, bs_call, ob_cons, frzW, evT, lk, putT, argsF, Option.map_some, Nat.reduceEqDiff, eq_self, ↓reduceIte]
    refine ACall.intro (add_a (ipB t) m (by omega)) ?_
    simp only [as_call, as_move, rd, bs_call, bs_move, ob_cons, frzW, evT, lk, putT, argsF, Option.map_some, Nat.reduceEqDiff, eq_self, reduceCtorEq, ↓reduceIte]
    have hw := tunWrap_a ⟨c.m0, c.m1, c.a0, c.a1, 1500⟩ (ipB t ++ m) to_ id (by simp; omega)
    rw [wrapP_B ⟨c.m0, c.m1, c.a0, c.a1, 1500⟩ t m to_ id hto hm (by show ((ipB t).length : Int) + 20 ≤ 1500; omega)] at hw
    refine ACall.intro hw ?_
    simp only
    have hxo : (wrapX c.a1 t to_ id).ok := ⟨hto.tos, hi, by simp [wrapX], by simp [wrapX], by simp [wrapX], hc.a1, ht1⟩
    have hxm : pktMay (wrapX c.a1 t to_ id) = true := by
      simp only [pktMay, wrapX, Bool.and_eq_true, decide_eq_true_eq, List.length_nil]
      exact ⟨rfl, trivial, rfl, decide_eq_true (by omega)⟩
    have hxl := ipB_len (wrapX c.a1 t to_ id)
    have hop := tunOpen_a (wrapX c.a1 t to_ id) (by simp only [wrapX]; omega)
    have hO : openP (wrapX c.a1 t to_ id) = (ipB t, 0) := by
      have e : openP (wrapX c.a1 t to_ id) = (ownP (ipB t), (ipP (ipB t)).2) := rfl
      rw [e, ownP_B0 t hto hm, ipP_B0 t hto hm]
    rw [hO] at hop
    have hput := ipPut_a (wrapX c.a1 t to_ id) hxo hxm
    have hprs := ipParse_B0 (wrapX c.a1 t to_ id) hxo hxm
    have hlen : ((ipB (wrapX c.a1 t to_ id)).length : Int) = ((ipB t).length : Int) + 20 := by
      rw [hxl]; simp only [wrapX, List.length_nil]; omega
    generalize ipB (wrapX c.a1 t to_ id) = wire at *
    generalize ipB t = B at *
    simp only [wrapX] at hput hprs hop
    simp only [wrapX, ac_skip, ac_seq, ac_cond, ac_region, at_normal, ao_nil, ao_cons, if_f, as_call, as_store, as_move, as_assign, as_binOp, as_load, as_extract, pktL, pktA, u8A, u16A, u32A, i64, boA, fr_false, List.contains_nil, beq_self_eq_true, decide_true, Bool.and_self, hk_some, hopG, rd, bs_alloc, bs_move, bs_extract, ob_zero, ob_cons, aopsD, heapF, frzW, frzR, constT, evT, lk, putT, binF, loadF, cellsF, ovw, argsF, okCell, constA, cellA, TK.isAgg, Value.oneCell', List.length_cons, List.length_nil, List.getElem?_cons_zero, List.getElem?_cons_succ, List.drop_zero, List.take_succ_cons, List.take_nil, List.set_cons_zero, List.set_cons_succ, List.nil_append, List.cons_append, List.all_cons, List.all_nil, Option.map_some, Nat.reduceAdd, Nat.reduceSub, Nat.reduceEqDiff, Nat.reduceLeDiff, true_and, and_self, eq_self, Bool.false_eq_true, Bool.not_true, ↓reduceIte, Nat.zero_add, Nat.add_zero, Nat.le_refl, TT61, TT92]
    refine ACall.intro hput ?_
    simp only [ac_seq, ac_region, at_normal, ao_nil, ao_cons, as_call, as_move, as_assign, as_extract, i64, fr_false, List.contains_nil, beq_self_eq_true, hk_some, hopG, rd, aopsD, frzW, frzR, evT, lk, putT, argsF, List.getElem?_cons_zero, List.getElem?_cons_succ, Option.map_some, Nat.reduceSub, Nat.reduceEqDiff, Nat.reduceLeDiff, true_and, eq_self, Bool.false_eq_true, ↓reduceIte]
    refine ACall.intro hprs ?_
    simp only [ac_seq, ac_region, at_normal, ao_nil, ao_cons, as_call, as_alloc, as_store, as_move, as_assign, as_load, as_extract, pktL, pktA, u8A, u16A, u32A, i64, boA, fr_false, List.contains_nil, beq_self_eq_true, Bool.and_self, hk_some, hopG, rd, aopsD, heapF, frzW, frzR, evT, lk, putT, loadF, cellsF, ovw, argsF, okCell, TK.isAgg, Value.oneCell', List.length_cons, List.length_nil, List.getElem?_cons_zero, List.getElem?_cons_succ, List.drop_zero, List.take_succ_cons, List.take_nil, List.set_cons_zero, List.set_cons_succ, List.nil_append, List.cons_append, List.all_cons, List.all_nil, Option.map_some, Nat.reduceAdd, Nat.reduceSub, Nat.reduceEqDiff, Nat.reduceLeDiff, true_and, and_self, eq_self, Bool.false_eq_true, ↓reduceIte, Nat.zero_add, Nat.le_refl, TT92]
    refine ACall.intro hop ?_
    simp only [ac_seq, ac_region, at_normal, ao_nil, ao_cons, ao_guard_t, st_at, pk_at, if_t, as_pick, as_call, as_move, as_assign, as_binOp, as_extract, i64, fr_false, List.contains_nil, beq_self_eq_true, decide_true, hk_some, hopG, rd, aopsD, frzW, frzR, constT, evT, lk, putT, GV, gdst, binF, argsF, constA, cellA, List.getElem?_cons_zero, List.getElem?_cons_succ, Option.map_some, Nat.reduceSub, Nat.reduceEqDiff, Nat.reduceLeDiff, true_and, eq_self, Bool.false_eq_true, ↓reduceIte, TT61]
    refine ACall.intro (refSame_a _ _) ?_
    simp only [hlen, i64_in (n := (B.length : Int) + 20) (by omega) (by omega), ao_cons, ao_guard_t, st_at, pk_at, if_t, as_pick, as_call, as_move, as_binOp, as_len, boA, beq_self_eq_true, decide_true, hk_some, hopG, hopF, rd, frzW, frzR, constT, evT, lk, putT, GV, gdst, lenF, binF, argsF, constA, cellA, Option.map_some, Nat.reduceSub, Nat.reduceEqDiff, true_and, eq_self, ↓reduceIte, TT3, TT38]
    refine ACall.intro lives29_a ?_
    simp only [ac_ret, at_normal, ae_ret, ao_nil, ao_cons, pk_at, if_t, as_pick, as_assign, boA, beq_self_eq_true, rd, evT, lk, putT, resF, resL, Option.map_some, Option.bind_some, Nat.reduceSub, Nat.reduceEqDiff, and_true, and_self, eq_self, ↓reduceIte]
end Go.Proofs.Ytafajmnlknmfiaa
