/- Package errs, and its statement. -/
import Derived.Test.YtafajmnlknmfiaaUB
import Derived.Test.YtafajmnlknmfiaaQC
namespace Go.Proofs.Ytafajmnlknmfiaa
set_option linter.unusedSimpArgs false
set_option linter.unusedVariables false
open Go.RowKit

def replyP (from_ to_ t c r : Int) (l : List UInt8) : PktN := ⟨0, 0, true, false, 0, 64, 1, from_, to_, [], icmpB t c r l⟩
set_option maxRecDepth 100000 in
theorem errsReply_a (from_ to_ t c r : Int) (l : List UInt8) (ht : 0 ≤ t ∧ t ≤ 255) (hc : 0 ≤ c ∧ c ≤ 255) (hr : 0 ≤ r ∧ r ≤ 4294967295) (hl : l.length ≤ 100000) : ASpec Try.prog 174 [u32A from_, u32A to_, icmpA t c r l] (pktA (replyP from_ to_ t c r l)) := by
  refine ASpec.of_body TT_ok Try.mixed _ [.cell 6 92] ([], []) Try.func174 (by kernel_rfl) rfl rfl (by simp only [Try.ntmps174, List.length_cons, List.length_nil]; omega) rfl (by kernel_rfl) ?_
  simp only [argE_cons, argE_nil, ac_seq, ac_region, at_normal, ao_nil, ao_cons, as_call, as_box, as_alloc, as_move, as_load, icmpA, pktL, pktA, u8A, u16A, u32A, boA, fr_false, List.contains_nil, beq_self_eq_true, hk_some, hopG, rd, aopsD, heapF, frzW, frzR, evT, lk, putT, loadF, cellsF, argsF, TK.isAgg, List.length_cons, List.length_nil, List.getElem?_cons_zero, List.drop_zero, List.take_succ_cons, List.take_nil, List.nil_append, List.cons_append, Option.map_some, Nat.reduceAdd, Nat.reduceSub, Nat.reduceEqDiff, Nat.reduceLeDiff, Nat.succ_ne_zero, true_and, eq_self, reduceCtorEq, Bool.false_eq_true, ↓reduceIte, Nat.zero_add, Nat.le_refl, TT92, TT134]
  refine ACall.intro (icmpPut_a t c r l ht hc hr hl) ?_
  simp only [ac_ret, at_normal, ae_ret, ao_nil, ao_cons, as_store, as_build, fr_nil, fr_cons, beq_self_eq_true, Bool.and_self, hk_some, hopG, rd, heapF, constT, evT, lk, putT, loadF, cellsF, ovw, fillF, buildF, partsF, okCell, resF, resL, constA, cellA, TK.isAgg, Value.oneCell', List.length_cons, List.length_nil, List.getElem?_cons_zero, List.getElem?_cons_succ, List.drop_zero, List.take_succ_cons, List.take_nil, List.set_cons_zero, List.set_cons_succ, List.all_cons, List.all_nil, Option.map_some, Option.bind_some, Nat.reduceAdd, Nat.reduceSub, Nat.reduceEqDiff, Nat.reduceLeDiff, true_and, and_true, and_self, eq_self, ↓reduceIte, Nat.zero_add, Nat.le_refl, TT92]
  try rfl
set_option maxRecDepth 100000 in
theorem errsEcho_no (p : PktN) (t c r : Int) (l : List UInt8) (h : ¬ t = 8) : ASpec Try.prog 171 [pktA p, icmpA t c r l] (.tup [pktA pkt0, boA false]) := by
  refine ASpec.of_body TT_ok Try.mixed _ [.cell 4 92, .tmp 5] ([], []) Try.func171 (by kernel_rfl) rfl rfl (by simp only [Try.ntmps171, List.length_cons, List.length_nil]; omega) rfl (by kernel_rfl) ?_
  simp only [decide_eq_false h, argE_cons, argE_nil, ac_ret, ac_seq, ac_cond, ac_region, at_normal, at_ret, ae_ret, ao_nil, ao_cons, ao_guard_f, sk_at, pk_at, if_t, as_pick, as_box, as_alloc, as_store, as_move, as_assign, as_binOp, as_load, as_fieldAddr, as_build, icmpA, pktL, pktA, u8A, u16A, u32A, boA, fr_false, fr_nil, fr_cons, List.contains_nil, beq_self_eq_true, Bool.and_self, hk_some, hopG, rd, aopsD, heapF, constT, evT, lk, putT, GV, gdst, binF, loadF, cellsF, ovw, fillF, buildF, partsF, okCell, resF, resL, constA, cellA, TK.isAgg, Value.oneCell', List.length_cons, List.length_nil, List.getElem?_cons_zero, List.getElem?_cons_succ, List.drop_zero, List.take_succ_cons, List.take_nil, List.set_cons_zero, List.set_cons_succ, List.nil_append, List.cons_append, List.all_cons, List.all_nil, Option.map_some, Option.bind_some, Nat.reduceAdd, Nat.reduceSub, Nat.reduceEqDiff, Nat.reduceLeDiff, Nat.succ_ne_zero, ne_eq, not_false_eq_true, true_and, and_true, and_self, eq_self, reduceCtorEq, Bool.false_eq_true, Bool.not_false, ↓reduceIte, Nat.zero_add, Nat.add_zero, Nat.le_refl, TT5, TT92, TT134]
  try rfl
set_option maxRecDepth 100000 in
theorem errsEcho_a (p : PktN) (r : Int) (l : List UInt8) (hr : 0 ≤ r ∧ r ≤ 4294967295) (hl : l.length ≤ 100000) : ASpec Try.prog 171 [pktA p, icmpA 8 0 r l] (.tup [pktA (replyP p.dst p.src 0 0 r l), boA true]) := by
  refine ASpec.of_body TT_ok Try.mixed _ [.cell 4 92, .tmp 5] ([], []) Try.func171 (by kernel_rfl) rfl rfl (by simp only [Try.ntmps171, List.length_cons, List.length_nil]; omega) rfl (by kernel_rfl) ?_
  simp only [argE_cons, argE_nil, ac_skip, ac_seq, ac_cond, ac_region, at_normal, ao_nil, ao_cons, ao_guard_f, st_at, pk_at, if_f, as_pick, as_call, as_box, as_alloc, as_move, as_assign, as_binOp, as_load, as_fieldAddr, icmpA, pktL, pktA, u8A, u16A, u32A, boA, fr_false, List.contains_nil, Nat.reduceBEq, beq_self_eq_true, decide_true, hk_some, hopG, rd, aopsD, heapF, frzW, tlN, constT, evT, lk, putT, GV, gdst, binF, loadF, cellsF, argsF, constA, cellA, TK.isAgg, List.length_cons, List.length_nil, List.getElem?_cons_zero, List.getElem?_cons_succ, List.drop_zero, List.drop_succ_cons, List.take_succ_cons, List.take_nil, List.nil_append, List.cons_append, Option.map_some, Nat.reduceAdd, Nat.reduceSub, Nat.reduceEqDiff, Nat.reduceLeDiff, Nat.succ_ne_zero, ne_eq, not_false_eq_true, true_and, eq_self, reduceCtorEq, Bool.false_eq_true, Bool.not_true, ↓reduceIte, Nat.zero_add, Nat.add_zero, Nat.le_refl, TT5, TT22, TT92, TT134]
  refine ACall.intro (answer_a 8 0 r l (by simp only [small]; omega)) ?_
  simp only [ao_cons, as_call, icmpA, u8A, u32A, Nat.reduceBEq, rd, frzW, evT, lk, putT, argsF, Option.map_some, Nat.reduceSub, Nat.reduceEqDiff, eq_self, ↓reduceIte]
  refine ACall.intro (errsReply_a p.dst p.src 0 0 r l (by omega) (by omega) hr hl) ?_
  simp only [ac_ret, at_normal, ae_ret, ao_nil, ao_cons, as_store, as_assign, pktL, pktA, u8A, u16A, u32A, boA, fr_nil, fr_cons, Nat.reduceBEq, Bool.and_self, rd, heapF, constT, evT, lk, putT, loadF, cellsF, ovw, okCell, resF, resL, constA, cellA, TK.isAgg, Value.oneCell', List.length_cons, List.length_nil, List.getElem?_cons_zero, List.getElem?_cons_succ, List.drop_zero, List.take_succ_cons, List.take_nil, List.set_cons_zero, List.set_cons_succ, List.all_cons, List.all_nil, Option.map_some, Option.bind_some, Nat.reduceAdd, Nat.reduceSub, Nat.reduceEqDiff, and_true, and_self, eq_self, ↓reduceIte, Nat.zero_add, Nat.le_refl, TT92]
  try rfl
def quietP (p : PktN) : Bool := decide (p.proto = 1) && (decide (p.data.length = 0) || (!decide (byteN p.data 0 = 8) && !decide (byteN p.data 0 = 0)))
set_option maxRecDepth 100000 in
theorem errsQuiet_a (p : PktN) : ASpec Try.prog 173 [pktA p] (boA (quietP p)) := by
  refine ASpec.of_body TT_ok Try.mixed _ [.tmp 2] ([], []) Try.func173 (by kernel_rfl) rfl rfl (by simp only [Try.ntmps173, List.length_cons, List.length_nil]; omega) rfl (by kernel_rfl) ?_
  simp only [argE_cons, argE_nil, ac_seq, ac_cond, ac_region, at_normal, ao_nil, ao_cons, as_box, as_assign, as_binOp, as_load, as_fieldAddr, pktL, pktA, u8A, u16A, u32A, boA, fr_false, List.contains_nil, beq_self_eq_true, hk_some, hopG, rd, aopsD, heapF, constT, evT, lk, putT, binF, loadF, cellsF, constA, cellA, TK.isAgg, List.length_nil, List.getElem?_cons_zero, List.getElem?_cons_succ, List.drop_zero, List.drop_succ_cons, List.nil_append, Option.map_some, Nat.reduceSub, Nat.reduceEqDiff, Nat.reduceLeDiff, Nat.succ_ne_zero, ne_eq, not_false_eq_true, true_and, eq_self, Bool.false_eq_true, ↓reduceIte, Nat.zero_add, TT5, TT92]
  cases c1 : decide (p.proto = 1)
  · simp only [ac_ret, ac_seq, ac_region, at_normal, at_ret, ae_ret, ao_nil, ao_cons, if_t, as_assign, fr_false, List.contains_nil, beq_self_eq_true, rd, aopsD, constT, evT, lk, putT, resF, resL, constA, cellA, Option.map_some, Option.bind_some, Nat.reduceSub, Nat.reduceLeDiff, true_and, and_true, eq_self, Bool.false_eq_true, Bool.not_false, ↓reduceIte]
    simp [quietP, c1]
  · simp only [ac_skip, ac_seq, ac_region, at_normal, ao_cons, ao_guard_f, if_f, as_move, as_binOp, as_load, as_fieldAddr, as_len, fr_false, List.contains_nil, beq_self_eq_true, hk_some, hopG, hopF, rd, aopsD, constT, evT, lk, putT, GV, gdst, lenF, binF, loadF, constA, cellA, TK.isAgg, List.getElem?_cons_zero, List.getElem?_cons_succ, List.drop_zero, List.drop_succ_cons, Option.map_some, Nat.reduceSub, Nat.reduceEqDiff, Nat.reduceLeDiff, Nat.succ_ne_zero, ne_eq, not_false_eq_true, true_and, eq_self, Bool.false_eq_true, Bool.not_true, ↓reduceIte, Nat.zero_add, TT3, TT38, TT92]
    cases c2 : decide ((p.data.length : Int) = 0)
    · have h2 := dF.1 c2
      simp only [getD_byteN, ao_guard_t, ao_guard_f, st_at, if_f, as_move, as_binOp, as_load, as_fieldAddr, as_indexAddr, beq_self_eq_true, hk_some, hopG, rd, constT, evT, lk, putT, GV, gdst, binF, loadF, constA, cellA, TK.isAgg, List.getElem?_cons_zero, List.getElem?_cons_succ, List.drop_zero, List.drop_succ_cons, Option.map_some, Nat.reduceSub, Nat.reduceEqDiff, Nat.succ_ne_zero, ne_eq, not_false_eq_true, true_and, eq_self, Bool.false_eq_true, ↓reduceIte, Int.toNat_zero, Int.reduceLE, Nat.zero_add, TT5, TT38, TT92]
      refine ⟨by omega, ?_⟩
      have e2 : decide (p.data.length = 0) = false := dF.2 (by omega)
      cases c3 : decide (byteN p.data 0 = 8)
      · simp only [getD_byteN, ac_ret, at_normal, ae_ret, ao_nil, ao_cons, ao_guard_t, ao_guard_f, st_at, pk_at, if_t, if_f, as_pick, as_assign, as_binOp, as_load, as_fieldAddr, as_indexAddr, beq_self_eq_true, hk_some, hopG, rd, constT, evT, lk, putT, GV, gdst, binF, loadF, resF, resL, constA, cellA, TK.isAgg, List.getElem?_cons_zero, List.getElem?_cons_succ, List.drop_zero, List.drop_succ_cons, Option.map_some, Option.bind_some, Nat.reduceSub, Nat.reduceEqDiff, Nat.succ_ne_zero, ne_eq, not_false_eq_true, true_and, and_true, eq_self, Bool.false_eq_true, Bool.not_false, ↓reduceIte, Int.toNat_zero, Int.reduceLE, Nat.zero_add, TT5, TT38, TT92]
        refine ⟨by omega, ?_⟩
        rw [quietP, c1, e2, c3]
        simp
      · simp only [ac_ret, at_normal, ae_ret, ao_nil, ao_cons, ao_guard_t, ao_guard_f, st_at, sk_at, pk_at, if_f, as_pick, as_assign, beq_self_eq_true, rd, constT, evT, lk, putT, GV, gdst, resF, resL, constA, cellA, Option.map_some, Option.bind_some, Nat.reduceSub, Nat.reduceEqDiff, true_and, and_true, eq_self, Bool.not_true, ↓reduceIte]
        rw [quietP, c1, e2, c3]
        try rfl
    · have e2 : decide (p.data.length = 0) = true := dT.2 (by have := dT.1 c2; omega)
      simp only [ac_ret, at_normal, ae_ret, ao_nil, ao_cons, ao_guard_t, ao_guard_f, sk_at, pk_at, if_t, as_pick, as_assign, beq_self_eq_true, rd, constT, evT, lk, putT, GV, gdst, resF, resL, constA, cellA, Option.map_some, Option.bind_some, Nat.reduceSub, Nat.reduceEqDiff, true_and, and_true, eq_self, ↓reduceIte]
      rw [quietP, c1, e2]
      try rfl
def bigP (c : CfgN) (b : List UInt8) (mtu : Int) : PktN × Bool :=
  if (ipP b).2 = 0 ∧ (ipP b).1.df = true ∧ quietP (ipP b).1 = false then (replyP c.a0 (ipP b).1.src 3 4 mtu ((ownP b).take 28), true) else (pkt0, false)
set_option maxRecDepth 100000 in
theorem errsBig_a (c : CfgN) (b : List UInt8) (mtu : Int) (hl : b.length ≤ 100000) (hm : 0 ≤ mtu ∧ mtu ≤ 65535) : ASpec Try.prog 116 [cfgA c, .bs b, i64 mtu] (.tup [pktA (bigP c b mtu).1, boA (bigP c b mtu).2]) := by
  have hsm : small b := by simp only [small]; omega
  have n2 := get16_bd b 2
  refine ASpec.of_body TT_ok Try.mixed _ [.cell 6 92, .tmp 7] ([], []) Try.func116 (by kernel_rfl) rfl rfl (by simp only [Try.ntmps116, List.length_cons, List.length_nil]; omega) rfl (by kernel_rfl) ?_
  simp only [argE_cons, argE_nil, ac_seq, ac_region, at_normal, ao_nil, ao_cons, as_call, as_box, as_alloc, as_move, as_assign, pktL, pktA, cfgL, cfgA, u8A, u16A, u32A, i64, boA, fr_false, List.contains_nil, beq_self_eq_true, rd, aopsD, heapF, frzW, frzR, constT, evT, lk, putT, cellsF, argsF, constA, cellA, List.length_cons, List.length_nil, List.nil_append, List.cons_append, Option.map_some, Nat.reduceAdd, Nat.reduceSub, Nat.reduceEqDiff, Nat.reduceLeDiff, true_and, eq_self, reduceCtorEq, Bool.false_eq_true, ↓reduceIte, Nat.zero_add, TT92]
  refine ACall.intro (ipParse_a b (by omega)) ?_
  cases he : decide ((ipP b).2 = 0)
  · have hno : bigP c b mtu = (pkt0, false) := if_neg (fun h => dF.1 he h.1)
    rw [hno]
    simp only [he, ac_ret, ac_seq, ac_cond, ac_region, at_normal, at_ret, ae_ret, ao_nil, ao_cons, ao_guard_f, sk_at, pk_at, if_t, as_pick, as_alloc, as_store, as_move, as_assign, as_binOp, as_extract, as_build, pktL, pktA, u8A, u16A, u32A, i64, boA, fr_false, fr_nil, fr_cons, List.contains_nil, beq_self_eq_true, Bool.and_self, hk_some, hopG, rd, aopsD, heapF, constT, evT, lk, putT, GV, gdst, binF, loadF, cellsF, ovw, fillF, buildF, partsF, okCell, resF, resL, constA, cellA, TK.isAgg, Value.oneCell', List.length_cons, List.length_nil, List.getElem?_cons_zero, List.getElem?_cons_succ, List.drop_zero, List.take_succ_cons, List.take_nil, List.set_cons_zero, List.set_cons_succ, List.nil_append, List.cons_append, List.all_cons, List.all_nil, Option.map_some, Option.bind_some, Nat.reduceAdd, Nat.reduceSub, Nat.reduceEqDiff, Nat.reduceLeDiff, true_and, and_true, and_self, eq_self, Bool.false_eq_true, Bool.not_false, ↓reduceIte, Nat.zero_add, Nat.le_refl, TT61, TT92]
    try rfl
  · have he' := dT.1 he
    obtain ⟨h1, h2, h3⟩ := ipP_size b he'
    obtain ⟨_, _, h4, h5, _, _⟩ := ipP_ok b he'
    cases hdf : (ipP b).1.df
    · have hno : bigP c b mtu = (pkt0, false) := if_neg (fun h => by rw [hdf] at h; exact absurd h.2.1 (by simp))
      rw [hno]
      simp only [he, hdf, ac_ret, ac_seq, ac_cond, ac_region, at_normal, at_ret, ae_ret, ao_nil, ao_cons, ao_guard_f, st_at, sk_at, pk_at, if_t, if_f, as_pick, as_alloc, as_store, as_move, as_assign, as_binOp, as_unOp, as_load, as_fieldAddr, as_extract, as_build, pktL, pktA, u8A, u16A, u32A, i64, boA, fr_false, fr_nil, fr_cons, List.contains_nil, beq_self_eq_true, Bool.and_self, hk_some, hopG, rd, aopsD, heapF, constT, evT, lk, putT, GV, gdst, binF, unF, loadF, cellsF, ovw, fillF, buildF, partsF, okCell, resF, resL, constA, cellA, TK.isAgg, Value.oneCell', List.length_cons, List.length_nil, List.getElem?_cons_zero, List.getElem?_cons_succ, List.drop_zero, List.drop_succ_cons, List.take_succ_cons, List.take_nil, List.set_cons_zero, List.set_cons_succ, List.nil_append, List.cons_append, List.all_cons, List.all_nil, Option.map_some, Option.bind_some, Nat.reduceAdd, Nat.reduceSub, Nat.reduceEqDiff, Nat.reduceLeDiff, Nat.succ_ne_zero, ne_eq, not_false_eq_true, true_and, and_true, and_self, eq_self, Bool.false_eq_true, Bool.not_true, Bool.not_false, ↓reduceIte, Nat.zero_add, Nat.le_refl, TT4, TT61, TT92]
      try rfl
    · simp only [he, hdf, ac_seq, ac_region, at_normal, ao_nil, ao_cons, ao_guard_f, st_at, pk_at, if_f, as_pick, as_call, as_alloc, as_store, as_move, as_assign, as_binOp, as_unOp, as_load, as_fieldAddr, as_extract, pktL, pktA, u8A, u16A, u32A, i64, boA, fr_false, List.contains_nil, beq_self_eq_true, Bool.and_self, hk_some, hopG, rd, aopsD, heapF, frzW, frzR, constT, evT, lk, putT, GV, gdst, binF, unF, loadF, cellsF, ovw, argsF, okCell, constA, cellA, TK.isAgg, Value.oneCell', List.length_cons, List.length_nil, List.getElem?_cons_zero, List.getElem?_cons_succ, List.drop_zero, List.drop_succ_cons, List.take_succ_cons, List.take_nil, List.set_cons_zero, List.set_cons_succ, List.nil_append, List.cons_append, List.all_cons, List.all_nil, Option.map_some, Nat.reduceAdd, Nat.reduceSub, Nat.reduceEqDiff, Nat.reduceLeDiff, Nat.succ_ne_zero, ne_eq, not_false_eq_true, true_and, and_self, eq_self, Bool.false_eq_true, Bool.not_true, ↓reduceIte, Nat.zero_add, Nat.le_refl, TT4, TT61, TT92]
      have hq := errsQuiet_a (ipP b).1
      rw [show pktA (ipP b).1 = pktA { (ipP b).1 with df := true } by rw [← hdf]] at hq
      refine ACall.intro hq ?_
      cases hqu : quietP (ipP b).1
      · have hyes : bigP c b mtu = (replyP c.a0 (ipP b).1.src 3 4 mtu ((ownP b).take 28), true) := if_pos ⟨he', hdf, hqu⟩
        rw [hyes]
        simp only [ac_skip, ac_seq, ac_cond, ac_region, at_normal, ao_nil, ao_cons, pk_at, if_f, as_pick, as_call, as_move, as_load, boA, fr_false, List.contains_nil, Nat.reduceBEq, beq_self_eq_true, hk_some, hopG, rd, aopsD, frzW, tlN, evT, lk, putT, loadF, argsF, TK.isAgg, List.length_cons, List.length_nil, List.getElem?_cons_zero, List.getElem?_cons_succ, List.drop_zero, List.take_succ_cons, List.take_nil, Option.map_some, Nat.reduceAdd, Nat.reduceSub, Nat.reduceEqDiff, Nat.reduceLeDiff, true_and, eq_self, reduceCtorEq, ↓reduceIte, Nat.zero_add, Nat.le_refl, TT92]
        have hsz := ipSize_a (ipP b).1 (by omega)
        rw [show pktA (ipP b).1 = pktA { (ipP b).1 with df := true } by rw [← hdf]] at hsz
        refine ACall.intro hsz ?_
        have e : IntKind.i64.wrap (20 + ((ipP b).1.opts.length : Int) + ((ipP b).1.data.length : Int)) = get16 b 2 := by rw [i64_in (by omega) (by omega)]; exact h1
        simp only [e, ao_cons, as_call, as_binOp, as_load, as_fieldAddr, as_len, i64, Nat.reduceBEq, hk_some, hopG, hopF, rd, frzW, constT, evT, lk, putT, lenF, binF, loadF, argsF, constA, cellA, TK.isAgg, List.getElem?_cons_zero, List.getElem?_cons_succ, List.drop_zero, List.drop_succ_cons, Option.map_some, Nat.reduceSub, Nat.reduceEqDiff, Nat.succ_ne_zero, ne_eq, not_false_eq_true, true_and, eq_self, Bool.false_eq_true, ↓reduceIte, Nat.zero_add, TT3, TT38, TT92]
        refine ACall.intro (cut_a b 0 _ (by omega) hsm) ?_
        have hcut : cutB b 0 (get16 b 2) = ownP b := by
          obtain ⟨k, hk⟩ := Int.eq_ofNat_of_zero_le n2.1
          rw [ownP, if_pos he', hk]
          exact cutB_take b (by omega)
        have hol := ownP_len b
        rw [hcut]
        simp only [u32_in (n := mtu) (by omega) (by omega), ac_seq, ac_region, at_normal, ao_nil, ao_cons, as_call, as_move, as_assign, as_convert, as_load, as_fieldAddr, as_indexAddr, as_extract, boA, fr_false, List.contains_nil, Nat.reduceBEq, Int.cast_ofNat_Int, hk_some, hopG, rd, aopsD, frzW, tlN, constT, evT, lk, putT, convF, loadF, argsF, constA, cellA, TK.isAgg, List.length_cons, List.length_nil, List.getElem?_cons_zero, List.getElem?_cons_succ, List.drop_zero, List.drop_succ_cons, Option.map_some, Nat.reduceAdd, Nat.reduceSub, Nat.reduceEqDiff, Nat.reduceLeDiff, Nat.succ_ne_zero, ne_eq, not_false_eq_true, true_and, and_self, eq_self, reduceCtorEq, Bool.false_eq_true, ↓reduceIte, Int.toNat_zero, Int.reduceLT, Int.reduceLE, Nat.mul_one, Nat.zero_add, Nat.add_zero, TT3, TT22, TT31, TT37, TT92]
        refine ACall.intro (failed_a 3 4 mtu (ownP b) (by simp only [small]; omega)) ?_
        simp only [ao_cons, as_call, icmpA, u8A, u32A, Nat.reduceBEq, rd, frzW, evT, lk, putT, argsF, Option.map_some, Nat.reduceSub, Nat.reduceEqDiff, eq_self, ↓reduceIte]
        refine ACall.intro (errsReply_a c.a0 (ipP b).1.src 3 4 mtu _ (by omega) (by omega) (by omega) (by simp; omega)) ?_
        simp only [ac_ret, at_normal, ae_ret, ao_nil, ao_cons, as_store, as_assign, pktL, pktA, u8A, u16A, u32A, boA, fr_nil, fr_cons, Nat.reduceBEq, Bool.and_self, rd, heapF, constT, evT, lk, putT, loadF, cellsF, ovw, okCell, resF, resL, constA, cellA, TK.isAgg, Value.oneCell', List.length_cons, List.length_nil, List.getElem?_cons_zero, List.getElem?_cons_succ, List.drop_zero, List.take_succ_cons, List.take_nil, List.set_cons_zero, List.set_cons_succ, List.all_cons, List.all_nil, Option.map_some, Option.bind_some, Nat.reduceAdd, Nat.reduceSub, Nat.reduceEqDiff, and_true, and_self, eq_self, ↓reduceIte, Nat.zero_add, Nat.le_refl, TT92]
        try rfl
      · have hno : bigP c b mtu = (pkt0, false) := if_neg (fun h => by rw [hqu] at h; exact absurd h.2.2 (by simp))
        rw [hno]
        simp only [ac_ret, ac_seq, ac_cond, ac_region, at_normal, at_ret, ae_ret, ao_nil, ao_cons, pk_at, if_t, if_f, as_pick, as_store, as_assign, as_build, boA, fr_false, fr_nil, fr_cons, List.contains_nil, beq_self_eq_true, Bool.and_self, hk_some, hopG, rd, aopsD, heapF, constT, evT, lk, putT, loadF, cellsF, ovw, fillF, buildF, partsF, okCell, resF, resL, constA, cellA, TK.isAgg, Value.oneCell', List.length_cons, List.length_nil, List.getElem?_cons_zero, List.getElem?_cons_succ, List.drop_zero, List.take_succ_cons, List.take_nil, List.set_cons_zero, List.set_cons_succ, List.all_cons, List.all_nil, Option.map_some, Option.bind_some, Nat.reduceAdd, Nat.reduceSub, Nat.reduceEqDiff, Nat.reduceLeDiff, true_and, and_true, and_self, eq_self, Bool.false_eq_true, ↓reduceIte, Nat.zero_add, Nat.le_refl, TT92]
        try rfl
set_option maxRecDepth 100000 in
theorem lives30_a : ASpec Try.prog 115 [] (boA true) := by
  have hl : ((icmpB 0 0 196612 []).length : Int) = 8 := by rw [icmpB_len]; rfl
  have h0 : byteN (icmpB 0 0 196612 []) 0 = 0 := by rw [icmpB_eq]; rfl
  refine ASpec.of_body TT_ok Try.mixed _ [.tmp 0] ([], []) Try.func115 (by kernel_rfl) rfl rfl (by simp only [Try.ntmps115, List.length_nil]; omega) rfl (by kernel_rfl) ?_
  simp only [argE_nil, ac_seq, ac_region, at_normal, ao_nil, ao_cons, as_call, as_assign, as_build, boA, fr_false, List.contains_nil, beq_self_eq_true, hk_some, hopG, rd, aopsD, frzW, frzR, constT, evT, putT, cellsF, ovw, fillF, buildF, partsF, argsF, constA, cellA, Value.oneCell', List.length_cons, List.length_nil, List.getElem?_cons_zero, List.getElem?_cons_succ, List.set_cons_zero, List.set_cons_succ, Option.map_some, Nat.reduceAdd, Nat.reduceSub, Nat.reduceLeDiff, true_and, and_self, eq_self, Bool.false_eq_true, ↓reduceIte, Nat.zero_add, TT92]
  refine ACall.intro (ask_a 3 4 [] (by omega) (by omega) (by simp)) ?_
  simp only [ao_cons, as_call, icmpA, u8A, u32A, beq_self_eq_true, rd, frzW, frzR, evT, lk, putT, argsF, Option.map_some, Nat.reduceSub, Nat.reduceEqDiff, eq_self, ↓reduceIte, Int.reduceMul, Int.reduceAdd]
  refine ACall.intro (errsEcho_a ⟨0, 0, false, false, 0, 0, 0, 1, 2, [], []⟩ 196612 [] (by omega) (by simp)) ?_
  simp only [ac_seq, ac_region, at_normal, ao_nil, ao_cons, as_call, as_alloc, as_store, as_move, as_assign, as_extract, as_build, pktL, pktA, u8A, u16A, u32A, boA, fr_false, List.contains_nil, beq_self_eq_true, Bool.and_self, hk_some, hopG, rd, aopsD, heapF, frzW, frzR, evT, lk, putT, cellsF, ovw, fillF, buildF, partsF, argsF, okCell, Value.oneCell', List.length_cons, List.length_nil, List.getElem?_cons_zero, List.getElem?_cons_succ, List.set_cons_zero, List.set_cons_succ, List.nil_append, List.all_cons, List.all_nil, Option.map_some, Nat.reduceAdd, Nat.reduceSub, Nat.reduceEqDiff, Nat.reduceLeDiff, true_and, and_self, eq_self, Bool.false_eq_true, ↓reduceIte, Nat.zero_add, Nat.le_refl, TT92, TT134]
  refine ACall.intro (errsEcho_no pkt0 0 0 0 [] (by omega)) ?_
  simp only [replyP, hl, getD_byteN, h0, ac_ret, ac_seq, ac_region, at_normal, ae_ret, ao_nil, ao_cons, ao_guard_t, st_at, pk_at, if_t, as_pick, as_alloc, as_store, as_move, as_assign, as_binOp, as_unOp, as_load, as_fieldAddr, as_indexAddr, as_extract, as_len, pktL, pktA, u8A, u16A, u32A, boA, fr_false, List.contains_nil, beq_self_eq_true, decide_true, Bool.and_self, hk_some, hopG, hopF, rd, aopsD, heapF, constT, evT, lk, putT, GV, gdst, lenF, binF, unF, loadF, cellsF, ovw, okCell, resF, resL, constA, cellA, TK.isAgg, Value.oneCell', List.length_cons, List.length_nil, List.getElem?_cons_zero, List.getElem?_cons_succ, List.drop_zero, List.drop_succ_cons, List.set_cons_zero, List.set_cons_succ, List.nil_append, List.cons_append, List.all_cons, List.all_nil, Option.map_some, Option.bind_some, Nat.reduceAdd, Nat.reduceSub, Nat.reduceEqDiff, Nat.reduceLeDiff, Nat.succ_ne_zero, ne_eq, not_false_eq_true, and_true, and_self, eq_self, Bool.false_eq_true, Bool.not_false, ↓reduceIte, Int.toNat_zero, Int.reduceLT, Int.reduceLE, Nat.zero_add, Nat.le_refl, TT3, TT5, TT22, TT38, TT92]
set_option maxRecDepth 100000 in
theorem errsTells_a (c : CfgN) (s : PktN) (mtu : Int) (hc : c.ok) (hs : s.ok) (hmtu : 0 ≤ mtu ∧ mtu ≤ 65535) : ASpec Try.prog 29 [cfgA c, pktA s, u16A mtu] (boA true) := by
  obtain ⟨t, ht⟩ : ∃ t : PktN, t = { s with opts := s.opts.take 50, data := s.data.take 300 } := ⟨_, rfl⟩
  have hto : t.ok := by subst ht; obtain ⟨k1, k2, k3, k4, k5, k6, k7⟩ := hs; constructor <;> assumption
  have l1 : t.opts.length ≤ 50 := by subst ht; simp; omega
  have l2 : t.data.length ≤ 300 := by subst ht; simp; omega
  have hlen := ipB_len t
  refine ASpec.of_body TT_ok Try.mixed _ [.tmp 6] ([], []) Try.func29 (by kernel_rfl) rfl rfl (by simp only [Try.ntmps29, List.length_cons, List.length_nil]; omega) rfl (by kernel_rfl) ?_
  simp only [argE_cons, argE_nil, ac_seq, ac_region, at_normal, ao_nil, ao_cons, as_call, as_box, as_assign, as_load, pktL, pktA, cfgL, cfgA, u8A, u16A, u32A, i64, boA, fr_false, List.contains_nil, beq_self_eq_true, hk_some, hopG, rd, aopsD, heapF, frzW, frzR, constT, evT, lk, putT, loadF, cellsF, argsF, constA, cellA, TK.isAgg, List.length_cons, List.length_nil, List.getElem?_cons_zero, List.getElem?_cons_succ, List.drop_zero, List.take_succ_cons, List.take_nil, List.nil_append, List.append_eq, List.cons_append, Option.map_some, Nat.reduceAdd, Nat.reduceSub, Nat.reduceEqDiff, Nat.reduceLeDiff, true_and, eq_self, reduceCtorEq, Bool.false_eq_true, ↓reduceIte, Nat.zero_add, Nat.le_refl, TT92]
  refine ACall.intro (refFew06_a s) ?_
  rw [← ht]
  clear ht
  simp only [ac_seq, ac_region, at_normal, ao_nil, ao_cons, ao_guard_f, as_store, as_move, as_binOp, as_load, as_fieldAddr, as_len, pktL, pktA, u8A, u16A, u32A, boA, fr_false, List.contains_nil, beq_self_eq_true, Bool.and_self, hk_some, hopG, hopF, rd, aopsD, heapF, constT, evT, lk, putT, GV, gdst, lenF, binF, loadF, cellsF, ovw, okCell, constA, cellA, TK.isAgg, Value.oneCell', List.length_cons, List.length_nil, List.getElem?_cons_zero, List.getElem?_cons_succ, List.drop_zero, List.drop_succ_cons, List.set_cons_zero, List.set_cons_succ, List.all_cons, List.all_nil, Option.map_some, Nat.reduceAdd, Nat.reduceSub, Nat.reduceEqDiff, Nat.reduceLeDiff, Nat.succ_ne_zero, ne_eq, not_false_eq_true, true_and, and_self, eq_self, Bool.false_eq_true, ↓reduceIte, Nat.zero_add, Nat.le_refl, TT3, TT38, TT92]
  cases h1 : decide (0 < (t.opts.length : Int))
  · simp only [ao_cons, ao_guard_f, st_at, pk_at, if_f, as_pick, as_move, as_binOp, as_load, as_fieldAddr, as_len, beq_self_eq_true, hk_some, hopG, hopF, rd, constT, evT, lk, putT, GV, gdst, lenF, binF, loadF, constA, cellA, TK.isAgg, List.getElem?_cons_zero, List.getElem?_cons_succ, List.drop_zero, List.drop_succ_cons, Option.map_some, Nat.reduceSub, Nat.reduceEqDiff, Nat.succ_ne_zero, ne_eq, not_false_eq_true, true_and, eq_self, Bool.false_eq_true, ↓reduceIte, Nat.zero_add, TT3, TT38, TT92]
    cases h2 : decide ((t.data.length : Int) < 4)
    · simp only [ao_cons, ao_guard_f, st_at, pk_at, if_f, as_pick, as_move, as_load, as_fieldAddr, beq_self_eq_true, hk_some, hopG, rd, evT, lk, putT, GV, gdst, loadF, TK.isAgg, List.getElem?_cons_zero, List.getElem?_cons_succ, List.drop_zero, List.drop_succ_cons, Option.map_some, Nat.reduceSub, Nat.reduceEqDiff, Nat.succ_ne_zero, ne_eq, not_false_eq_true, true_and, eq_self, Bool.false_eq_true, ↓reduceIte, Nat.zero_add, TT4, TT92]
      cases h3 : t.mf
      · simp only [ao_cons, ao_guard_f, st_at, pk_at, if_f, as_pick, as_move, as_binOp, as_load, as_fieldAddr, beq_self_eq_true, hk_some, hopG, rd, constT, evT, lk, putT, GV, gdst, binF, loadF, constA, cellA, TK.isAgg, List.getElem?_cons_zero, List.getElem?_cons_succ, List.drop_zero, List.drop_succ_cons, Option.map_some, Nat.reduceSub, Nat.reduceEqDiff, Nat.succ_ne_zero, ne_eq, not_false_eq_true, true_and, eq_self, Bool.false_eq_true, ↓reduceIte, Nat.zero_add, TT23, TT92]
        cases h4 : decide (0 < t.off)
        · have ho : t.opts = [] := List.eq_nil_of_length_eq_zero (by have := dF.1 h1; omega)
          have hd4 := dF.1 h2
          have hof : t.off = 0 := by have := dF.1 h4; have := hto.off; omega
          have hm : pktMay t = true := by rw [pktMay, ho, hof]; simp; omega
          have hfl : thereB t.data.length 2 2 = true := thereB_iff.2 (by omega)
          have big : ∀ e : ¬ t.proto = 1, bigP c (ipB t) mtu = if t.df then (replyP c.a0 t.src 3 4 mtu ((ipB t).take 28), true) else (pkt0, false) := fun e => by
            have hq : quietP t = false := by rw [quietP, decide_eq_false e]; rfl
            rw [bigP, ipP_B0 t hto hm, ownP_B0 t hto hm]
            simp only [hq, true_and, and_true]
          have hbig := errsBig_a c (ipB t) mtu (by omega) hmtu
          have hxo : (replyP c.a0 t.src 3 4 mtu ((ipB t).take 28)).ok := ⟨by simp [replyP], by simp [replyP], by simp [replyP], by simp [replyP], by simp [replyP], hc.a0, hto.src⟩
          have hlB : (icmpB 3 4 mtu ((ipB t).take 28)).length = 8 + ((ipB t).take 28).length := icmpB_len _ _ _ _
          have hl28 : ((ipB t).take 28).length ≤ 28 := by simp; omega
          have hxm : pktMay (replyP c.a0 t.src 3 4 mtu ((ipB t).take 28)) = true := by simp only [pktMay, replyP, hlB]; simp; omega
          have hput := ipPut_a _ hxo hxm
          have hwl := ipB_len (replyP c.a0 t.src 3 4 mtu ((ipB t).take 28))
          have hprs := icmpParse_a (icmpB 3 4 mtu ((ipB t).take 28)) (by simp only [small]; omega)
          rw [icmpP_B 3 4 mtu _ (by omega) (by omega) (by omega) (by omega)] at hprs
          have hquo := quoteOf_a 3 4 mtu ((ipB t).take 28) (by omega)
          rw [quO_B t 3 hto hm ho (by omega)] at hquo
          have hfew := few_a (ipB t) 28
          have hput6 := refPut06_a t hto hm
          rw [show pktA t = pktA { t with mf := false } by rw [← h3]] at hput6
          have hwl2 : (ipB (replyP c.a0 t.src 3 4 mtu ((ipB t).take 28))).length = 28 + ((ipB t).take 28).length := by rw [hwl]; simp only [replyP, List.length_nil, hlB]; omega
          generalize ipB (replyP c.a0 t.src 3 4 mtu ((ipB t).take 28)) = wire at *
          have fin : ¬ t.proto = 1 → flowP t = (⟨t.src, t.dst, get16 t.data 0, get16 t.data 2, t.proto⟩, 0) → True := fun _ _ => trivial
          simp only [ao_guard_t, ao_guard_f, st_at, if_f, as_move, as_binOp, as_load, as_fieldAddr, beq_self_eq_true, hk_some, hopG, rd, constT, evT, lk, putT, GV, gdst, binF, loadF, constA, cellA, TK.isAgg, List.getElem?_cons_zero, List.getElem?_cons_succ, List.drop_zero, List.drop_succ_cons, Option.map_some, Nat.reduceSub, Nat.reduceEqDiff, Nat.succ_ne_zero, ne_eq, not_false_eq_true, true_and, eq_self, Bool.false_eq_true, ↓reduceIte, Nat.zero_add, TT5, TT92]
          cases p6 : decide (t.proto = 6)
          · simp only [ac_cond, at_normal, ao_nil, ao_cons, ao_guard_t, ao_guard_f, st_at, pk_at, if_t, if_f, as_pick, as_binOp, as_load, as_fieldAddr, beq_self_eq_true, hk_some, hopG, rd, constT, evT, lk, putT, GV, gdst, binF, loadF, constA, cellA, TK.isAgg, List.getElem?_cons_zero, List.getElem?_cons_succ, List.drop_zero, List.drop_succ_cons, Option.map_some, Nat.reduceSub, Nat.reduceEqDiff, Nat.succ_ne_zero, ne_eq, not_false_eq_true, true_and, eq_self, Bool.false_eq_true, Bool.not_false, ↓reduceIte, Nat.zero_add, TT5, TT92]
            cases p17 : decide (t.proto = 17)
            · simp only [ac_seq, ac_region, ao_cons, if_t, as_call, fr_false, List.contains_nil, beq_self_eq_true, aopsD, frzW, frzR, evT, argsF, Nat.reduceSub, Nat.reduceLeDiff, Bool.false_eq_true, Bool.not_false, ↓reduceIte]
              refine ACall.intro lives30_a ?_
              simp only [ac_ret, at_normal, at_ret, ae_ret, ao_nil, ao_cons, as_assign, boA, beq_self_eq_true, rd, evT, lk, putT, resF, resL, Option.map_some, Option.bind_some, Nat.reduceSub, and_true, and_self, eq_self, ↓reduceIte]
            · simp only [ac_skip, ac_seq, ac_region, at_normal, ao_cons, if_f, as_call, as_load, fr_false, List.contains_nil, beq_self_eq_true, hk_some, hopG, rd, aopsD, frzW, frzR, evT, lk, putT, loadF, argsF, TK.isAgg, List.length_cons, List.length_nil, List.getElem?_cons_zero, List.getElem?_cons_succ, List.drop_zero, List.take_succ_cons, List.take_nil, Option.map_some, Nat.reduceAdd, Nat.reduceSub, Nat.reduceEqDiff, Nat.reduceLeDiff, true_and, eq_self, Bool.false_eq_true, Bool.not_true, ↓reduceIte, Nat.zero_add, Nat.le_refl, TT92]
              have hp := dT.1 p17
              have hF : flowP t = (⟨t.src, t.dst, get16 t.data 0, get16 t.data 2, t.proto⟩, 0) := by
                rw [flowP, if_neg (by rw [h3, h4]; simp), if_neg (fun h => h.2 hp), if_pos hfl]
              rw [hF] at hquo
              rw [big (by omega)] at hbig
              refine ACall.intro hput6 ?_
              simp only [ac_seq, ac_region, at_normal, ao_nil, ao_cons, as_call, as_move, as_assign, as_convert, as_load, as_extract, i64, fr_false, List.contains_nil, beq_self_eq_true, hk_some, hopG, rd, aopsD, frzW, frzR, evT, lk, putT, convF, loadF, argsF, TK.isAgg, List.length_cons, List.length_nil, List.getElem?_cons_zero, List.getElem?_cons_succ, List.drop_zero, List.take_succ_cons, List.take_nil, Option.map_some, Nat.reduceAdd, Nat.reduceSub, Nat.reduceEqDiff, Nat.reduceLeDiff, true_and, eq_self, reduceCtorEq, Bool.false_eq_true, ↓reduceIte, Nat.zero_add, Nat.le_refl, TT3, TT23, TT37]
              cases hdf : t.df
              · rw [hdf, if_neg (by simp)] at hbig
                simp only [i64_in (n := mtu) (by omega) (by omega)]
                refine ACall.intro hbig ?_
                simp only [ac_skip, ac_seq, ac_cond, ac_region, at_normal, ao_nil, ao_cons, ao_guard_f, st_at, pk_at, if_t, if_f, as_pick, as_call, as_alloc, as_store, as_move, as_assign, as_binOp, as_unOp, as_load, as_fieldAddr, as_extract, pktL, pktA, u8A, u16A, u32A, boA, fr_false, List.contains_nil, beq_self_eq_true, decide_true, Bool.and_self, hk_some, hopG, rd, aopsD, heapF, frzW, frzR, constT, evT, lk, putT, GV, gdst, binF, unF, loadF, cellsF, ovw, argsF, okCell, constA, cellA, TK.isAgg, Value.oneCell', List.length_cons, List.length_nil, List.getElem?_cons_zero, List.getElem?_cons_succ, List.drop_zero, List.drop_succ_cons, List.set_cons_zero, List.set_cons_succ, List.nil_append, List.cons_append, List.all_cons, List.all_nil, Option.map_some, Nat.reduceAdd, Nat.reduceSub, Nat.reduceEqDiff, Nat.reduceLeDiff, Nat.succ_ne_zero, ne_eq, not_false_eq_true, true_and, and_self, eq_self, Bool.false_eq_true, Bool.not_true, Bool.not_false, ↓reduceIte, Nat.zero_add, Nat.le_refl, TT3, TT4, TT92]
                refine ACall.intro lives30_a ?_
                simp only [ac_ret, at_normal, at_ret, ae_ret, ao_nil, ao_cons, as_assign, boA, beq_self_eq_true, rd, evT, lk, putT, resF, resL, Option.map_some, Option.bind_some, Nat.reduceSub, and_true, and_self, eq_self, ↓reduceIte]
              · rw [hdf, if_pos rfl] at hbig
                simp only [i64_in (n := mtu) (by omega) (by omega)]
                refine ACall.intro hbig ?_
                simp only [replyP, ac_skip, ac_seq, ac_cond, ac_region, at_normal, ao_nil, ao_cons, ao_guard_f, st_at, pk_at, if_f, as_pick, as_call, as_alloc, as_store, as_move, as_assign, as_binOp, as_unOp, as_load, as_fieldAddr, as_extract, pktL, pktA, u8A, u16A, u32A, boA, fr_false, List.contains_nil, beq_self_eq_true, decide_true, Bool.and_self, hk_some, hopG, rd, aopsD, heapF, frzW, frzR, constT, evT, lk, putT, GV, gdst, binF, unF, loadF, cellsF, ovw, argsF, okCell, constA, cellA, TK.isAgg, Value.oneCell', List.length_cons, List.length_nil, List.getElem?_cons_zero, List.getElem?_cons_succ, List.drop_zero, List.drop_succ_cons, List.set_cons_zero, List.set_cons_succ, List.nil_append, List.cons_append, List.all_cons, List.all_nil, Option.map_some, Nat.reduceAdd, Nat.reduceSub, Nat.reduceEqDiff, Nat.reduceLeDiff, Nat.succ_ne_zero, ne_eq, not_false_eq_true, true_and, and_self, eq_self, Bool.false_eq_true, Bool.not_true, ↓reduceIte, Nat.zero_add, Nat.le_refl, TT3, TT4, TT38, TT92]
                refine ACall.intro hprs ?_
                simp only [ac_seq, ac_region, at_normal, ao_nil, ao_cons, as_call, as_alloc, as_store, as_move, as_assign, as_load, as_extract, icmpA, u8A, u32A, i64, fr_false, List.contains_nil, beq_self_eq_true, Bool.and_self, hk_some, hopG, rd, aopsD, heapF, frzW, frzR, evT, lk, putT, loadF, cellsF, ovw, argsF, okCell, TK.isAgg, Value.oneCell', List.length_cons, List.length_nil, List.getElem?_cons_zero, List.getElem?_cons_succ, List.drop_zero, List.take_succ_cons, List.take_nil, List.set_cons_zero, List.set_cons_succ, List.nil_append, List.cons_append, List.all_cons, List.all_nil, Option.map_some, Nat.reduceAdd, Nat.reduceSub, Nat.reduceEqDiff, Nat.reduceLeDiff, true_and, and_self, eq_self, Bool.false_eq_true, ↓reduceIte, Nat.zero_add, Nat.le_refl, TT134]
                refine ACall.intro hquo ?_
                simp only [ac_seq, ac_region, at_normal, ao_nil, ao_cons, as_call, as_alloc, as_store, as_move, as_assign, as_load, as_extract, flowL, flowA, u8A, u16A, u32A, i64, fr_false, List.contains_nil, beq_self_eq_true, Bool.and_self, hk_some, hopG, rd, aopsD, heapF, frzW, frzR, evT, lk, putT, loadF, cellsF, ovw, argsF, okCell, TK.isAgg, Value.oneCell', List.length_cons, List.length_nil, List.getElem?_cons_zero, List.getElem?_cons_succ, List.drop_zero, List.take_succ_cons, List.take_nil, List.set_cons_zero, List.set_cons_succ, List.nil_append, List.cons_append, List.all_cons, List.all_nil, Option.map_some, Nat.reduceAdd, Nat.reduceSub, Nat.reduceEqDiff, Nat.reduceLeDiff, true_and, and_self, eq_self, Bool.false_eq_true, ↓reduceIte, Nat.zero_add, Nat.le_refl, TT25, TT92]
                simp only [replyP] at hput
                refine ACall.intro hput ?_
                simp only [u32_in (n := mtu) (by omega) (by omega), ac_seq, ac_region, at_normal, ao_nil, ao_cons, ao_guard_t, st_at, pk_at, if_t, as_pick, as_call, as_move, as_assign, as_binOp, as_convert, as_load, as_fieldAddr, as_extract, as_len, i64, fr_false, List.contains_nil, beq_self_eq_true, decide_true, hk_some, hopG, hopF, rd, aopsD, frzW, frzR, constT, evT, lk, putT, GV, gdst, lenF, binF, convF, loadF, argsF, constA, cellA, TK.isAgg, List.getElem?_cons_zero, List.getElem?_cons_succ, List.drop_zero, List.drop_succ_cons, Option.map_some, Nat.reduceSub, Nat.reduceEqDiff, Nat.reduceLeDiff, Nat.succ_ne_zero, ne_eq, not_false_eq_true, true_and, eq_self, reduceCtorEq, Bool.false_eq_true, ↓reduceIte, Nat.zero_add, Nat.add_zero, TT5, TT22, TT23, TT25, TT38, TT61, TT92, TT134]
                refine ACall.intro hfew ?_
                have hwl3 : (wire.length : Int) = 28 + (((ipB t).take 28).length : Int) := by omega
                simp only [hwl3, i64_in (n := 28 + (((ipB t).take 28).length : Int)) (by omega) (by omega), ao_cons, ao_guard_t, st_at, pk_at, if_t, as_pick, as_call, as_move, as_binOp, as_len, beq_self_eq_true, decide_true, hk_some, hopG, hopF, rd, frzW, frzR, constT, evT, lk, putT, GV, gdst, lenF, binF, argsF, constA, cellA, Option.map_some, Nat.reduceSub, Nat.reduceEqDiff, true_and, eq_self, ↓reduceIte, TT3, TT38]
                refine ACall.intro lives30_a ?_
                simp only [ac_ret, at_normal, ae_ret, ao_nil, ao_cons, pk_at, if_t, as_pick, as_assign, boA, beq_self_eq_true, rd, evT, lk, putT, resF, resL, Option.map_some, Option.bind_some, Nat.reduceSub, Nat.reduceEqDiff, and_true, and_self, eq_self, ↓reduceIte]
          · simp only [ac_skip, ac_seq, ac_cond, ac_region, at_normal, ao_nil, ao_cons, ao_guard_t, ao_guard_f, st_at, sk_at, pk_at, if_f, as_pick, as_call, as_load, fr_false, List.contains_nil, beq_self_eq_true, hk_some, hopG, rd, aopsD, frzW, frzR, constT, evT, lk, putT, GV, gdst, loadF, argsF, constA, cellA, TK.isAgg, List.length_cons, List.length_nil, List.getElem?_cons_zero, List.getElem?_cons_succ, List.drop_zero, List.take_succ_cons, List.take_nil, Option.map_some, Nat.reduceAdd, Nat.reduceSub, Nat.reduceEqDiff, Nat.reduceLeDiff, true_and, eq_self, Bool.false_eq_true, Bool.not_true, ↓reduceIte, Nat.zero_add, Nat.le_refl, TT92]
            have hp := dT.1 p6
            have hF : flowP t = (⟨t.src, t.dst, get16 t.data 0, get16 t.data 2, t.proto⟩, 0) := by
              rw [flowP, if_neg (by rw [h3, h4]; simp), if_neg (fun h => h.1 hp), if_pos hfl]
            rw [hF] at hquo
            rw [big (by omega)] at hbig
            refine ACall.intro hput6 ?_
            simp only [ac_seq, ac_region, at_normal, ao_nil, ao_cons, as_call, as_move, as_assign, as_convert, as_load, as_extract, i64, fr_false, List.contains_nil, beq_self_eq_true, hk_some, hopG, rd, aopsD, frzW, frzR, evT, lk, putT, convF, loadF, argsF, TK.isAgg, List.length_cons, List.length_nil, List.getElem?_cons_zero, List.getElem?_cons_succ, List.drop_zero, List.take_succ_cons, List.take_nil, Option.map_some, Nat.reduceAdd, Nat.reduceSub, Nat.reduceEqDiff, Nat.reduceLeDiff, true_and, eq_self, reduceCtorEq, Bool.false_eq_true, ↓reduceIte, Nat.zero_add, Nat.le_refl, TT3, TT23, TT37]
            cases hdf : t.df
            · rw [hdf, if_neg (by simp)] at hbig
              simp only [i64_in (n := mtu) (by omega) (by omega)]
              refine ACall.intro hbig ?_
              simp only [ac_skip, ac_seq, ac_cond, ac_region, at_normal, ao_nil, ao_cons, ao_guard_f, st_at, pk_at, if_t, if_f, as_pick, as_call, as_alloc, as_store, as_move, as_assign, as_binOp, as_unOp, as_load, as_fieldAddr, as_extract, pktL, pktA, u8A, u16A, u32A, boA, fr_false, List.contains_nil, beq_self_eq_true, decide_true, Bool.and_self, hk_some, hopG, rd, aopsD, heapF, frzW, frzR, constT, evT, lk, putT, GV, gdst, binF, unF, loadF, cellsF, ovw, argsF, okCell, constA, cellA, TK.isAgg, Value.oneCell', List.length_cons, List.length_nil, List.getElem?_cons_zero, List.getElem?_cons_succ, List.drop_zero, List.drop_succ_cons, List.set_cons_zero, List.set_cons_succ, List.nil_append, List.cons_append, List.all_cons, List.all_nil, Option.map_some, Nat.reduceAdd, Nat.reduceSub, Nat.reduceEqDiff, Nat.reduceLeDiff, Nat.succ_ne_zero, ne_eq, not_false_eq_true, true_and, and_self, eq_self, Bool.false_eq_true, Bool.not_true, Bool.not_false, ↓reduceIte, Nat.zero_add, Nat.le_refl, TT3, TT4, TT92]
              refine ACall.intro lives30_a ?_
              simp only [ac_ret, at_normal, at_ret, ae_ret, ao_nil, ao_cons, as_assign, boA, beq_self_eq_true, rd, evT, lk, putT, resF, resL, Option.map_some, Option.bind_some, Nat.reduceSub, and_true, and_self, eq_self, ↓reduceIte]
            · rw [hdf, if_pos rfl] at hbig
              simp only [i64_in (n := mtu) (by omega) (by omega)]
              refine ACall.intro hbig ?_
              simp only [replyP, ac_skip, ac_seq, ac_cond, ac_region, at_normal, ao_nil, ao_cons, ao_guard_f, st_at, pk_at, if_f, as_pick, as_call, as_alloc, as_store, as_move, as_assign, as_binOp, as_unOp, as_load, as_fieldAddr, as_extract, pktL, pktA, u8A, u16A, u32A, boA, fr_false, List.contains_nil, beq_self_eq_true, decide_true, Bool.and_self, hk_some, hopG, rd, aopsD, heapF, frzW, frzR, constT, evT, lk, putT, GV, gdst, binF, unF, loadF, cellsF, ovw, argsF, okCell, constA, cellA, TK.isAgg, Value.oneCell', List.length_cons, List.length_nil, List.getElem?_cons_zero, List.getElem?_cons_succ, List.drop_zero, List.drop_succ_cons, List.set_cons_zero, List.set_cons_succ, List.nil_append, List.cons_append, List.all_cons, List.all_nil, Option.map_some, Nat.reduceAdd, Nat.reduceSub, Nat.reduceEqDiff, Nat.reduceLeDiff, Nat.succ_ne_zero, ne_eq, not_false_eq_true, true_and, and_self, eq_self, Bool.false_eq_true, Bool.not_true, ↓reduceIte, Nat.zero_add, Nat.le_refl, TT3, TT4, TT38, TT92]
              refine ACall.intro hprs ?_
              simp only [ac_seq, ac_region, at_normal, ao_nil, ao_cons, as_call, as_alloc, as_store, as_move, as_assign, as_load, as_extract, icmpA, u8A, u32A, i64, fr_false, List.contains_nil, beq_self_eq_true, Bool.and_self, hk_some, hopG, rd, aopsD, heapF, frzW, frzR, evT, lk, putT, loadF, cellsF, ovw, argsF, okCell, TK.isAgg, Value.oneCell', List.length_cons, List.length_nil, List.getElem?_cons_zero, List.getElem?_cons_succ, List.drop_zero, List.take_succ_cons, List.take_nil, List.set_cons_zero, List.set_cons_succ, List.nil_append, List.cons_append, List.all_cons, List.all_nil, Option.map_some, Nat.reduceAdd, Nat.reduceSub, Nat.reduceEqDiff, Nat.reduceLeDiff, true_and, and_self, eq_self, Bool.false_eq_true, ↓reduceIte, Nat.zero_add, Nat.le_refl, TT134]
              refine ACall.intro hquo ?_
              simp only [ac_seq, ac_region, at_normal, ao_nil, ao_cons, as_call, as_alloc, as_store, as_move, as_assign, as_load, as_extract, flowL, flowA, u8A, u16A, u32A, i64, fr_false, List.contains_nil, beq_self_eq_true, Bool.and_self, hk_some, hopG, rd, aopsD, heapF, frzW, frzR, evT, lk, putT, loadF, cellsF, ovw, argsF, okCell, TK.isAgg, Value.oneCell', List.length_cons, List.length_nil, List.getElem?_cons_zero, List.getElem?_cons_succ, List.drop_zero, List.take_succ_cons, List.take_nil, List.set_cons_zero, List.set_cons_succ, List.nil_append, List.cons_append, List.all_cons, List.all_nil, Option.map_some, Nat.reduceAdd, Nat.reduceSub, Nat.reduceEqDiff, Nat.reduceLeDiff, true_and, and_self, eq_self, Bool.false_eq_true, ↓reduceIte, Nat.zero_add, Nat.le_refl, TT25, TT92]
              simp only [replyP] at hput
              refine ACall.intro hput ?_
              simp only [u32_in (n := mtu) (by omega) (by omega), ac_seq, ac_region, at_normal, ao_nil, ao_cons, ao_guard_t, st_at, pk_at, if_t, as_pick, as_call, as_move, as_assign, as_binOp, as_convert, as_load, as_fieldAddr, as_extract, as_len, i64, fr_false, List.contains_nil, beq_self_eq_true, decide_true, hk_some, hopG, hopF, rd, aopsD, frzW, frzR, constT, evT, lk, putT, GV, gdst, lenF, binF, convF, loadF, argsF, constA, cellA, TK.isAgg, List.getElem?_cons_zero, List.getElem?_cons_succ, List.drop_zero, List.drop_succ_cons, Option.map_some, Nat.reduceSub, Nat.reduceEqDiff, Nat.reduceLeDiff, Nat.succ_ne_zero, ne_eq, not_false_eq_true, true_and, eq_self, reduceCtorEq, Bool.false_eq_true, ↓reduceIte, Nat.zero_add, Nat.add_zero, TT5, TT22, TT23, TT25, TT38, TT61, TT92, TT134]
              refine ACall.intro hfew ?_
              have hwl3 : (wire.length : Int) = 28 + (((ipB t).take 28).length : Int) := by omega
              simp only [hwl3, i64_in (n := 28 + (((ipB t).take 28).length : Int)) (by omega) (by omega), ao_cons, ao_guard_t, st_at, pk_at, if_t, as_pick, as_call, as_move, as_binOp, as_len, beq_self_eq_true, decide_true, hk_some, hopG, hopF, rd, frzW, frzR, constT, evT, lk, putT, GV, gdst, lenF, binF, argsF, constA, cellA, Option.map_some, Nat.reduceSub, Nat.reduceEqDiff, true_and, eq_self, ↓reduceIte, TT3, TT38]
              refine ACall.intro lives30_a ?_
              simp only [ac_ret, at_normal, ae_ret, ao_nil, ao_cons, pk_at, if_t, as_pick, as_assign, boA, beq_self_eq_true, rd, evT, lk, putT, resF, resL, Option.map_some, Option.bind_some, Nat.reduceSub, Nat.reduceEqDiff, and_true, and_self, eq_self, ↓reduceIte]
        · simp only [ac_seq, ac_cond, ac_region, at_normal, ao_nil, ao_cons, ao_guard_t, ao_guard_f, sk_at, pk_at, if_t, as_pick, as_call, fr_false, List.contains_nil, beq_self_eq_true, aopsD, frzW, frzR, constT, evT, lk, putT, GV, gdst, argsF, constA, cellA, Nat.reduceSub, Nat.reduceEqDiff, Nat.reduceLeDiff, eq_self, Bool.false_eq_true, ↓reduceIte]
          refine ACall.intro lives30_a ?_
          simp only [ac_ret, at_normal, at_ret, ae_ret, ao_nil, ao_cons, as_assign, boA, beq_self_eq_true, rd, evT, lk, putT, resF, resL, Option.map_some, Option.bind_some, Nat.reduceSub, and_true, and_self, eq_self, ↓reduceIte]
      · simp only [ac_seq, ac_cond, ac_region, at_normal, ao_nil, ao_cons, ao_guard_t, ao_guard_f, sk_at, pk_at, if_t, as_pick, as_call, as_move, fr_false, List.contains_nil, beq_self_eq_true, aopsD, frzW, frzR, constT, evT, lk, putT, GV, gdst, argsF, constA, cellA, Nat.reduceSub, Nat.reduceEqDiff, Nat.reduceLeDiff, eq_self, Bool.false_eq_true, ↓reduceIte]
        refine ACall.intro lives30_a ?_
        simp only [ac_ret, at_normal, at_ret, ae_ret, ao_nil, ao_cons, as_assign, boA, beq_self_eq_true, rd, evT, lk, putT, resF, resL, Option.map_some, Option.bind_some, Nat.reduceSub, and_true, and_self, eq_self, ↓reduceIte]
    · simp only [ac_seq, ac_cond, ac_region, at_normal, ao_nil, ao_cons, ao_guard_t, ao_guard_f, sk_at, pk_at, if_t, as_pick, as_call, as_move, fr_false, List.contains_nil, beq_self_eq_true, aopsD, frzW, frzR, constT, evT, lk, putT, GV, gdst, argsF, constA, cellA, Nat.reduceSub, Nat.reduceEqDiff, Nat.reduceLeDiff, eq_self, Bool.false_eq_true, ↓reduceIte]
      refine ACall.intro lives30_a ?_
      simp only [ac_ret, at_normal, at_ret, ae_ret, ao_nil, ao_cons, as_assign, boA, beq_self_eq_true, rd, evT, lk, putT, resF, resL, Option.map_some, Option.bind_some, Nat.reduceSub, and_true, and_self, eq_self, ↓reduceIte]
  · simp only [ac_seq, ac_cond, ac_region, at_normal, ao_nil, ao_cons, ao_guard_t, ao_guard_f, sk_at, pk_at, if_t, as_pick, as_call, as_move, fr_false, List.contains_nil, beq_self_eq_true, aopsD, frzW, frzR, constT, evT, lk, putT, GV, gdst, argsF, constA, cellA, Nat.reduceSub, Nat.reduceEqDiff, Nat.reduceLeDiff, eq_self, Bool.false_eq_true, ↓reduceIte]
    refine ACall.intro lives30_a ?_
    simp only [ac_ret, at_normal, at_ret, ae_ret, ao_nil, ao_cons, as_assign, boA, beq_self_eq_true, rd, evT, lk, putT, resF, resL, Option.map_some, Option.bind_some, Nat.reduceSub, and_true, and_self, eq_self, ↓reduceIte]
end Go.Proofs.Ytafajmnlknmfiaa
