/- Package tun, and its reference. -/
import Derived.Test.YtafajmnlknmfiaaVF
import Derived.Test.YtafajmnlknmfiaaCY
namespace Go.Proofs.Ytafajmnlknmfiaa
set_option linter.unusedSimpArgs false
set_option linter.unusedVariables false
open Go.RowKit

theorem ASpec.weak {P : Program} {f : FuncId} {xs ys : List AV} {r : AV} (h : ASpec P f ys r) (hw : ∀ M w vs, RepL M w xs vs → RepL M w ys vs) : ASpec P f xs r := ⟨h.1, fun M w vs hM hv => h.2 M w vs hM (hw M w vs hv)⟩
/-- The bytes of the packet with which others begin. -/
def ownP (b : List UInt8) : List UInt8 := if (ipP b).2 = 0 then b.take (get16 b 2).toNat else []
theorem ipP_size (b : List UInt8) (he : (ipP b).2 = 0) : (20 + (ipP b).1.opts.length : Int) + (ipP b).1.data.length = get16 b 2 ∧ (ipP b).1.opts.length ≤ 40 ∧ (ipP b).1.data.length ≤ 65515 := by
  obtain ⟨h1, h2, h3, h4, h5, h6⟩ := ipP_ok b he
  have := congrArg List.length h5
  simp only [List.length_append, ipHeadB_len, List.length_take] at this
  simp only [pktMay, Bool.and_eq_true, decide_eq_true_eq] at h2
  omega
set_option maxRecDepth 100000 in
theorem tunOwn_a (b : List UInt8) (hl : b.length ≤ 1000000) : ASpec Try.prog 163 [.bs b] (.tup [pktA (ipP b).1, .bs (ownP b), i64 (ipP b).2]) := by
  have hsm : small b := by simp only [small]; omega
  have n2 := get16_bd b 2
  refine ASpec.of_body TT_ok Try.mixed _ [.cell 2 92, .tmp 3, .tmp 4] ([], []) Try.func163 (by kernel_rfl) rfl rfl (by simp only [Try.ntmps163, List.length_cons, List.length_nil]; omega) rfl (by kernel_rfl) ?_
  simp only [argE_cons, argE_nil, ac_seq, ac_region, at_normal, ao_nil, ao_cons, as_call, as_alloc, as_move, as_assign, pktL, pktA, u8A, u16A, u32A, i64, boA, fr_false, List.contains_nil, beq_self_eq_true, rd, aopsD, heapF, frzW, frzR, constT, evT, lk, putT, argsF, constA, cellA, List.length_nil, List.nil_append, Option.map_some, Nat.reduceSub, Nat.reduceLeDiff, Nat.succ_ne_zero, true_and, eq_self, Bool.false_eq_true, ↓reduceIte, Nat.zero_add, TT92]
  refine ACall.intro (ipParse_a b hl) ?_
  cases he : decide ((ipP b).2 = 0)
  · have he' := dF.1 he
    have hP : (ipP b).1 = pkt0 := by
      rw [ipP] at he' ⊢
      split at he'
      · exact absurd rfl he'
      · rename_i h; rw [if_neg h]
    rw [ownP, if_neg he', hP]
    simp only [he, ac_ret, ac_seq, ac_cond, ac_region, at_normal, at_ret, ae_ret, ao_nil, ao_cons, if_t, as_alloc, as_store, as_move, as_assign, as_binOp, as_extract, as_build, pktL, pktA, u8A, u16A, u32A, i64, boA, fr_false, fr_nil, fr_cons, List.contains_nil, beq_self_eq_true, Bool.and_self, hk_some, hopG, rd, aopsD, heapF, constT, evT, lk, putT, binF, loadF, cellsF, ovw, fillF, buildF, partsF, okCell, resF, resL, constA, cellA, TK.isAgg, Value.oneCell', List.length_cons, List.length_nil, List.getElem?_cons_zero, List.getElem?_cons_succ, List.drop_zero, List.take_succ_cons, List.take_nil, List.set_cons_zero, List.set_cons_succ, List.nil_append, List.cons_append, List.all_cons, List.all_nil, Option.map_some, Option.bind_some, Nat.reduceAdd, Nat.reduceSub, Nat.reduceEqDiff, Nat.reduceLeDiff, true_and, and_true, and_self, eq_self, Bool.false_eq_true, Bool.not_false, ↓reduceIte, Nat.zero_add, Nat.le_refl, TT61, TT92]
    try rfl
  · have he' := dT.1 he
    obtain ⟨h1, h2, h3⟩ := ipP_size b he'
    obtain ⟨_, _, h4, h5, _, _⟩ := ipP_ok b he'
    rw [ownP, if_pos he']
    simp only [he, ac_skip, ac_seq, ac_cond, ac_region, at_normal, ao_nil, ao_cons, if_f, as_call, as_alloc, as_store, as_move, as_assign, as_binOp, as_load, as_extract, pktL, pktA, u8A, u16A, u32A, i64, boA, fr_false, List.contains_nil, Nat.reduceBEq, beq_self_eq_true, Bool.and_self, hk_some, hopG, rd, aopsD, heapF, frzW, tlN, constT, evT, lk, putT, binF, loadF, cellsF, ovw, argsF, okCell, constA, cellA, TK.isAgg, Value.oneCell', List.length_cons, List.length_nil, List.getElem?_cons_zero, List.getElem?_cons_succ, List.drop_zero, List.take_succ_cons, List.take_nil, List.set_cons_zero, List.set_cons_succ, List.nil_append, List.cons_append, List.all_cons, List.all_nil, Option.map_some, Nat.reduceAdd, Nat.reduceSub, Nat.reduceEqDiff, Nat.reduceLeDiff, Nat.succ_ne_zero, true_and, and_self, eq_self, Bool.false_eq_true, Bool.not_true, ↓reduceIte, Nat.zero_add, Nat.le_refl, TT61, TT92]
    refine ACall.intro (ipSize_a (ipP b).1 (by omega)) ?_
    have e : IntKind.i64.wrap (20 + ((ipP b).1.opts.length : Int) + ((ipP b).1.data.length : Int)) = get16 b 2 := by rw [i64_in (by omega) (by omega)]; exact h1
    simp only [e, ao_cons, as_call, as_binOp, as_load, as_fieldAddr, as_len, i64, Nat.reduceBEq, hk_some, hopG, hopF, rd, frzW, constT, evT, lk, putT, lenF, binF, loadF, argsF, constA, cellA, TK.isAgg, List.getElem?_cons_zero, List.getElem?_cons_succ, List.drop_zero, List.drop_succ_cons, Option.map_some, Nat.reduceSub, Nat.reduceEqDiff, Nat.succ_ne_zero, ne_eq, not_false_eq_true, true_and, eq_self, Bool.false_eq_true, ↓reduceIte, Nat.zero_add, TT3, TT38, TT92]
    refine ACall.intro (cut_a b 0 _ (by omega) hsm) ?_
    obtain ⟨k, hk⟩ := Int.eq_ofNat_of_zero_le n2.1
    rw [hk, cutB_take b (by omega), Int.toNat_natCast]
    simp only [ac_ret, ac_seq, ac_region, at_normal, ae_ret, ao_nil, ao_cons, as_store, as_move, as_assign, as_load, as_extract, boA, fr_false, fr_nil, fr_cons, List.contains_nil, Nat.reduceBEq, beq_self_eq_true, Bool.and_self, hk_some, hopG, rd, aopsD, heapF, constT, evT, lk, putT, loadF, cellsF, ovw, okCell, resF, resL, constA, cellA, TK.isAgg, Value.oneCell', List.length_cons, List.length_nil, List.getElem?_cons_zero, List.getElem?_cons_succ, List.drop_zero, List.take_succ_cons, List.take_nil, List.set_cons_zero, List.set_cons_succ, List.all_cons, List.all_nil, Option.map_some, Option.bind_some, Nat.reduceAdd, Nat.reduceSub, Nat.reduceEqDiff, Nat.reduceLeDiff, true_and, and_true, and_self, eq_self, Bool.false_eq_true, ↓reduceIte, Nat.zero_add, Nat.le_refl, TT92]
    rw [he']
    try rfl
/-- The packet that bears another one. -/
def wrapP (c : CfgN) (b : List UInt8) (to_ id : Int) : PktN × Int :=
  if (ipP b).2 = 0 then if c.mtu < (ownP b).length + 20 then (pkt0, 14) else (⟨(ipP b).1.tos, id, (ipP b).1.df, false, 0, 64, 4, c.a1, to_, [], ownP b⟩, 0) else (pkt0, (ipP b).2)
theorem ownP_len (b : List UInt8) : (ownP b).length ≤ b.length := by
  unfold ownP
  split
  · simp; omega
  · simp
set_option maxRecDepth 100000 in
theorem tunWrap_a (c : CfgN) (b : List UInt8) (to_ id : Int) (hl : b.length ≤ 1000000) : ASpec Try.prog 100 [cfgA c, .bs b, u32A to_, u16A id] (.tup [pktA (wrapP c b to_ id).1, i64 (wrapP c b to_ id).2]) := by
  have hol := ownP_len b
  refine ASpec.of_body TT_ok Try.mixed _ [.cell 8 92, .tmp 9] ([], []) Try.func100 (by kernel_rfl) rfl rfl (by simp only [Try.ntmps100, List.length_cons, List.length_nil]; omega) rfl (by kernel_rfl) ?_
  simp only [argE_cons, argE_nil, ac_seq, ac_region, at_normal, ao_nil, ao_cons, as_call, as_box, as_alloc, as_move, as_assign, pktL, pktA, cfgL, cfgA, u8A, u16A, u32A, i64, boA, fr_false, List.contains_nil, beq_self_eq_true, rd, aopsD, heapF, frzW, frzR, constT, evT, lk, putT, cellsF, argsF, constA, cellA, List.length_cons, List.length_nil, List.nil_append, List.cons_append, Option.map_some, Nat.reduceAdd, Nat.reduceSub, Nat.reduceEqDiff, Nat.reduceLeDiff, true_and, eq_self, reduceCtorEq, Bool.false_eq_true, ↓reduceIte, Nat.zero_add, TT92]
  refine ACall.intro (tunOwn_a b hl) ?_
  cases he : decide ((ipP b).2 = 0)
  · have he' := dF.1 he
    rw [wrapP, if_neg he']
    simp only [he, ac_ret, ac_seq, ac_cond, ac_region, at_normal, at_ret, ae_ret, ao_nil, ao_cons, if_t, as_alloc, as_store, as_move, as_assign, as_binOp, as_extract, as_build, pktL, pktA, u8A, u16A, u32A, i64, boA, fr_false, fr_nil, fr_cons, List.contains_nil, beq_self_eq_true, Bool.and_self, hk_some, hopG, rd, aopsD, heapF, constT, evT, lk, putT, binF, loadF, cellsF, ovw, fillF, buildF, partsF, okCell, resF, resL, constA, cellA, TK.isAgg, Value.oneCell', List.length_cons, List.length_nil, List.getElem?_cons_zero, List.getElem?_cons_succ, List.drop_zero, List.take_succ_cons, List.take_nil, List.set_cons_zero, List.set_cons_succ, List.nil_append, List.cons_append, List.all_cons, List.all_nil, Option.map_some, Option.bind_some, Nat.reduceAdd, Nat.reduceSub, Nat.reduceEqDiff, Nat.reduceLeDiff, true_and, and_true, and_self, eq_self, Bool.false_eq_true, Bool.not_false, ↓reduceIte, Nat.zero_add, Nat.le_refl, TT61, TT92]
    try rfl
  · have he' := dT.1 he
    rw [wrapP, if_pos he']
    simp only [he, i64_in (n := ((ownP b).length : Int) + 20) (by omega) (by omega), ac_skip, ac_seq, ac_cond, ac_region, at_normal, ao_nil, ao_cons, if_f, as_alloc, as_store, as_move, as_assign, as_binOp, as_load, as_fieldAddr, as_extract, as_len, pktL, pktA, u8A, u16A, u32A, i64, boA, fr_false, List.contains_nil, beq_self_eq_true, Bool.and_self, hk_some, hopG, hopF, rd, aopsD, heapF, constT, evT, lk, putT, lenF, binF, loadF, cellsF, ovw, okCell, constA, cellA, TK.isAgg, Value.oneCell', List.length_cons, List.length_nil, List.getElem?_cons_zero, List.getElem?_cons_succ, List.drop_zero, List.drop_succ_cons, List.set_cons_zero, List.set_cons_succ, List.nil_append, List.cons_append, List.all_cons, List.all_nil, Option.map_some, Nat.reduceAdd, Nat.reduceSub, Nat.reduceEqDiff, Nat.reduceLeDiff, Nat.succ_ne_zero, ne_eq, not_false_eq_true, true_and, and_self, eq_self, Bool.false_eq_true, Bool.not_true, ↓reduceIte, Nat.zero_add, Nat.le_refl, TT3, TT37, TT38, TT61, TT92]
    cases hc : decide (c.mtu < ((ownP b).length : Int) + 20)
    · rw [dF] at hc
      rw [if_neg hc]
      simp only [ac_skip, ac_ret, ac_seq, ac_region, at_normal, ae_ret, ao_nil, ao_cons, if_f, as_store, as_move, as_assign, as_load, as_fieldAddr, as_indexAddr, as_build, fr_false, fr_nil, fr_cons, List.contains_nil, beq_self_eq_true, Int.cast_ofNat_Int, Bool.and_self, hk_some, hopG, rd, aopsD, heapF, constT, evT, lk, putT, loadF, cellsF, ovw, fillF, buildF, partsF, okCell, resF, resL, constA, cellA, TK.isAgg, Value.oneCell', List.length_cons, List.length_nil, List.getElem?_cons_zero, List.getElem?_cons_succ, List.drop_zero, List.drop_succ_cons, List.take_succ_cons, List.take_nil, List.set_cons_zero, List.set_cons_succ, List.all_cons, List.all_nil, Option.map_some, Option.bind_some, Nat.reduceAdd, Nat.reduceSub, Nat.reduceEqDiff, Nat.reduceLeDiff, Nat.succ_ne_zero, ne_eq, not_false_eq_true, and_true, and_self, eq_self, reduceCtorEq, Bool.false_eq_true, ↓reduceIte, Int.reduceToNat, Int.reduceLT, Int.reduceLE, Nat.mul_one, Nat.zero_add, Nat.add_zero, Nat.le_refl, TT4, TT5, TT22, TT31, TT37, TT92]
      try rfl
    · rw [dT] at hc
      rw [if_pos hc]
      simp only [ac_ret, ac_seq, ac_region, at_normal, at_ret, ae_ret, ao_nil, ao_cons, if_t, as_store, as_assign, as_build, fr_false, fr_nil, fr_cons, List.contains_nil, beq_self_eq_true, Bool.and_self, hk_some, hopG, rd, aopsD, heapF, constT, evT, lk, putT, loadF, cellsF, ovw, fillF, buildF, partsF, okCell, resF, resL, constA, cellA, TK.isAgg, Value.oneCell', List.length_cons, List.length_nil, List.getElem?_cons_zero, List.getElem?_cons_succ, List.drop_zero, List.take_succ_cons, List.take_nil, List.set_cons_zero, List.set_cons_succ, List.all_cons, List.all_nil, Option.map_some, Option.bind_some, Nat.reduceAdd, Nat.reduceSub, Nat.reduceEqDiff, Nat.reduceLeDiff, true_and, and_true, and_self, eq_self, Bool.false_eq_true, ↓reduceIte, Nat.zero_add, Nat.le_refl, TT92]
      try rfl
def openP (p : PktN) : List UInt8 × Int := if p.proto = 4 then if (p.mf || decide (0 < p.off)) = true then ([], 11) else (ownP p.data, (ipP p.data).2) else ([], 3)
set_option maxRecDepth 100000 in
theorem tunOpen_a (p : PktN) (hl : p.data.length ≤ 1000000) : ASpec Try.prog 103 [pktA p] (.tup [.bs (openP p).1, i64 (openP p).2]) := by
  refine ASpec.of_body TT_ok Try.mixed _ [.tmp 2, .tmp 3] ([], []) Try.func103 (by kernel_rfl) rfl rfl (by simp only [Try.ntmps103, List.length_cons, List.length_nil]; omega) rfl (by kernel_rfl) ?_
  simp only [argE_cons, argE_nil, ac_seq, ac_cond, ac_region, at_normal, ao_nil, ao_cons, as_box, as_assign, as_binOp, as_load, as_fieldAddr, pktL, pktA, u8A, u16A, u32A, i64, boA, fr_false, List.contains_nil, beq_self_eq_true, hk_some, hopG, rd, aopsD, heapF, constT, evT, lk, putT, binF, loadF, cellsF, constA, cellA, TK.isAgg, List.length_nil, List.getElem?_cons_zero, List.getElem?_cons_succ, List.drop_zero, List.drop_succ_cons, List.nil_append, Option.map_some, Nat.reduceSub, Nat.reduceEqDiff, Nat.reduceLeDiff, Nat.succ_ne_zero, ne_eq, not_false_eq_true, true_and, eq_self, Bool.false_eq_true, ↓reduceIte, Nat.zero_add, TT5, TT92]
  cases c1 : decide (p.proto = 4)
  · rw [openP, if_neg (dF.1 c1)]
    simp only [ac_ret, ac_seq, ac_region, at_normal, at_ret, ae_ret, ao_nil, ao_cons, if_t, as_assign, fr_false, List.contains_nil, beq_self_eq_true, rd, aopsD, constT, evT, lk, putT, resF, resL, constA, cellA, Option.map_some, Option.bind_some, Nat.reduceSub, Nat.reduceEqDiff, Nat.reduceLeDiff, and_true, and_self, eq_self, Bool.false_eq_true, Bool.not_false, ↓reduceIte]
    try rfl
  · rw [openP, if_pos (dT.1 c1)]
    simp only [ac_skip, ac_seq, ac_region, at_normal, ao_cons, if_f, as_call, as_load, fr_false, List.contains_nil, beq_self_eq_true, hk_some, hopG, rd, aopsD, frzW, frzR, evT, lk, putT, loadF, argsF, TK.isAgg, List.length_cons, List.length_nil, List.getElem?_cons_zero, List.drop_zero, List.take_succ_cons, List.take_nil, Option.map_some, Nat.reduceAdd, Nat.reduceSub, Nat.reduceEqDiff, Nat.reduceLeDiff, true_and, eq_self, Bool.false_eq_true, Bool.not_true, ↓reduceIte, Nat.zero_add, Nat.le_refl, TT92]
    refine ACall.intro (ipPart_a p) ?_
    cases c2 : (p.mf || decide (0 < p.off))
    · rw [if_neg (by simp)]
      simp only [ac_skip, ac_seq, ac_cond, ac_region, at_normal, ao_nil, ao_cons, if_f, as_call, as_load, as_fieldAddr, boA, fr_false, List.contains_nil, beq_self_eq_true, hk_some, hopG, rd, aopsD, frzW, frzR, evT, lk, putT, loadF, argsF, TK.isAgg, List.getElem?_cons_zero, List.getElem?_cons_succ, List.drop_zero, List.drop_succ_cons, Option.map_some, Nat.reduceSub, Nat.reduceEqDiff, Nat.reduceLeDiff, Nat.succ_ne_zero, ne_eq, not_false_eq_true, true_and, eq_self, Bool.false_eq_true, ↓reduceIte, Nat.zero_add, TT38, TT92]
      refine ACall.intro (tunOwn_a p.data hl) ?_
      simp only [ac_ret, ac_seq, ac_region, at_normal, ae_ret, ao_nil, ao_cons, as_alloc, as_store, as_move, as_assign, as_extract, pktL, pktA, u8A, u16A, u32A, i64, boA, fr_false, List.contains_nil, beq_self_eq_true, Bool.and_self, hk_some, hopG, rd, aopsD, heapF, evT, lk, putT, cellsF, ovw, okCell, resF, resL, Value.oneCell', List.length_cons, List.length_nil, List.getElem?_cons_zero, List.getElem?_cons_succ, List.set_cons_zero, List.set_cons_succ, List.nil_append, List.cons_append, List.all_cons, List.all_nil, Option.map_some, Option.bind_some, Nat.reduceAdd, Nat.reduceSub, Nat.reduceEqDiff, Nat.reduceLeDiff, and_true, and_self, eq_self, Bool.false_eq_true, ↓reduceIte, Nat.zero_add, Nat.le_refl, TT92]
      try rfl
    · rw [if_pos rfl]
      simp only [ac_ret, ac_seq, ac_cond, ac_region, at_normal, at_ret, ae_ret, ao_nil, ao_cons, if_t, as_assign, boA, fr_false, List.contains_nil, beq_self_eq_true, rd, aopsD, constT, evT, lk, putT, resF, resL, constA, cellA, Option.map_some, Option.bind_some, Nat.reduceSub, Nat.reduceEqDiff, Nat.reduceLeDiff, and_true, and_self, eq_self, Bool.false_eq_true, ↓reduceIte]
      try rfl
set_option maxRecDepth 100000 in
theorem refOwn29_a (b : List UInt8) (hl : b.length ≤ 1000000) : ASpec Try.prog 164 [.bs b] (.tup [.bs (ownP b), i64 (ipP b).2]) := by
  have n2 := get16_bd b 2
  refine ASpec.of_body TT_ok Try.mixed _ [.tmp 2, .tmp 3] ([], []) Try.func164 (by kernel_rfl) rfl rfl (by simp only [Try.ntmps164, List.length_cons, List.length_nil]; omega) rfl (by kernel_rfl) ?_
  simp only [argE_cons, argE_nil, ac_seq, ac_region, at_normal, ao_nil, ao_cons, as_call, as_move, as_assign, i64, fr_false, List.contains_nil, beq_self_eq_true, rd, aopsD, frzW, frzR, constT, evT, lk, putT, argsF, constA, cellA, Option.map_some, Nat.reduceSub, Nat.reduceLeDiff, Nat.succ_ne_zero, eq_self, Bool.false_eq_true, ↓reduceIte, Nat.zero_add]
  refine ACall.intro (refParse06_a b hl) ?_
  cases he : decide ((ipP b).2 = 0)
  · have he' := dF.1 he
    rw [ownP, if_neg he']
    simp only [he, ac_ret, ac_seq, ac_cond, ac_region, at_normal, at_ret, ae_ret, ao_nil, ao_cons, if_t, as_alloc, as_store, as_move, as_assign, as_binOp, as_extract, pktL, pktA, u8A, u16A, u32A, i64, boA, fr_false, List.contains_nil, beq_self_eq_true, Bool.and_self, hk_some, hopG, rd, aopsD, heapF, constT, evT, lk, putT, binF, cellsF, ovw, okCell, resF, resL, constA, cellA, Value.oneCell', List.length_cons, List.length_nil, List.getElem?_cons_zero, List.getElem?_cons_succ, List.set_cons_zero, List.set_cons_succ, List.nil_append, List.all_cons, List.all_nil, Option.map_some, Option.bind_some, Nat.reduceAdd, Nat.reduceSub, Nat.reduceEqDiff, Nat.reduceLeDiff, and_true, and_self, eq_self, Bool.false_eq_true, Bool.not_false, ↓reduceIte, Nat.zero_add, Nat.le_refl, TT3, TT92]
    try rfl
  · have he' := dT.1 he
    obtain ⟨_, _, h4, h5, _, _⟩ := ipP_ok b he'
    have w2 : IntKind.i64.wrap (IntKind.i64.wrap (IntKind.i64.wrap (byteN b 2) * 256) + IntKind.i64.wrap (byteN b 3)) = get16 b 2 := i64_bytes b 2 (by omega)
    rw [ownP, if_pos he']
    have hz : (get16 b 2 - 0).toNat = (get16 b 2).toNat := by rw [Int.sub_zero]
    simp only [he, getD_byteN, w2, hz, ac_skip, ac_seq, ac_cond, ac_region, at_normal, ao_nil, ao_cons, if_f, as_call, as_alloc, as_store, as_move, as_assign, as_binOp, as_convert, as_load, as_indexAddr, as_extract, as_slice, pktL, pktA, u8A, u16A, u32A, i64, boA, fr_false, List.contains_nil, Nat.reduceBEq, beq_self_eq_true, Bool.and_self, hk_some, hopG, rd, aopsD, heapF, frzW, tlN, constT, evT, lk, putT, binF, convF, loadF, cellsF, ovw, bndF, cutF, argsF, okCell, constA, cellA, TK.isAgg, Value.oneCell', List.length_cons, List.length_nil, List.getElem?_cons_zero, List.getElem?_cons_succ, List.drop_zero, List.set_cons_zero, List.set_cons_succ, List.nil_append, List.all_cons, List.all_nil, Option.map_some, Option.map_none, Option.bind_some, Nat.reduceAdd, Nat.reduceSub, Nat.reduceEqDiff, Nat.reduceLeDiff, Nat.succ_ne_zero, true_and, and_self, eq_self, Bool.false_eq_true, Bool.not_true, ↓reduceIte, Int.toNat_zero, Int.reduceToNat, Int.reduceLE, Nat.zero_add, Nat.le_refl, TT3, TT5, TT38, TT92]
    refine ⟨by omega, by omega, ⟨by omega, by omega⟩, ?_⟩
    refine ACall.intro (add_a _ [] (by simp; omega)) ?_
    simp only [ac_ret, at_normal, ae_ret, ao_nil, ao_cons, as_assign, Nat.reduceBEq, rd, constT, evT, lk, putT, resF, resL, constA, cellA, List.append_nil, Option.map_some, Option.bind_some, Nat.reduceSub, Nat.reduceEqDiff, true_and, and_true, eq_self, ↓reduceIte]
    rw [he']
    try rfl
set_option maxRecDepth 100000 in
theorem refWrap29_a (c : CfgN) (b : List UInt8) (to_ id : Int) (hl : b.length ≤ 1000000) : ASpec Try.prog 102 [cfgA c, .bs b, u32A to_, u16A id] (.tup [pktA (wrapP c b to_ id).1, i64 (wrapP c b to_ id).2]) := by
  have hol := ownP_len b
  refine ASpec.of_body TT_ok Try.mixed _ [.cell 8 92, .tmp 9] ([], []) Try.func102 (by kernel_rfl) rfl rfl (by simp only [Try.ntmps102, List.length_cons, List.length_nil]; omega) rfl (by kernel_rfl) ?_
  simp only [argE_cons, argE_nil, ac_seq, ac_region, at_normal, ao_nil, ao_cons, as_call, as_box, as_alloc, as_move, as_assign, pktL, pktA, cfgL, cfgA, u8A, u16A, u32A, i64, boA, fr_false, List.contains_nil, beq_self_eq_true, rd, aopsD, heapF, frzW, frzR, constT, evT, lk, putT, cellsF, argsF, constA, cellA, List.length_cons, List.length_nil, List.nil_append, List.cons_append, Option.map_some, Nat.reduceAdd, Nat.reduceSub, Nat.reduceEqDiff, Nat.reduceLeDiff, true_and, eq_self, reduceCtorEq, Bool.false_eq_true, ↓reduceIte, Nat.zero_add, TT92]
  refine ACall.intro (refOwn29_a b hl) ?_
  cases he : decide ((ipP b).2 = 0)
  · have he' := dF.1 he
    rw [wrapP, if_neg he']
    simp only [he, ac_ret, ac_seq, ac_cond, ac_region, at_normal, at_ret, ae_ret, ao_nil, ao_cons, if_t, as_store, as_move, as_assign, as_binOp, as_extract, as_build, i64, fr_false, fr_nil, fr_cons, List.contains_nil, beq_self_eq_true, Bool.and_self, hk_some, hopG, rd, aopsD, heapF, constT, evT, lk, putT, binF, loadF, cellsF, ovw, fillF, buildF, partsF, okCell, resF, resL, constA, cellA, TK.isAgg, Value.oneCell', List.length_cons, List.length_nil, List.getElem?_cons_zero, List.getElem?_cons_succ, List.drop_zero, List.take_succ_cons, List.take_nil, List.set_cons_zero, List.set_cons_succ, List.all_cons, List.all_nil, Option.map_some, Option.bind_some, Nat.reduceAdd, Nat.reduceSub, Nat.reduceEqDiff, Nat.reduceLeDiff, true_and, and_true, and_self, eq_self, Bool.false_eq_true, Bool.not_false, ↓reduceIte, Nat.zero_add, Nat.le_refl, TT3, TT92]
    try rfl
  · have he' := dT.1 he
    rw [wrapP, if_pos he']
    simp only [he, i64_in (n := ((ownP b).length : Int) + 20) (by omega) (by omega), ac_skip, ac_seq, ac_cond, ac_region, at_normal, ao_nil, ao_cons, if_f, as_move, as_assign, as_binOp, as_load, as_fieldAddr, as_extract, as_len, i64, fr_false, List.contains_nil, beq_self_eq_true, hk_some, hopG, hopF, rd, aopsD, constT, evT, lk, putT, lenF, binF, loadF, constA, cellA, TK.isAgg, List.getElem?_cons_zero, List.getElem?_cons_succ, List.drop_zero, List.drop_succ_cons, Option.map_some, Nat.reduceSub, Nat.reduceEqDiff, Nat.reduceLeDiff, Nat.succ_ne_zero, ne_eq, not_false_eq_true, true_and, eq_self, Bool.false_eq_true, Bool.not_true, ↓reduceIte, Nat.zero_add, TT3, TT37, TT38]
    cases hc : decide (c.mtu < ((ownP b).length : Int) + 20)
    · rw [dF] at hc
      rw [if_neg hc]
      obtain ⟨_, _, h4, h5, _, _⟩ := ipP_ok b he'
      have b1 := byteN_bd b 1
      have b6 := byteN_bd b 6
      have hP : (ipP b).1.tos = byteN b 1 ∧ (ipP b).1.df = decide (byteN b 6 / 64 % 2 = 1) := by
        have g6 : get16 b 6 = byteN b 6 * 256 + byteN b 7 := get16_bytes b 6 (by omega)
        have b7 := byteN_bd b 7
        rw [ipP] at he' ⊢
        split
        · refine ⟨rfl, ?_⟩
          simp only
          rw [Bool.eq_iff_iff, dT, dT, g6]
          omega
        · rename_i h
          rw [if_neg h] at he'
          exact absurd he' h
      rw [hP.1, hP.2]
      simp only [getD_byteN, tdivN (a := byteN b 6) (b := 64) b6.1, u8_in (n := byteN b 6 / 64) (by omega) (by omega), tmodN (a := byteN b 6 / 64) (b := 2) (by omega), ac_skip, ac_ret, ac_seq, ac_region, at_normal, ae_ret, ao_nil, ao_cons, if_f, as_store, as_move, as_assign, as_binOp, as_load, as_fieldAddr, as_indexAddr, as_build, fr_false, fr_nil, fr_cons, List.contains_nil, Nat.reduceBEq, Int.cast_ofNat_Int, Bool.and_self, Int.reduceEq, hk_some, hopG, rd, aopsD, heapF, tlN, constT, evT, lk, putT, binF, loadF, cellsF, ovw, fillF, buildF, partsF, okCell, resF, resL, constA, cellA, TK.isAgg, Value.oneCell', List.length_cons, List.length_nil, List.getElem?_cons_zero, List.getElem?_cons_succ, List.drop_zero, List.drop_succ_cons, List.take_succ_cons, List.take_nil, List.set_cons_zero, List.set_cons_succ, List.all_cons, List.all_nil, Option.map_some, Option.bind_some, Nat.reduceAdd, Nat.reduceSub, Nat.reduceEqDiff, Nat.reduceLeDiff, Nat.succ_ne_zero, ne_eq, not_false_eq_true, true_and, and_true, and_self, eq_self, reduceCtorEq, Bool.false_eq_true, ↓reduceIte, Int.reduceToNat, Int.reduceLT, Int.reduceLE, Nat.mul_one, Nat.zero_add, Nat.le_refl, TT5, TT22, TT31, TT37, TT38, TT92]
      exact ⟨by omega, by omega⟩
    · rw [dT] at hc
      rw [if_pos hc]
      simp only [ac_ret, ac_seq, ac_region, at_normal, at_ret, ae_ret, ao_nil, ao_cons, if_t, as_store, as_assign, as_build, fr_false, fr_nil, fr_cons, List.contains_nil, beq_self_eq_true, Bool.and_self, hk_some, hopG, rd, aopsD, heapF, constT, evT, lk, putT, loadF, cellsF, ovw, fillF, buildF, partsF, okCell, resF, resL, constA, cellA, TK.isAgg, Value.oneCell', List.length_cons, List.length_nil, List.getElem?_cons_zero, List.getElem?_cons_succ, List.drop_zero, List.take_succ_cons, List.take_nil, List.set_cons_zero, List.set_cons_succ, List.all_cons, List.all_nil, Option.map_some, Option.bind_some, Nat.reduceAdd, Nat.reduceSub, Nat.reduceEqDiff, Nat.reduceLeDiff, true_and, and_true, and_self, eq_self, Bool.false_eq_true, ↓reduceIte, Nat.zero_add, Nat.le_refl, TT92]
      try rfl
set_option maxRecDepth 100000 in
theorem refOpen29_a (p : PktN) (hl : p.data.length ≤ 1000000) : ASpec Try.prog 104 [pktA p] (.tup [.bs (openP p).1, i64 (openP p).2]) := by
  refine ASpec.of_body TT_ok Try.mixed _ [.tmp 2, .tmp 3] ([], []) Try.func104 (by kernel_rfl) rfl rfl (by simp only [Try.ntmps104, List.length_cons, List.length_nil]; omega) rfl (by kernel_rfl) ?_
  simp only [argE_cons, argE_nil, ac_seq, ac_cond, ac_region, at_normal, ao_nil, ao_cons, as_box, as_assign, as_binOp, as_load, as_fieldAddr, pktL, pktA, u8A, u16A, u32A, i64, boA, fr_false, List.contains_nil, beq_self_eq_true, hk_some, hopG, rd, aopsD, heapF, constT, evT, lk, putT, binF, loadF, cellsF, constA, cellA, TK.isAgg, List.length_nil, List.getElem?_cons_zero, List.getElem?_cons_succ, List.drop_zero, List.drop_succ_cons, List.nil_append, Option.map_some, Nat.reduceSub, Nat.reduceEqDiff, Nat.reduceLeDiff, Nat.succ_ne_zero, ne_eq, not_false_eq_true, true_and, eq_self, Bool.false_eq_true, ↓reduceIte, Nat.zero_add, TT5, TT92]
  cases c1 : decide (p.proto = 4)
  · rw [openP, if_neg (dF.1 c1)]
    simp only [ac_ret, ac_seq, ac_region, at_normal, at_ret, ae_ret, ao_nil, ao_cons, if_t, as_assign, fr_false, List.contains_nil, beq_self_eq_true, rd, aopsD, constT, evT, lk, putT, resF, resL, constA, cellA, Option.map_some, Option.bind_some, Nat.reduceSub, Nat.reduceEqDiff, Nat.reduceLeDiff, and_true, and_self, eq_self, Bool.false_eq_true, Bool.not_false, ↓reduceIte]
    try rfl
  · rw [openP, if_pos (dT.1 c1)]
    simp only [ac_skip, ac_seq, ac_region, at_normal, ao_cons, ao_guard_f, if_f, as_move, as_load, as_fieldAddr, fr_false, List.contains_nil, beq_self_eq_true, hk_some, hopG, rd, aopsD, evT, lk, putT, GV, gdst, loadF, TK.isAgg, List.getElem?_cons_zero, List.getElem?_cons_succ, List.drop_zero, List.drop_succ_cons, Option.map_some, Nat.reduceSub, Nat.reduceEqDiff, Nat.reduceLeDiff, Nat.succ_ne_zero, ne_eq, not_false_eq_true, true_and, eq_self, Bool.false_eq_true, Bool.not_true, ↓reduceIte, Nat.zero_add, TT4, TT92]
    cases c2 : p.mf
    · simp only [ac_cond, at_normal, ao_nil, ao_cons, ao_guard_f, st_at, pk_at, if_f, as_pick, as_binOp, as_load, as_fieldAddr, Bool.false_or, beq_self_eq_true, hk_some, hopG, rd, constT, evT, lk, putT, GV, gdst, binF, loadF, constA, cellA, TK.isAgg, List.getElem?_cons_zero, List.getElem?_cons_succ, List.drop_zero, List.drop_succ_cons, Option.map_some, Nat.reduceSub, Nat.reduceEqDiff, Nat.succ_ne_zero, ne_eq, not_false_eq_true, true_and, eq_self, Bool.false_eq_true, ↓reduceIte, Nat.zero_add, TT23, TT92]
      cases c3 : decide (0 < p.off)
      · rw [if_neg (by simp)]
        simp only [ac_skip, ac_seq, ac_region, at_normal, ao_cons, if_f, as_call, as_load, as_fieldAddr, fr_false, List.contains_nil, beq_self_eq_true, hk_some, hopG, rd, aopsD, frzW, frzR, evT, lk, putT, loadF, argsF, TK.isAgg, List.getElem?_cons_zero, List.getElem?_cons_succ, List.drop_zero, List.drop_succ_cons, Option.map_some, Nat.reduceSub, Nat.reduceEqDiff, Nat.reduceLeDiff, Nat.succ_ne_zero, ne_eq, not_false_eq_true, true_and, eq_self, Bool.false_eq_true, ↓reduceIte, Nat.zero_add, TT38, TT92]
        refine ACall.intro (refOwn29_a p.data hl) ?_
        simp only [ac_ret, at_normal, ae_ret, ao_nil, ao_cons, as_assign, as_extract, i64, beq_self_eq_true, hk_some, hopG, rd, evT, lk, putT, resF, resL, List.getElem?_cons_zero, List.getElem?_cons_succ, Option.map_some, Option.bind_some, Nat.reduceSub, Nat.reduceEqDiff, and_true, and_self, eq_self, ↓reduceIte]
        try rfl
      · rw [if_pos (by simp)]
        simp only [ac_ret, ac_seq, ac_region, at_normal, at_ret, ae_ret, ao_nil, ao_cons, if_t, as_assign, fr_false, List.contains_nil, beq_self_eq_true, rd, aopsD, constT, evT, lk, putT, resF, resL, constA, cellA, Option.map_some, Option.bind_some, Nat.reduceSub, Nat.reduceEqDiff, Nat.reduceLeDiff, and_true, and_self, eq_self, Bool.false_eq_true, ↓reduceIte]
        try rfl
    · rw [if_pos (by simp)]
      simp only [ac_ret, ac_seq, ac_cond, ac_region, at_normal, at_ret, ae_ret, ao_nil, ao_cons, ao_guard_f, sk_at, pk_at, if_t, as_pick, as_assign, fr_false, List.contains_nil, beq_self_eq_true, rd, aopsD, constT, evT, lk, putT, GV, gdst, resF, resL, constA, cellA, Option.map_some, Option.bind_some, Nat.reduceSub, Nat.reduceEqDiff, Nat.reduceLeDiff, and_true, and_self, eq_self, Bool.false_eq_true, ↓reduceIte]
      try rfl
end Go.Proofs.Ytafajmnlknmfiaa
