/- Package splice: the contracts, and what is shifted back. -/
import Derived.Test.YthjojkkapboonaaWA
namespace Go.Proofs.Ythjojkkapboonaa
set_option linter.unusedSimpArgs false
set_option linter.unusedVariables false
open Go.RowKit

def opp (n : Int) : Int := IntKind.u32.wrap (0 - n)
set_option maxRecDepth 100000 in
theorem opposite_a (n : Int) (h : 0 ≤ n ∧ n ≤ 4294967295) : ASpec Try.prog 16 [u32A n] (u32A (opp n)) := by
  refine ASpec.of_body TT_ok Try.mixed _ [.tmp 2] ([], []) Try.func16 (by kernel_rfl) rfl rfl (by simp only [Try.ntmps16, List.length_cons, List.length_nil]; omega) rfl (by kernel_rfl) ?_
  simp only [argE_cons, argE_nil, ac_seq, ac_cond, ac_region, at_normal, ao_nil, ao_cons, as_move, as_assign, as_binOp, u32A, fr_false, List.contains_nil, beq_self_eq_true, hk_some, hopG, rd, aopsD, constT, evT, lk, putT, binF, constA, cellA, Option.map_some, Nat.reduceSub, Nat.reduceLeDiff, Nat.succ_ne_zero, true_and, eq_self, Bool.false_eq_true, ↓reduceIte, Nat.zero_add, TT22]
  cases c : decide (n = 0)
  · simp only [ac_skip, ac_ret, ac_seq, ac_region, at_normal, ae_ret, ao_nil, ao_cons, if_f, as_move, as_assign, as_binOp, fr_false, List.contains_nil, beq_self_eq_true, hk_some, hopG, rd, aopsD, constT, evT, lk, putT, binF, resF, resL, constA, cellA, Option.map_some, Option.bind_some, Nat.reduceSub, Nat.reduceLeDiff, Nat.succ_ne_zero, true_and, and_true, eq_self, Bool.false_eq_true, ↓reduceIte, TT22]
    rw [show IntKind.u32.wrap (IntKind.u32.wrap (4294967295 - n) + 1) = opp n by
      have := dF.1 c
      rw [opp, IntKind.wrap_u32, IntKind.wrap_u32, IntKind.wrap_u32]
      omega]
  · simp only [ac_ret, ac_seq, ac_region, at_normal, at_ret, ae_ret, ao_nil, ao_cons, if_t, as_assign, fr_false, List.contains_nil, beq_self_eq_true, rd, aopsD, constT, evT, lk, putT, resF, resL, constA, cellA, Option.map_some, Option.bind_some, Nat.reduceSub, Nat.reduceLeDiff, true_and, and_true, eq_self, Bool.false_eq_true, ↓reduceIte]
    have := dT.1 c
    subst this
    rfl
set_option maxRecDepth 100000 in
theorem ref28Apply_a (sp dp q k : Int) (s : SegN) (hs : s.ok) : ASpec Try.prog 19 [u16A sp, u16A dp, u32A q, u32A k, segA s] (segA (shiftS sp dp q k s)) := by
  have hb := hasN_bit s.flags 16 hs.flags (by omega)
  refine ASpec.of_body TT_ok Try.mixed _ [.cell 10 40] ([], []) Try.func19 (by kernel_rfl) rfl rfl (by simp only [Try.ntmps19, List.length_cons, List.length_nil]; omega) rfl (by kernel_rfl) ?_
  simp only [argE_cons, argE_nil, ac_seq, ac_region, at_normal, ao_nil, ao_cons, as_call, as_box, as_alloc, as_store, as_move, as_binOp, as_load, as_fieldAddr, segL, segA, u8A, u16A, u32A, fr_false, List.contains_nil, beq_self_eq_true, Bool.and_self, hk_some, hopG, rd, aopsD, heapF, frzW, frzR, constT, evT, lk, putT, binF, loadF, cellsF, ovw, argsF, okCell, constA, cellA, TK.isAgg, Value.oneCell', List.length_cons, List.length_nil, List.getElem?_cons_zero, List.getElem?_cons_succ, List.drop_zero, List.drop_succ_cons, List.take_succ_cons, List.take_nil, List.set_cons_zero, List.set_cons_succ, List.nil_append, List.cons_append, List.all_cons, List.all_nil, Option.map_some, Nat.reduceAdd, Nat.reduceSub, Nat.reduceEqDiff, Nat.reduceLeDiff, Nat.succ_ne_zero, ne_eq, not_false_eq_true, true_and, and_self, eq_self, reduceCtorEq, Bool.false_eq_true, ↓reduceIte, Nat.zero_add, Nat.add_zero, Nat.le_refl, TT5, TT22, TT23, TT40]
  refine ACall.intro (refBit09_a s.flags 16 hs.flags (by decide)) ?_
  rw [← hb]
  cases c : hasN s.flags 16
  · simp only [ac_skip, ac_ret, ac_seq, ac_cond, ac_region, at_normal, ae_ret, ao_nil, ao_cons, if_f, as_store, as_load, boA, fr_false, fr_nil, fr_cons, List.contains_nil, beq_self_eq_true, Bool.and_self, hk_some, hopG, rd, aopsD, heapF, evT, lk, putT, loadF, cellsF, ovw, okCell, resF, resL, TK.isAgg, Value.oneCell', List.length_cons, List.length_nil, List.getElem?_cons_zero, List.getElem?_cons_succ, List.drop_zero, List.take_succ_cons, List.take_nil, List.set_cons_zero, List.set_cons_succ, List.all_cons, List.all_nil, Option.map_some, Option.bind_some, Nat.reduceAdd, Nat.reduceSub, Nat.reduceEqDiff, Nat.reduceLeDiff, true_and, and_true, and_self, eq_self, Bool.false_eq_true, ↓reduceIte, Nat.zero_add, Nat.le_refl, TT40]
    rw [shiftS, c]
    simp
  · simp only [ac_ret, ac_seq, ac_cond, ac_region, at_normal, ae_ret, ao_nil, ao_cons, if_t, as_store, as_move, as_binOp, as_load, as_fieldAddr, boA, fr_false, fr_nil, fr_cons, List.contains_nil, beq_self_eq_true, Bool.and_self, hk_some, hopG, rd, aopsD, heapF, evT, lk, putT, binF, loadF, cellsF, ovw, okCell, resF, resL, TK.isAgg, Value.oneCell', List.length_cons, List.length_nil, List.getElem?_cons_zero, List.getElem?_cons_succ, List.drop_zero, List.drop_succ_cons, List.take_succ_cons, List.take_nil, List.set_cons_zero, List.set_cons_succ, List.all_cons, List.all_nil, Option.map_some, Option.bind_some, Nat.reduceAdd, Nat.reduceSub, Nat.reduceEqDiff, Nat.reduceLeDiff, Nat.succ_ne_zero, ne_eq, not_false_eq_true, true_and, and_true, and_self, eq_self, reduceCtorEq, Bool.false_eq_true, ↓reduceIte, Nat.zero_add, Nat.le_refl, TT22, TT40]
    rw [shiftS, c]
    simp
def hereT (e : EntN) : TurnN := ⟨e.f.dst, e.f.src, e.f.dp, e.f.sp, opp e.shift, 0⟩
def thereT (e : EntN) (c : CfgN) (to_ port : Int) : TurnN := ⟨c.a1, to_, e.port, port, 0, e.shift⟩
set_option maxRecDepth 100000 in
theorem here_a (e : EntN) : ASpec Try.prog 15 [entA e] (turnA (hereT e)) := by
  refine ASpec.of_body TT_ok Try.mixed _ [.cell 2 43] ([], []) Try.func15 (by kernel_rfl) rfl rfl (by simp only [Try.ntmps15, List.length_cons, List.length_nil]; omega) rfl (by kernel_rfl) ?_
  simp only [argE_cons, argE_nil, ac_ret, ac_seq, ac_region, at_normal, ae_ret, ao_nil, ao_cons, as_box, as_alloc, as_store, as_unOp, as_load, as_fieldAddr, as_build, turnL, turnA, entL, entA, u8A, u16A, u32A, fr_false, fr_nil, fr_cons, List.contains_nil, beq_self_eq_true, Bool.and_self, hk_some, hopG, rd, aopsD, heapF, evT, lk, putT, unF, loadF, cellsF, ovw, fillF, buildF, partsF, okCell, resF, resL, TK.isAgg, Value.oneCell', List.length_cons, List.length_nil, List.getElem?_cons_zero, List.getElem?_cons_succ, List.drop_zero, List.drop_succ_cons, List.take_succ_cons, List.take_nil, List.set_cons_zero, List.set_cons_succ, List.nil_append, List.cons_append, List.all_cons, List.all_nil, Option.map_some, Option.bind_some, Nat.reduceAdd, Nat.reduceSub, Nat.reduceEqDiff, Nat.reduceLeDiff, Nat.succ_ne_zero, ne_eq, not_false_eq_true, true_and, and_true, and_self, eq_self, Bool.false_eq_true, ↓reduceIte, Nat.zero_add, Nat.add_zero, Nat.le_refl, TT22, TT23, TT25, TT27, TT43]
  try rfl
set_option maxRecDepth 100000 in
theorem there_a (e : EntN) (c : CfgN) (to_ port : Int) : ASpec Try.prog 14 [entA e, cfgA c, u32A to_, u16A port] (turnA (thereT e c to_ port)) := by
  refine ASpec.of_body TT_ok Try.mixed _ [.cell 8 43] ([], []) Try.func14 (by kernel_rfl) rfl rfl (by simp only [Try.ntmps14, List.length_cons, List.length_nil]; omega) rfl (by kernel_rfl) ?_
  simp only [argE_cons, argE_nil, ac_ret, ac_seq, ac_region, at_normal, ae_ret, ao_nil, ao_cons, as_box, as_alloc, as_store, as_move, as_load, as_fieldAddr, as_indexAddr, as_build, turnL, turnA, cfgL, cfgA, entL, entA, u8A, u16A, u32A, i64, fr_false, fr_nil, fr_cons, List.contains_nil, beq_self_eq_true, Int.cast_ofNat_Int, Bool.and_self, hk_some, hopG, rd, aopsD, heapF, constT, evT, lk, putT, loadF, cellsF, ovw, fillF, buildF, partsF, okCell, resF, resL, constA, cellA, TK.isAgg, Value.oneCell', List.length_cons, List.length_nil, List.getElem?_cons_zero, List.getElem?_cons_succ, List.drop_zero, List.drop_succ_cons, List.take_succ_cons, List.take_nil, List.set_cons_zero, List.set_cons_succ, List.nil_append, List.cons_append, List.all_cons, List.all_nil, Option.map_some, Option.bind_some, Nat.reduceAdd, Nat.reduceSub, Nat.reduceEqDiff, Nat.reduceLeDiff, Nat.succ_ne_zero, ne_eq, not_false_eq_true, true_and, and_true, and_self, eq_self, reduceCtorEq, Bool.false_eq_true, ↓reduceIte, Int.reduceToNat, Int.reduceLT, Int.reduceLE, Nat.mul_one, Nat.zero_add, Nat.le_refl, TT22, TT23, TT27, TT31, TT37, TT43]
  try rfl
set_option maxRecDepth 100000 in
theorem lives28_a : ASpec Try.prog 20 [] (boA true) := by
  have e1 : (shiftS 0 0 5 6 ⟨0, 0, 4294967295, 1, 0, 16, 0, 0, [], []⟩) = ⟨0, 0, 4, 7, 0, 16, 0, 0, [], []⟩ := by
    have h1 : hasN 16 16 = true := by decide +kernel
    have h2 : IntKind.u32.wrap (4294967295 + 5) = 4 := by decide +kernel
    have h3 : IntKind.u32.wrap (1 + 6) = 7 := by decide +kernel
    simp only [shiftS, h1, h2, h3, if_true]
  refine ASpec.of_body TT_ok Try.mixed _ [.tmp 0] ([], []) Try.func20 (by kernel_rfl) rfl rfl (by simp only [Try.ntmps20, List.length_nil]; omega) rfl (by kernel_rfl) ?_
  simp only [argE_nil, ac_seq, ac_region, at_normal, ao_nil, ao_cons, as_call, as_assign, as_build, boA, fr_false, List.contains_nil, beq_self_eq_true, hk_some, hopG, rd, aopsD, frzW, frzR, constT, evT, lk, putT, cellsF, ovw, fillF, buildF, partsF, argsF, constA, cellA, Value.oneCell', List.length_cons, List.length_nil, List.getElem?_cons_zero, List.getElem?_cons_succ, List.set_cons_zero, List.set_cons_succ, Option.map_some, Nat.reduceAdd, Nat.reduceSub, Nat.reduceEqDiff, Nat.reduceLeDiff, true_and, and_self, eq_self, Bool.false_eq_true, ↓reduceIte, Nat.zero_add, Nat.le_refl, TT40, TT43]
  refine ACall.intro (spliceApply_a ⟨0, 0, 0, 0, 5, 6⟩ ⟨0, 0, 4294967295, 1, 0, 16, 0, 0, [], []⟩ (by simp) (by simp)) ?_
  rw [e1]
  simp only [ac_ret, ac_seq, ac_region, at_normal, ae_ret, ao_nil, ao_cons, ao_guard_t, st_at, pk_at, if_t, as_pick, as_alloc, as_store, as_move, as_assign, as_binOp, as_load, as_fieldAddr, segL, segA, u8A, u16A, u32A, fr_false, List.contains_nil, beq_self_eq_true, decide_true, Bool.and_self, hk_some, hopG, rd, aopsD, heapF, constT, evT, lk, putT, GV, gdst, binF, loadF, cellsF, ovw, okCell, resF, resL, constA, cellA, TK.isAgg, Value.oneCell', List.length_cons, List.length_nil, List.getElem?_cons_zero, List.getElem?_cons_succ, List.drop_zero, List.drop_succ_cons, List.set_cons_zero, List.set_cons_succ, List.nil_append, List.all_cons, List.all_nil, Option.map_some, Option.bind_some, Nat.reduceAdd, Nat.reduceSub, Nat.reduceEqDiff, Nat.reduceLeDiff, Nat.succ_ne_zero, ne_eq, not_false_eq_true, and_true, and_self, eq_self, Bool.false_eq_true, ↓reduceIte, Nat.zero_add, Nat.le_refl, TT22, TT40]
theorem shift_back (a b q k : Int) (s : SegN) (hs : s.ok) : shiftS s.src s.dst (opp q) (opp k) (shiftS a b q k s) = s := by
  have e1 : IntKind.u32.wrap (IntKind.u32.wrap (s.seq + q) + opp q) = s.seq := by
    have := hs.seq
    rw [opp, IntKind.wrap_u32, IntKind.wrap_u32, IntKind.wrap_u32]
    omega
  have e2 : IntKind.u32.wrap (IntKind.u32.wrap (s.ack + k) + opp k) = s.ack := by
    have := hs.ack
    rw [opp, IntKind.wrap_u32, IntKind.wrap_u32, IntKind.wrap_u32]
    omega
  cases c : hasN s.flags 16
  · simp [shiftS, c, e1]
  · simp [shiftS, c, e1, e2]
theorem shift_sp (a b q k : Int) (s : SegN) : tcpSp (shiftS a b q k s) = tcpSp s := rfl
set_option maxRecDepth 100000 in
theorem spliceBack_a (t : TurnN) (s : SegN) (ht : t.ok) (hs : s.ok) : ASpec Try.prog 4 [turnA t, segA s] (boA true) := by
  obtain ⟨z, hz⟩ : ∃ z : SegN, z = { s with opts := s.opts.take 50, data := s.data.take 200 } := ⟨_, rfl⟩
  have hzo : z.ok := by subst hz; obtain ⟨k1, k2, k3, k4, k5, k6, k7, k8⟩ := hs; constructor <;> assumption
  have l1 : z.opts.length ≤ 50 := by subst hz; simp; omega
  have l2 : z.data.length ≤ 200 := by subst hz; simp; omega
  have hb := shift_back t.sp t.dp t.seq t.ack z hzo
  have hn : IntKind.u32.wrap (IntKind.u32.wrap (z.seq + t.seq) + tcpSp z) = IntKind.u32.wrap (IntKind.u32.wrap (z.seq + tcpSp z) + t.seq) := by
    rw [IntKind.wrap_u32, IntKind.wrap_u32, IntKind.wrap_u32, IntKind.wrap_u32]
    omega
  obtain ⟨x, hx⟩ : ∃ x : SegN, x = shiftS t.sp t.dp t.seq t.ack z := ⟨_, rfl⟩
  have x1 : x.opts.length ≤ 50 := by subst hx; exact l1
  have x2 : x.data = z.data := by subst hx; rfl
  have x5 : x.data.length ≤ 200 := by rw [x2]; exact l2
  have x6 : (x.data == z.data) = true := by rw [x2]; simp
  have x3 : x.seq = IntKind.u32.wrap (z.seq + t.seq) := by subst hx; rfl
  have x4 : tcpSp x = tcpSp z := by subst hx; rfl
  refine ASpec.of_body TT_ok Try.mixed _ [.tmp 4] ([], [(3, 1012)]) Try.func4 (by kernel_rfl) rfl rfl (by simp only [Try.ntmps4, List.length_cons, List.length_nil]; omega) rfl (by kernel_rfl) ?_
  simp only [argE_cons, argE_nil, ac_seq, ac_region, at_normal, ao_nil, ao_cons, as_call, as_box, as_assign, as_load, segL, segA, turnL, turnA, u8A, u16A, u32A, boA, fr_false, List.contains_nil, beq_self_eq_true, hk_some, hopG, rd, aopsD, heapF, frzW, frzR, constT, evT, lk, putT, loadF, cellsF, argsF, constA, cellA, TK.isAgg, List.length_cons, List.length_nil, List.getElem?_cons_zero, List.getElem?_cons_succ, List.drop_zero, List.take_succ_cons, List.take_nil, List.nil_append, List.cons_append, Option.map_some, Nat.reduceAdd, Nat.reduceSub, Nat.reduceEqDiff, Nat.reduceLeDiff, true_and, eq_self, reduceCtorEq, Bool.false_eq_true, ↓reduceIte, Nat.zero_add, Nat.le_refl, TT40]
  refine ACall.intro (refFew09_a s) ?_
  rw [← hz]
  clear hz
  simp only [ac_seq, ac_region, at_normal, ao_nil, ao_cons, as_call, as_store, as_load, segL, segA, u8A, u16A, u32A, fr_false, List.contains_nil, beq_self_eq_true, Bool.and_self, hk_some, hopG, rd, aopsD, heapF, frzW, frzR, evT, lk, putT, loadF, cellsF, ovw, argsF, okCell, TK.isAgg, Value.oneCell', List.length_cons, List.length_nil, List.getElem?_cons_zero, List.getElem?_cons_succ, List.drop_zero, List.take_succ_cons, List.take_nil, List.set_cons_zero, List.set_cons_succ, List.all_cons, List.all_nil, Option.map_some, Nat.reduceAdd, Nat.reduceSub, Nat.reduceEqDiff, Nat.reduceLeDiff, true_and, and_self, eq_self, Bool.false_eq_true, ↓reduceIte, Nat.zero_add, Nat.le_refl, TT40, TT43]
  refine ACall.intro (spliceApply_a t z (by omega) (by omega)) ?_
  rw [← hx] at hb ⊢
  simp only [ac_seq, ac_region, at_normal, ao_nil, ao_cons, as_call, as_alloc, as_store, as_load, as_fieldAddr, segL, segA, u8A, u16A, u32A, fr_false, List.contains_nil, beq_self_eq_true, Bool.and_self, hk_some, hopG, rd, bs_call, bs_load, bs_fieldAddr, ob_cons, aopsD, heapF, frzW, tlN, evT, lk, putT, loadF, cellsF, ovw, argsF, okCell, TK.isAgg, Value.oneCell', List.length_cons, List.length_nil, List.getElem?_cons_zero, List.getElem?_cons_succ, List.drop_zero, List.drop_succ_cons, List.set_cons_zero, List.set_cons_succ, List.nil_append, List.cons_append, List.all_cons, List.all_nil, Option.map_some, Nat.reduceAdd, Nat.reduceSub, Nat.reduceEqDiff, Nat.reduceLeDiff, Nat.succ_ne_zero, ne_eq, not_false_eq_true, true_and, and_self, eq_self, Bool.false_eq_true, ↓reduceIte, Nat.zero_add, Nat.add_zero, Nat.le_refl, TT22, TT23, TT40, TT43]
  refine ACall.intro (opposite_a t.seq ht.seq) ?_
  simp only [as_call, as_load, as_fieldAddr, u32A, hk_some, hopG, rd, bs_call, bs_load, bs_fieldAddr, ob_cons, frzW, evT, lk, putT, loadF, argsF, TK.isAgg, List.getElem?_cons_zero, List.getElem?_cons_succ, List.drop_zero, List.drop_succ_cons, Option.map_some, Nat.reduceEqDiff, Nat.succ_ne_zero, ne_eq, not_false_eq_true, true_and, eq_self, Bool.false_eq_true, ↓reduceIte, Nat.zero_add, TT22, TT43]
  refine ACall.intro (opposite_a t.ack ht.ack) ?_
  simp only [ac_seq, ac_region, at_normal, ao_nil, ao_cons, as_call, as_store, as_load, as_build, u32A, fr_false, List.contains_nil, Nat.reduceBEq, beq_self_eq_true, Bool.and_self, hk_some, hopG, rd, bs_alloc, bs_build, ob_zero, ob_cons, aopsD, heapF, frzW, tlN, evT, lk, putT, loadF, cellsF, ovw, fillF, buildF, partsF, argsF, okCell, TK.isAgg, Value.oneCell', List.length_cons, List.length_nil, List.getElem?_cons_zero, List.getElem?_cons_succ, List.drop_zero, List.take_succ_cons, List.take_nil, List.set_cons_zero, List.set_cons_succ, List.nil_append, List.cons_append, List.all_cons, List.all_nil, Option.map_some, Nat.reduceAdd, Nat.reduceSub, Nat.reduceEqDiff, Nat.reduceLeDiff, true_and, and_self, eq_self, ↓reduceIte, Nat.zero_add, Nat.add_zero, Nat.le_refl, TT40, TT43]
  refine ACall.intro (spliceApply_a ⟨0, 0, z.src, z.dst, opp t.seq, opp t.ack⟩ x (by omega) (by omega)) ?_
  rw [hb]
  simp only [ao_cons, as_call, as_load, segL, segA, u8A, u16A, u32A, Nat.reduceBEq, hk_some, hopG, rd, frzW, evT, lk, putT, loadF, argsF, TK.isAgg, List.length_cons, List.length_nil, List.getElem?_cons_zero, List.getElem?_cons_succ, List.drop_zero, List.take_succ_cons, List.take_nil, Option.map_some, Nat.reduceAdd, Nat.reduceSub, Nat.reduceEqDiff, true_and, eq_self, ↓reduceIte, Nat.zero_add, Nat.le_refl, TT40]
  refine ACall.intro (refSame09_self z) ?_
  simp only [ao_cons, ao_guard_t, st_at, if_t, as_call, as_move, as_load, as_fieldAddr, boA, Nat.reduceBEq, hk_some, hopG, rd, frzW, evT, lk, putT, GV, gdst, loadF, argsF, TK.isAgg, List.getElem?_cons_zero, List.getElem?_cons_succ, List.drop_zero, List.drop_succ_cons, Option.map_some, Nat.reduceSub, Nat.reduceEqDiff, Nat.succ_ne_zero, ne_eq, not_false_eq_true, true_and, eq_self, Bool.false_eq_true, ↓reduceIte, Nat.zero_add, TT38, TT40]
  refine ACall.intro (refSame_a x.data z.data) ?_
  simp only [x6, ao_cons, ao_guard_t, st_at, pk_at, if_t, as_pick, as_call, as_move, as_load, boA, Nat.reduceBEq, hk_some, hopG, rd, frzW, evT, lk, putT, GV, gdst, loadF, argsF, TK.isAgg, List.length_cons, List.length_nil, List.getElem?_cons_zero, List.getElem?_cons_succ, List.drop_zero, List.take_succ_cons, List.take_nil, Option.map_some, Nat.reduceAdd, Nat.reduceSub, Nat.reduceEqDiff, true_and, eq_self, ↓reduceIte, Nat.zero_add, Nat.le_refl, TT40]
  refine ACall.intro (tcpNext_a x (by omega)) ?_
  simp only [ao_guard_t, st_at, if_t, as_call, as_load, u32A, Nat.reduceBEq, hk_some, hopG, rd, frzW, evT, lk, putT, GV, gdst, loadF, argsF, TK.isAgg, List.length_cons, List.length_nil, List.getElem?_cons_zero, List.getElem?_cons_succ, List.drop_zero, List.take_succ_cons, List.take_nil, Option.map_some, Nat.reduceAdd, Nat.reduceSub, Nat.reduceEqDiff, true_and, eq_self, ↓reduceIte, Nat.zero_add, Nat.le_refl, TT40]
  refine ACall.intro (tcpNext_a z (by omega)) ?_
  simp only [x4, show IntKind.u32.wrap (x.seq + tcpSp z) = IntKind.u32.wrap (IntKind.u32.wrap (z.seq + tcpSp z) + t.seq) by rw [x3]; exact hn, ao_cons, ao_guard_t, st_at, pk_at, if_t, as_pick, as_call, as_move, as_binOp, as_load, as_fieldAddr, u32A, Nat.reduceBEq, decide_true, hk_some, hopG, rd, frzW, evT, lk, putT, GV, gdst, binF, loadF, argsF, TK.isAgg, List.length_cons, List.length_nil, List.getElem?_cons_zero, List.getElem?_cons_succ, List.drop_zero, List.drop_succ_cons, List.take_succ_cons, List.take_nil, Option.map_some, Nat.reduceAdd, Nat.reduceSub, Nat.reduceEqDiff, Nat.succ_ne_zero, ne_eq, not_false_eq_true, true_and, eq_self, Bool.false_eq_true, ↓reduceIte, Nat.zero_add, Nat.le_refl, TT22, TT40, TT43]
  refine ACall.intro (tcpSpace_a x (by omega)) ?_
  simp only [ao_guard_t, st_at, if_t, as_call, as_load, u32A, Nat.reduceBEq, hk_some, hopG, rd, frzW, evT, lk, putT, GV, gdst, loadF, argsF, TK.isAgg, List.length_cons, List.length_nil, List.getElem?_cons_zero, List.getElem?_cons_succ, List.drop_zero, List.take_succ_cons, List.take_nil, Option.map_some, Nat.reduceAdd, Nat.reduceSub, Nat.reduceEqDiff, true_and, eq_self, ↓reduceIte, Nat.zero_add, Nat.le_refl, TT40]
  refine ACall.intro (tcpSpace_a z (by omega)) ?_
  simp only [x4, ao_cons, ao_guard_t, st_at, pk_at, if_t, as_pick, as_call, as_move, as_binOp, u32A, Nat.reduceBEq, decide_true, hk_some, hopG, rd, frzW, evT, lk, putT, GV, gdst, binF, argsF, Option.map_some, Nat.reduceSub, Nat.reduceEqDiff, true_and, eq_self, ↓reduceIte, TT22]
  refine ACall.intro lives28_a ?_
  simp only [ac_ret, at_normal, ae_ret, ao_nil, ao_cons, pk_at, if_t, as_pick, as_assign, boA, Nat.reduceBEq, rd, evT, lk, putT, resF, resL, Option.map_some, Option.bind_some, Nat.reduceSub, Nat.reduceEqDiff, and_true, and_self, eq_self, ↓reduceIte]
end Go.Proofs.Ythjojkkapboonaa
