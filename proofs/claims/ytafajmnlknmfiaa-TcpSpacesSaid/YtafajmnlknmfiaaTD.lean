/- The statements of tcp: their own texts. -/
import Derived.Test.YtafajmnlknmfiaaTC
namespace Go.Proofs.Ytafajmnlknmfiaa
set_option linter.unusedSimpArgs false
set_option linter.unusedVariables false
open Go.RowKit

theorem tcpParse_B (src dst : Int) (s : SegN) (hs : s.ok) (hm : segMay s = true) (h1 : 0 ≤ src ∧ src ≤ 4294967295) (h2 : 0 ≤ dst ∧ dst ≤ 4294967295) :
    ASpec Try.prog 72 [u32A src, u32A dst, .bs (tcpB src dst s)] (.tup [segA s, i64 0]) := by
  have hm' := hm
  simp only [segMay, Bool.and_eq_true, decide_eq_true_eq] at hm'
  have hl : (tcpB src dst s).length = 20 + s.opts.length + s.data.length := segB_len _ _
  have := tcpParse_a src dst (tcpB src dst s) h1 h2 (by omega)
  rw [tcpP_B src dst s hs hm] at this
  exact this
theorem tcpP_e (src dst : Int) (b : List UInt8) : IntKind.i64.wrap (tcpP src dst b).2 = (tcpP src dst b).2 := by
  unfold tcpP
  split
  · rfl
  · split
    · rfl
    · split
      · rfl
      · split <;> rfl
def segL9 : SegN := ⟨3, 4, 5, 6, 0, 2, 65535, 0, [], []⟩
theorem segL9_ok : segL9.ok := by constructor <;> simp [segL9]
set_option maxRecDepth 100000 in
theorem lives09_a : ASpec Try.prog 74 [] (boA true) := by
  have hl : ((tcpB 1 2 ⟨3, 4, 5, 6, 0, 2, 65535, 0, [], []⟩).length : Int) = 20 := by rw [show (tcpB 1 2 ⟨3, 4, 5, 6, 0, 2, 65535, 0, [], []⟩).length = 20 + 0 + 0 from segB_len _ _]; rfl
  refine ASpec.of_body TT_ok Try.mixed _ [.tmp 0] ([], []) Try.func74 (by kernel_rfl) rfl rfl (by simp only [Try.ntmps74, List.length_nil]; omega) rfl (by kernel_rfl) ?_
  simp only [argE_nil, ac_seq, ac_region, at_normal, ao_nil, ao_cons, as_call, as_assign, boA, fr_false, List.contains_nil, beq_self_eq_true, rd, aopsD, frzW, frzR, constT, evT, putT, argsF, constA, cellA, Option.map_some, Nat.reduceSub, Nat.reduceLeDiff, Bool.false_eq_true, ↓reduceIte]
  refine ACall.intro (tcpPlain_a 3 4 5 6 2) ?_
  simp only [ao_cons, as_call, segL, segA, u8A, u16A, u32A, beq_self_eq_true, rd, frzW, frzR, constT, evT, lk, putT, argsF, constA, cellA, Option.map_some, Nat.reduceSub, eq_self, ↓reduceIte]
  refine ACall.intro (tcpPut_a 1 2 segL9 segL9_ok rfl (by omega) (by omega)) ?_
  simp only [ac_seq, ac_region, at_normal, ao_nil, ao_cons, as_call, as_move, as_assign, as_extract, i64, fr_false, List.contains_nil, beq_self_eq_true, hk_some, hopG, rd, aopsD, frzW, frzR, constT, evT, lk, putT, argsF, constA, cellA, List.getElem?_cons_zero, List.getElem?_cons_succ, Option.map_some, Nat.reduceSub, Nat.reduceEqDiff, Nat.reduceLeDiff, true_and, eq_self, Bool.false_eq_true, ↓reduceIte]
  refine ACall.intro (tcpParse_B 1 2 segL9 segL9_ok rfl (by omega) (by omega)) ?_
  simp only [hl, segL9, ac_seq, ac_region, at_normal, ao_nil, ao_cons, ao_guard_t, st_at, pk_at, if_t, as_pick, as_call, as_alloc, as_store, as_move, as_assign, as_binOp, as_load, as_fieldAddr, as_extract, as_len, segL, segA, u8A, u16A, u32A, i64, fr_false, List.contains_nil, beq_self_eq_true, decide_true, Bool.and_self, hk_some, hopG, hopF, rd, aopsD, heapF, frzW, frzR, constT, evT, lk, putT, GV, gdst, lenF, binF, loadF, cellsF, ovw, argsF, okCell, constA, cellA, TK.isAgg, Value.oneCell', List.length_cons, List.length_nil, List.getElem?_cons_zero, List.getElem?_cons_succ, List.drop_zero, List.drop_succ_cons, List.take_succ_cons, List.take_nil, List.set_cons_zero, List.set_cons_succ, List.nil_append, List.all_cons, List.all_nil, Option.map_some, Nat.reduceAdd, Nat.reduceSub, Nat.reduceEqDiff, Nat.reduceLeDiff, Nat.succ_ne_zero, ne_eq, not_false_eq_true, true_and, and_self, eq_self, Bool.false_eq_true, ↓reduceIte, Nat.zero_add, Nat.le_refl, TT3, TT22, TT38, TT40, TT61]
  refine ACall.intro (tcpNext_a segL9 (by simp [segL9])) ?_
  simp only [ac_ret, at_normal, ae_ret, ao_nil, ao_cons, ao_guard_t, st_at, pk_at, if_t, as_pick, as_assign, as_binOp, u32A, beq_self_eq_true, hk_some, hopG, rd, constT, evT, lk, putT, GV, gdst, binF, resF, resL, constA, cellA, Option.map_some, Option.bind_some, Nat.reduceSub, Nat.reduceEqDiff, true_and, and_true, eq_self, ↓reduceIte, TT22]
  rw [show IntKind.u32.wrap (segL9.seq + tcpSp segL9) = 6 by decide]
  simp only [decide_true, eq_self]
set_option maxRecDepth 100000 in
theorem tcpParses_a (src dst : Int) (l : List UInt8) (h1 : 0 ≤ src ∧ src ≤ 4294967295) (h2 : 0 ≤ dst ∧ dst ≤ 4294967295) : ASpec Try.prog 12 [u32A src, u32A dst, .bs l] (boA true) := by
  have h3 : (l.take 300).length ≤ 300 := by simp; omega
  refine ASpec.of_body TT_ok Try.mixed _ [.tmp 6] ([], []) Try.func12 (by kernel_rfl) rfl rfl (by simp only [Try.ntmps12, List.length_cons, List.length_nil]; omega) rfl (by kernel_rfl) ?_
  simp only [argE_cons, argE_nil, ac_seq, ac_region, at_normal, ao_nil, ao_cons, as_call, as_move, as_assign, u32A, boA, fr_false, List.contains_nil, beq_self_eq_true, rd, aopsD, frzW, frzR, constT, evT, lk, putT, argsF, constA, cellA, Option.map_some, Nat.reduceAdd, Nat.reduceSub, Nat.reduceEqDiff, Nat.reduceLeDiff, eq_self, reduceCtorEq, Bool.false_eq_true, ↓reduceIte, Nat.zero_add]
  refine ACall.intro (few_a l 300) ?_
  generalize l.take 300 = m at *
  simp only [ac_seq, ac_region, at_normal, ao_nil, ao_cons, as_call, as_move, as_assign, fr_false, List.contains_nil, beq_self_eq_true, rd, aopsD, frzW, frzR, evT, lk, putT, argsF, Option.map_some, Nat.reduceSub, Nat.reduceEqDiff, Nat.reduceLeDiff, Nat.succ_ne_zero, eq_self, reduceCtorEq, Bool.false_eq_true, ↓reduceIte]
  refine ACall.intro (tcpParse_a src dst m h1 h2 (by omega)) ?_
  simp only [ac_seq, ac_region, at_normal, ao_nil, ao_cons, as_call, as_alloc, as_store, as_move, as_assign, as_extract, segL, segA, u8A, u16A, u32A, i64, fr_false, List.contains_nil, beq_self_eq_true, Bool.and_self, hk_some, hopG, rd, aopsD, heapF, frzW, frzR, evT, lk, putT, cellsF, ovw, argsF, okCell, Value.oneCell', List.length_cons, List.length_nil, List.getElem?_cons_zero, List.getElem?_cons_succ, List.set_cons_zero, List.set_cons_succ, List.nil_append, List.all_cons, List.all_nil, Option.map_some, Nat.reduceAdd, Nat.reduceSub, Nat.reduceEqDiff, Nat.reduceLeDiff, Nat.succ_ne_zero, true_and, and_self, eq_self, reduceCtorEq, Bool.false_eq_true, ↓reduceIte, Nat.zero_add, Nat.le_refl, TT40]
  refine ACall.intro (refParse09_a src dst m h1 h2 (by omega)) ?_
  simp only [ac_seq, ac_region, at_normal, ao_nil, ao_cons, as_call, as_alloc, as_store, as_move, as_assign, as_load, as_extract, segL, segA, u8A, u16A, u32A, i64, fr_false, List.contains_nil, beq_self_eq_true, Bool.and_self, hk_some, hopG, rd, aopsD, heapF, frzW, frzR, evT, lk, putT, loadF, cellsF, ovw, argsF, okCell, TK.isAgg, Value.oneCell', List.length_cons, List.length_nil, List.getElem?_cons_zero, List.getElem?_cons_succ, List.drop_zero, List.take_succ_cons, List.take_nil, List.set_cons_zero, List.set_cons_succ, List.nil_append, List.cons_append, List.all_cons, List.all_nil, Option.map_some, Nat.reduceAdd, Nat.reduceSub, Nat.reduceEqDiff, Nat.reduceLeDiff, true_and, and_self, eq_self, Bool.false_eq_true, ↓reduceIte, Nat.zero_add, Nat.le_refl, TT40]
  refine ACall.intro (refSame09_self (tcpP src dst m).1) ?_
  simp only [ao_cons, ao_guard_t, st_at, pk_at, if_t, as_pick, as_call, as_move, as_binOp, boA, beq_self_eq_true, decide_true, hk_some, hopG, rd, frzW, frzR, evT, lk, putT, GV, gdst, binF, argsF, Option.map_some, Nat.reduceSub, Nat.reduceEqDiff, true_and, eq_self, ↓reduceIte, TT3]
  refine ACall.intro lives09_a ?_
  simp only [ac_ret, at_normal, ae_ret, ao_nil, ao_cons, pk_at, if_t, as_pick, as_assign, boA, beq_self_eq_true, rd, evT, lk, putT, resF, resL, Option.map_some, Option.bind_some, Nat.reduceSub, Nat.reduceEqDiff, and_true, and_self, eq_self, ↓reduceIte]
set_option maxRecDepth 100000 in
theorem tcpPuts_a (src dst : Int) (s : SegN) (hs : s.ok) (h1 : 0 ≤ src ∧ src ≤ 4294967295) (h2 : 0 ≤ dst ∧ dst ≤ 4294967295) : ASpec Try.prog 13 [u32A src, u32A dst, segA s] (boA true) := by
  obtain ⟨t, ht⟩ : ∃ t : SegN, t = { s with opts := s.opts.take 50, data := s.data.take 200 } := ⟨_, rfl⟩
  have hto : t.ok := by subst ht; obtain ⟨k1, k2, k3, k4, k5, k6, k7, k8⟩ := hs; constructor <;> assumption
  have l1 : t.opts.length ≤ 50 := by subst ht; simp; omega
  have l2 : t.data.length ≤ 200 := by subst ht; simp; omega
  refine ASpec.of_body TT_ok Try.mixed _ [.tmp 6] ([], []) Try.func13 (by kernel_rfl) rfl rfl (by simp only [Try.ntmps13, List.length_cons, List.length_nil]; omega) rfl (by kernel_rfl) ?_
  simp only [argE_cons, argE_nil, ac_seq, ac_region, at_normal, ao_nil, ao_cons, as_call, as_box, as_assign, as_load, segL, segA, u8A, u16A, u32A, boA, fr_false, List.contains_nil, beq_self_eq_true, hk_some, hopG, rd, aopsD, heapF, frzW, frzR, constT, evT, lk, putT, loadF, cellsF, argsF, constA, cellA, TK.isAgg, List.length_cons, List.length_nil, List.getElem?_cons_zero, List.drop_zero, List.take_succ_cons, List.take_nil, List.nil_append, Option.map_some, Nat.reduceAdd, Nat.reduceSub, Nat.reduceEqDiff, Nat.reduceLeDiff, true_and, eq_self, reduceCtorEq, Bool.false_eq_true, ↓reduceIte, Nat.zero_add, Nat.le_refl, TT40]
  refine ACall.intro (refFew09_a s) ?_
  rw [← ht]
  clear ht
  simp only [ac_seq, ac_region, at_normal, ao_nil, ao_cons, as_call, as_store, as_move, as_load, segL, segA, u8A, u16A, u32A, fr_false, List.contains_nil, beq_self_eq_true, Bool.and_self, hk_some, hopG, rd, aopsD, heapF, frzW, frzR, evT, lk, putT, loadF, cellsF, ovw, argsF, okCell, TK.isAgg, Value.oneCell', List.length_cons, List.length_nil, List.getElem?_cons_zero, List.drop_zero, List.take_succ_cons, List.take_nil, List.set_cons_zero, List.set_cons_succ, List.all_cons, List.all_nil, Option.map_some, Nat.reduceAdd, Nat.reduceSub, Nat.reduceEqDiff, Nat.reduceLeDiff, Nat.succ_ne_zero, true_and, and_self, eq_self, reduceCtorEq, Bool.false_eq_true, ↓reduceIte, Nat.zero_add, Nat.le_refl, TT40]
  cases hm : segMay t
  · refine ACall.intro (tcpPut_no src dst t hm (by omega) (by omega)) ?_
    simp only [ac_seq, ac_region, at_normal, ao_nil, ao_cons, as_call, as_move, as_assign, as_load, as_extract, i64, fr_false, List.contains_nil, beq_self_eq_true, hk_some, hopG, rd, aopsD, frzW, frzR, evT, lk, putT, loadF, argsF, TK.isAgg, List.length_cons, List.length_nil, List.getElem?_cons_zero, List.getElem?_cons_succ, List.drop_zero, List.take_succ_cons, List.take_nil, Option.map_some, Nat.reduceAdd, Nat.reduceSub, Nat.reduceEqDiff, Nat.reduceLeDiff, Nat.succ_ne_zero, true_and, eq_self, reduceCtorEq, Bool.false_eq_true, ↓reduceIte, Nat.zero_add, Nat.le_refl, TT40]
    refine ACall.intro (refPut09_no src dst t hto hm (by omega) (by omega)) ?_
    simp only [ac_seq, ac_region, at_normal, ao_nil, ao_cons, as_call, as_move, as_assign, as_extract, i64, fr_false, List.contains_nil, beq_self_eq_true, hk_some, hopG, rd, aopsD, frzW, frzR, evT, lk, putT, argsF, List.getElem?_cons_zero, List.getElem?_cons_succ, Option.map_some, Nat.reduceSub, Nat.reduceEqDiff, Nat.reduceLeDiff, true_and, eq_self, Bool.false_eq_true, ↓reduceIte]
    refine ACall.intro (refSame_a [] []) ?_
    simp only [ao_cons, ao_guard_f, st_at, pk_at, if_f, as_pick, as_call, as_move, as_binOp, as_unOp, as_load, boA, beq_self_eq_true, decide_true, hk_some, hopG, rd, frzW, frzR, evT, lk, putT, GV, gdst, binF, unF, loadF, argsF, TK.isAgg, List.length_cons, List.length_nil, List.getElem?_cons_zero, List.drop_zero, List.take_succ_cons, List.take_nil, Option.map_some, Nat.reduceAdd, Nat.reduceSub, Nat.reduceEqDiff, true_and, eq_self, Bool.not_true, ↓reduceIte, Nat.zero_add, Nat.le_refl, TT3, TT40]
    refine ACall.intro (tcpCheck_a t (by omega) (by omega)) ?_
    simp only [hm, ac_skip, ac_seq, ac_cond, ac_region, at_normal, ao_nil, ao_cons, ao_guard_f, st_at, pk_at, if_t, if_f, as_pick, as_call, as_move, as_binOp, i64, fr_false, List.contains_nil, beq_self_eq_true, decide_true, decide_false, Int.reduceEq, hk_some, hopG, rd, aopsD, frzW, frzR, constT, evT, lk, putT, GV, gdst, binF, argsF, constA, cellA, Option.map_some, Nat.reduceSub, Nat.reduceEqDiff, Nat.reduceLeDiff, true_and, eq_self, Bool.false_eq_true, Bool.not_true, Bool.not_false, ↓reduceIte, TT61]
    refine ACall.intro lives09_a ?_
    simp only [ac_ret, at_normal, at_ret, ae_ret, ao_nil, ao_cons, as_assign, boA, beq_self_eq_true, rd, evT, lk, putT, resF, resL, Option.map_some, Option.bind_some, Nat.reduceSub, and_true, and_self, eq_self, ↓reduceIte]
  · refine ACall.intro (tcpPut_a src dst t hto hm h1 h2) ?_
    simp only [ac_seq, ac_region, at_normal, ao_nil, ao_cons, as_call, as_move, as_assign, as_load, as_extract, i64, fr_false, List.contains_nil, beq_self_eq_true, hk_some, hopG, rd, aopsD, frzW, frzR, evT, lk, putT, loadF, argsF, TK.isAgg, List.length_cons, List.length_nil, List.getElem?_cons_zero, List.getElem?_cons_succ, List.drop_zero, List.take_succ_cons, List.take_nil, Option.map_some, Nat.reduceAdd, Nat.reduceSub, Nat.reduceEqDiff, Nat.reduceLeDiff, Nat.succ_ne_zero, true_and, eq_self, reduceCtorEq, Bool.false_eq_true, ↓reduceIte, Nat.zero_add, Nat.le_refl, TT40]
    refine ACall.intro (refPut09_a src dst t hto hm h1 h2) ?_
    simp only [ac_seq, ac_region, at_normal, ao_nil, ao_cons, as_call, as_move, as_assign, as_extract, i64, fr_false, List.contains_nil, beq_self_eq_true, hk_some, hopG, rd, aopsD, frzW, frzR, evT, lk, putT, argsF, List.getElem?_cons_zero, List.getElem?_cons_succ, Option.map_some, Nat.reduceSub, Nat.reduceEqDiff, Nat.reduceLeDiff, true_and, eq_self, Bool.false_eq_true, ↓reduceIte]
    refine ACall.intro (refSame_a _ _) ?_
    simp only [ao_cons, ao_guard_f, st_at, pk_at, if_f, as_pick, as_call, as_move, as_binOp, as_unOp, as_load, boA, beq_self_eq_true, decide_true, hk_some, hopG, rd, frzW, frzR, evT, lk, putT, GV, gdst, binF, unF, loadF, argsF, TK.isAgg, List.length_cons, List.length_nil, List.getElem?_cons_zero, List.drop_zero, List.take_succ_cons, List.take_nil, Option.map_some, Nat.reduceAdd, Nat.reduceSub, Nat.reduceEqDiff, true_and, eq_self, Bool.not_true, ↓reduceIte, Nat.zero_add, Nat.le_refl, TT3, TT40]
    refine ACall.intro (tcpCheck_a t (by omega) (by omega)) ?_
    simp only [hm, ac_skip, ac_seq, ac_cond, ac_region, at_normal, ao_nil, ao_cons, ao_guard_f, st_at, pk_at, if_f, as_pick, as_call, as_move, as_binOp, i64, fr_false, List.contains_nil, beq_self_eq_true, decide_true, hk_some, hopG, rd, aopsD, frzW, frzR, constT, evT, lk, putT, GV, gdst, binF, argsF, constA, cellA, Option.map_some, Nat.reduceSub, Nat.reduceEqDiff, Nat.reduceLeDiff, Nat.succ_ne_zero, true_and, eq_self, reduceCtorEq, Bool.false_eq_true, Bool.not_true, ↓reduceIte, TT61]
    refine ACall.intro (tcpParse_B src dst t hto hm h1 h2) ?_
    simp only [ac_seq, ac_region, at_normal, ao_nil, ao_cons, ao_guard_t, st_at, if_t, as_call, as_alloc, as_store, as_move, as_assign, as_binOp, as_load, as_extract, segL, segA, u8A, u16A, u32A, i64, fr_false, List.contains_nil, beq_self_eq_true, decide_true, Bool.and_self, hk_some, hopG, rd, aopsD, heapF, frzW, frzR, constT, evT, lk, putT, GV, gdst, binF, loadF, cellsF, ovw, argsF, okCell, constA, cellA, TK.isAgg, Value.oneCell', List.length_cons, List.length_nil, List.getElem?_cons_zero, List.getElem?_cons_succ, List.drop_zero, List.take_succ_cons, List.take_nil, List.set_cons_zero, List.set_cons_succ, List.nil_append, List.cons_append, List.all_cons, List.all_nil, Option.map_some, Nat.reduceAdd, Nat.reduceSub, Nat.reduceEqDiff, Nat.reduceLeDiff, true_and, and_self, eq_self, Bool.false_eq_true, ↓reduceIte, Nat.zero_add, Nat.le_refl, TT40, TT61]
    refine ACall.intro (refSame09_self t) ?_
    simp only [ao_cons, ao_guard_t, st_at, pk_at, if_t, as_pick, as_call, as_move, boA, beq_self_eq_true, frzW, frzR, evT, lk, putT, GV, gdst, argsF, Nat.reduceSub, Nat.reduceEqDiff, eq_self, ↓reduceIte]
    refine ACall.intro lives09_a ?_
    simp only [ac_ret, at_normal, ae_ret, ao_nil, ao_cons, pk_at, if_t, as_pick, as_assign, boA, beq_self_eq_true, rd, evT, lk, putT, resF, resL, Option.map_some, Option.bind_some, Nat.reduceSub, Nat.reduceEqDiff, and_true, and_self, eq_self, ↓reduceIte]

def segZ (n : Nat) : SegN := ⟨0, 0, 0, 0, 0, 0, 0, 0, [], List.replicate n 0⟩
theorem segZ_ok (n : Nat) : (segZ n).ok := by constructor <;> simp [segZ]
def head80 : List UInt8 := [u8 0, u8 0, u8 0, u8 0, u8 0, u8 0, u8 0, u8 0, u8 0, u8 0, u8 0, u8 0, u8 80, u8 0, u8 0, u8 0, u8 0, u8 0, u8 0, u8 0]
set_option maxRecDepth 100000 in
theorem tcpBounds_a (n : Int) : ASpec Try.prog 15 [i64 n] (boA true) := by
  have hb := inF_bd n 65510 65520 (by omega)
  refine ASpec.of_body TT_ok Try.mixed _ [.tmp 2] ([], []) Try.func15 (by kernel_rfl) rfl rfl (by simp only [Try.ntmps15, List.length_cons, List.length_nil]; omega) rfl (by kernel_rfl) ?_
  simp only [argE_cons, argE_nil, ac_seq, ac_region, at_normal, ao_nil, ao_cons, as_call, as_move, as_assign, i64, boA, fr_false, List.contains_nil, beq_self_eq_true, rd, aopsD, frzW, frzR, constT, evT, lk, putT, argsF, constA, cellA, Option.map_some, Nat.reduceSub, Nat.reduceLeDiff, Nat.succ_ne_zero, eq_self, Bool.false_eq_true, ↓reduceIte, Nat.zero_add]
  refine ACall.intro (in_a n 65510 65520) ?_
  generalize inF n 65510 65520 = k at *
  obtain ⟨m, rfl⟩ := Int.eq_ofNat_of_zero_le (show 0 ≤ k by omega)
  simp only [Int.toNat_natCast, ac_seq, ac_region, at_normal, ao_nil, ao_cons, as_call, as_move, as_assign, as_build, as_makeSlice, i64, fr_false, List.contains_nil, beq_self_eq_true, hk_some, hopG, rd, aopsD, frzW, frzR, constT, evT, lk, putT, cellsF, ovw, fillF, buildF, zerosF, partsF, argsF, constA, cellA, List.length_cons, List.length_nil, List.getElem?_cons_zero, List.getElem?_cons_succ, List.set_cons_zero, List.set_cons_succ, Option.map_some, Nat.reduceAdd, Nat.reduceSub, Nat.reduceLeDiff, true_and, and_self, eq_self, Bool.false_eq_true, ↓reduceIte, Nat.zero_add, Nat.le_refl, TT5, TT38, TT40]
  refine ⟨by omega, ?_⟩
  by_cases hk : (65515 : Int) < m
  · have hm : segMay (segZ m) = false := by simp [segMay, segZ]; omega
    refine ACall.intro (tcpPut_no 1 2 (segZ m) hm (by simp [segZ]) (by simp [segZ]; omega)) ?_
    simp only [decide_eq_true hk, Int.toNat_natCast, ac_seq, ac_cond, ac_region, at_normal, ao_nil, ao_cons, if_t, as_call, as_move, as_assign, as_binOp, as_extract, as_buildSlice, as_makeSlice, i64, fr_false, List.contains_nil, beq_self_eq_true, hk_some, hopG, rd, aopsD, frzW, frzR, constT, evT, lk, putT, binF, cellsF, ovw, fillF, bytesOf, makeSF, zerosF, partsF, argsF, constA, cellA, Value.oneCell', List.length_cons, List.length_nil, List.getElem?_cons_zero, List.getElem?_cons_succ, List.set_cons_zero, List.set_cons_succ, List.nil_append, List.cons_append, List.replicate_succ, List.replicate_zero, List.flatten_cons, List.flatten_nil, List.append_nil, Option.map_some, Nat.reduceAdd, Nat.reduceSub, Nat.reduceEqDiff, Nat.reduceLeDiff, Nat.succ_ne_zero, true_and, and_self, eq_self, Bool.false_eq_true, ↓reduceIte, Int.reduceLE, Nat.mul_one, Nat.zero_add, Nat.le_refl, TT3, TT5, TT38]
    refine ⟨by omega, ?_⟩
    refine ACall.intro (add_a head80 (List.replicate m 0) (by simp [head80]; omega)) ?_
    simp only [ao_cons, as_call, beq_self_eq_true, rd, frzW, frzR, constT, evT, lk, putT, argsF, constA, cellA, Option.map_some, Nat.reduceSub, eq_self, ↓reduceIte]
    have hp : tcpP 1 2 (head80 ++ List.replicate m 0) = (seg0, 3) := by
      have h12 : byteN (head80 ++ List.replicate m 0) 12 = 80 := by
        have := byteN_at (head80.take 12) ([u8 0, u8 0, u8 0, u8 0, u8 0, u8 0, u8 0] ++ List.replicate m 0) 12 (u8 80) rfl
        exact this
      have hl : (head80 ++ List.replicate m 0).length = 20 + m := by simp [head80]; omega
      rw [tcpP, if_neg (by omega), if_pos (.inr (by omega))]
    have hq := tcpParse_a 1 2 (head80 ++ List.replicate m 0) (by omega) (by omega) (by simp [head80]; omega)
    rw [hp] at hq
    refine ACall.intro hq ?_
    simp only [ac_seq, ac_region, at_normal, ao_nil, ao_cons, ao_guard_t, st_at, pk_at, if_t, as_pick, as_call, as_alloc, as_store, as_move, as_assign, as_binOp, as_extract, as_len, segL, segA, u8A, u16A, u32A, i64, fr_false, List.contains_nil, beq_self_eq_true, Int.cast_ofNat_Int, decide_true, Bool.and_self, hk_some, hopG, hopF, rd, aopsD, heapF, frzW, frzR, constT, evT, lk, putT, GV, gdst, lenF, binF, cellsF, ovw, argsF, okCell, constA, cellA, Value.oneCell', List.length_cons, List.length_nil, List.getElem?_cons_zero, List.getElem?_cons_succ, List.set_cons_zero, List.set_cons_succ, List.nil_append, List.all_cons, List.all_nil, Option.map_some, Nat.reduceAdd, Nat.reduceSub, Nat.reduceEqDiff, Nat.reduceLeDiff, true_and, and_self, eq_self, Bool.false_eq_true, ↓reduceIte, Nat.zero_add, Nat.le_refl, TT3, TT38, TT40, TT61]
    refine ACall.intro lives09_a ?_
    simp only [ac_ret, at_normal, at_ret, ae_ret, ao_nil, ao_cons, pk_at, if_t, as_pick, as_assign, boA, beq_self_eq_true, rd, evT, lk, putT, resF, resL, Option.map_some, Option.bind_some, Nat.reduceSub, Nat.reduceEqDiff, and_true, and_self, eq_self, ↓reduceIte]
  · have hm : segMay (segZ m) = true := by simp [segMay, segZ]; omega
    refine ACall.intro (tcpPut_a 1 2 (segZ m) (segZ_ok m) hm (by omega) (by omega)) ?_
    simp only [decide_eq_false hk, ac_skip, ac_seq, ac_cond, ac_region, at_normal, ao_nil, ao_cons, if_f, as_call, as_move, as_assign, as_binOp, as_extract, i64, fr_false, List.contains_nil, beq_self_eq_true, hk_some, hopG, rd, aopsD, frzW, frzR, constT, evT, lk, putT, binF, argsF, constA, cellA, List.getElem?_cons_zero, List.getElem?_cons_succ, Option.map_some, Nat.reduceSub, Nat.reduceEqDiff, Nat.reduceLeDiff, Nat.succ_ne_zero, true_and, eq_self, Bool.false_eq_true, ↓reduceIte, TT3]
    refine ACall.intro (tcpParse_B 1 2 (segZ m) (segZ_ok m) hm (by omega) (by omega)) ?_
    simp only [segZ, List.length_replicate, ac_seq, ac_region, at_normal, ao_nil, ao_cons, ao_guard_t, st_at, pk_at, if_t, as_pick, as_call, as_alloc, as_store, as_move, as_assign, as_binOp, as_load, as_fieldAddr, as_extract, as_len, segL, segA, u8A, u16A, u32A, i64, fr_false, List.contains_nil, beq_self_eq_true, decide_true, Bool.and_self, hk_some, hopG, hopF, rd, aopsD, heapF, frzW, frzR, constT, evT, lk, putT, GV, gdst, lenF, binF, loadF, cellsF, ovw, argsF, okCell, constA, cellA, TK.isAgg, Value.oneCell', List.length_cons, List.length_nil, List.getElem?_cons_zero, List.getElem?_cons_succ, List.drop_zero, List.drop_succ_cons, List.set_cons_zero, List.set_cons_succ, List.nil_append, List.all_cons, List.all_nil, Option.map_some, Nat.reduceAdd, Nat.reduceSub, Nat.reduceEqDiff, Nat.reduceLeDiff, Nat.succ_ne_zero, ne_eq, not_false_eq_true, true_and, and_self, eq_self, Bool.false_eq_true, ↓reduceIte, Nat.zero_add, Nat.le_refl, TT3, TT38, TT40, TT61]
    refine ACall.intro lives09_a ?_
    simp only [ac_ret, at_normal, ae_ret, ao_nil, ao_cons, pk_at, if_t, as_pick, as_assign, boA, beq_self_eq_true, rd, evT, lk, putT, resF, resL, Option.map_some, Option.bind_some, Nat.reduceSub, Nat.reduceEqDiff, and_true, and_self, eq_self, ↓reduceIte]
end Go.Proofs.Ytafajmnlknmfiaa
