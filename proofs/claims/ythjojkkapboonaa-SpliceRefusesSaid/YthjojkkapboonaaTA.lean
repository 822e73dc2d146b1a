/- Package tcp, through its own text. -/
import Derived.Test.YthjojkkapboonaaCH
import Derived.Test.YthjojkkapboonaaCW
namespace Go.Proofs.Ythjojkkapboonaa
set_option linter.unusedSimpArgs false
set_option linter.unusedVariables false
open Go.RowKit

theorem psB_len (src dst proto n : Int) : (psB src dst proto n).length = 12 := by simp [psB, length_put32, length_put16]
theorem or_4 {a b : Int} (ha : 0 ≤ a ∧ a ≤ 15) (hb : 0 ≤ b ∧ b ≤ 15) : bits .or .u8 (a * 16) b = a * 16 + b :=
  bits_join .u8 8 (by decide) (fun n h1 h2 => by rw [IntKind.wrap_u8]; omega) 4 (a * 16) b (by omega) (by omega) (by omega) (by omega) (by omega) (by omega)

/-- Whether a segment may be. -/
def segMay (s : SegN) : Bool := decide (s.res ≤ 15) && (decide (s.opts.length ≤ 40) && (decide (s.opts.length % 4 = 0) && decide (s.data.length + s.opts.length ≤ 65515)))










































/-- A segment's bytes, with a sum. -/
def segB (s : SegN) (x : Int) : List UInt8 := put16 [s.src, s.dst] ++ (put32 [s.seq, s.ack] ++ ([u8 ((5 + s.opts.length / 4 : Nat) * 16 + s.res), u8 s.flags] ++ (put16 [s.win, x, s.urg] ++ (s.opts ++ s.data))))
theorem segB_len (s : SegN) (x : Int) : (segB s x).length = 20 + s.opts.length + s.data.length := by simp [segB, length_put16, length_put32]; omega
theorem segB_set (s : SegN) (x : Int) : set16 (segB s 0) 16 x = segB s x := by
  have hb : thereB (segB s 0).length 16 2 = true := thereB_iff.2 (by rw [segB_len]; omega)
  rw [set16, if_pos hb]
  simp [segB, put16, put32]
def tcpX (src dst : Int) (s : SegN) : Int := 65535 - onesF (psB src dst 6 (20 + s.opts.length + s.data.length : Nat) ++ segB s 0)
def tcpB (src dst : Int) (s : SegN) : List UInt8 := segB s (tcpX src dst s)

















































set_option maxRecDepth 100000 in
theorem tcpHas_a (s : SegN) (f : Int) : ASpec Try.prog 52 [segA s, u8A f] (boA (decide (bits .and .u8 s.flags f = f))) := by
  refine ASpec.of_body TT_ok Try.mixed _ [.tmp 4] ([], []) Try.func52 (by kernel_rfl) rfl rfl (by simp only [Try.ntmps52, List.length_cons, List.length_nil]; omega) rfl (by kernel_rfl) ?_
  simp only [argE_cons, argE_nil, ac_ret, ac_seq, ac_region, at_normal, ae_ret, ao_nil, ao_cons, as_box, as_move, as_assign, as_binOp, as_load, as_fieldAddr, segL, segA, u8A, u16A, u32A, boA, fr_false, List.contains_nil, beq_self_eq_true, hk_some, hopG, rd, aopsD, heapF, constT, evT, lk, putT, binF, loadF, cellsF, resF, resL, constA, cellA, TK.isAgg, List.length_nil, List.getElem?_cons_zero, List.getElem?_cons_succ, List.drop_zero, List.drop_succ_cons, List.nil_append, Option.map_some, Option.bind_some, Nat.reduceAdd, Nat.reduceSub, Nat.reduceEqDiff, Nat.reduceLeDiff, Nat.succ_ne_zero, ne_eq, not_false_eq_true, and_true, and_self, eq_self, reduceCtorEq, Bool.false_eq_true, ↓reduceIte, Nat.zero_add, TT5, TT40]
def hasN (s f : Int) : Bool := decide (bits .and .u8 s f = f)
def tcpSp (s : SegN) : Int := IntKind.u32.wrap ((s.data.length : Int) + (if hasN s.flags 2 then 1 else 0) + (if hasN s.flags 1 then 1 else 0))
set_option maxRecDepth 100000 in
theorem tcpSpace_a (s : SegN) (hd : s.data.length ≤ 1000000) : ASpec Try.prog 23 [segA s] (u32A (tcpSp s)) := by
  have e0 : IntKind.u32.wrap (s.data.length : Int) = s.data.length := u32_in (by omega) (by omega)
  have e1 : IntKind.u32.wrap ((s.data.length : Int) + 1) = s.data.length + 1 := u32_in (by omega) (by omega)
  have e2 : IntKind.u32.wrap ((s.data.length : Int) + 1 + 1) = s.data.length + 1 + 1 := u32_in (by omega) (by omega)
  refine ASpec.of_body TT_ok Try.mixed _ [.tmp 2] ([], []) Try.func23 (by kernel_rfl) rfl rfl (by simp only [Try.ntmps23, List.length_cons, List.length_nil]; omega) rfl (by kernel_rfl) ?_
  simp only [argE_cons, argE_nil, ac_seq, ac_region, at_normal, ao_nil, ao_cons, as_call, as_box, as_assign, as_convert, as_load, as_fieldAddr, as_len, segL, segA, u8A, u16A, u32A, fr_false, List.contains_nil, beq_self_eq_true, hk_some, hopG, hopF, rd, aopsD, heapF, frzW, frzR, constT, evT, lk, putT, lenF, convF, loadF, cellsF, argsF, constA, cellA, TK.isAgg, List.length_cons, List.length_nil, List.getElem?_cons_zero, List.getElem?_cons_succ, List.drop_zero, List.drop_succ_cons, List.take_succ_cons, List.take_nil, List.nil_append, Option.map_some, Nat.reduceAdd, Nat.reduceSub, Nat.reduceEqDiff, Nat.reduceLeDiff, Nat.succ_ne_zero, ne_eq, not_false_eq_true, true_and, eq_self, Bool.false_eq_true, ↓reduceIte, Nat.zero_add, Nat.le_refl, TT3, TT22, TT38, TT40]
  refine ACall.intro (tcpHas_a s 2) ?_
  cases c2 : decide (bits .and .u8 s.flags 2 = 2)
  · simp only [e0, ac_skip, ac_seq, ac_cond, ac_region, at_normal, ao_nil, ao_cons, if_f, as_call, as_load, boA, fr_false, List.contains_nil, beq_self_eq_true, hk_some, hopG, rd, aopsD, frzW, frzR, constT, evT, lk, putT, loadF, argsF, constA, cellA, TK.isAgg, List.length_cons, List.length_nil, List.getElem?_cons_zero, List.drop_zero, List.take_succ_cons, List.take_nil, Option.map_some, Nat.reduceAdd, Nat.reduceSub, Nat.reduceEqDiff, Nat.reduceLeDiff, true_and, eq_self, Bool.false_eq_true, ↓reduceIte, Nat.zero_add, Nat.le_refl, TT40]
    refine ACall.intro (tcpHas_a s 1) ?_
    cases c1 : decide (bits .and .u8 s.flags 1 = 1)
    · simp only [ac_skip, ac_ret, ac_seq, ac_cond, ac_region, at_normal, ae_ret, ao_nil, ao_cons, if_f, as_move, as_assign, boA, fr_false, List.contains_nil, beq_self_eq_true, rd, aopsD, evT, lk, putT, resF, resL, Option.map_some, Option.bind_some, Nat.reduceSub, Nat.reduceEqDiff, Nat.reduceLeDiff, true_and, and_true, eq_self, Bool.false_eq_true, ↓reduceIte]
      simp [tcpSp, hasN, c1, c2, e0]
    · simp only [ac_ret, ac_seq, ac_cond, ac_region, at_normal, ae_ret, ao_nil, ao_cons, if_t, as_move, as_assign, as_binOp, boA, fr_false, List.contains_nil, beq_self_eq_true, hk_some, hopG, rd, aopsD, constT, evT, lk, putT, binF, resF, resL, constA, cellA, Option.map_some, Option.bind_some, Nat.reduceSub, Nat.reduceEqDiff, Nat.reduceLeDiff, true_and, and_true, eq_self, Bool.false_eq_true, ↓reduceIte, TT22]
      simp [tcpSp, hasN, c1, c2, e1]
  · simp only [e0, e1, ac_seq, ac_cond, ac_region, at_normal, ao_nil, ao_cons, if_t, as_call, as_move, as_assign, as_binOp, as_load, boA, fr_false, List.contains_nil, beq_self_eq_true, hk_some, hopG, rd, aopsD, frzW, frzR, constT, evT, lk, putT, binF, loadF, argsF, constA, cellA, TK.isAgg, List.length_cons, List.length_nil, List.getElem?_cons_zero, List.drop_zero, List.take_succ_cons, List.take_nil, Option.map_some, Nat.reduceAdd, Nat.reduceSub, Nat.reduceEqDiff, Nat.reduceLeDiff, true_and, eq_self, Bool.false_eq_true, ↓reduceIte, Nat.zero_add, Nat.le_refl, TT22, TT40]
    refine ACall.intro (tcpHas_a s 1) ?_
    cases c1 : decide (bits .and .u8 s.flags 1 = 1)
    · simp only [ac_skip, ac_ret, ac_seq, ac_cond, ac_region, at_normal, ae_ret, ao_nil, ao_cons, if_f, as_move, as_assign, boA, fr_false, List.contains_nil, beq_self_eq_true, rd, aopsD, evT, lk, putT, resF, resL, Option.map_some, Option.bind_some, Nat.reduceSub, Nat.reduceEqDiff, Nat.reduceLeDiff, true_and, and_true, eq_self, Bool.false_eq_true, ↓reduceIte]
      simp [tcpSp, hasN, c1, c2, e1]
    · simp only [ac_ret, ac_seq, ac_cond, ac_region, at_normal, ae_ret, ao_nil, ao_cons, if_t, as_move, as_assign, as_binOp, boA, fr_false, List.contains_nil, beq_self_eq_true, hk_some, hopG, rd, aopsD, constT, evT, lk, putT, binF, resF, resL, constA, cellA, Option.map_some, Option.bind_some, Nat.reduceSub, Nat.reduceEqDiff, Nat.reduceLeDiff, true_and, and_true, eq_self, Bool.false_eq_true, ↓reduceIte, TT22]
      simp [tcpSp, hasN, c1, c2, e2]
set_option maxRecDepth 100000 in
theorem tcpNext_a (s : SegN) (hd : s.data.length ≤ 1000000) : ASpec Try.prog 22 [segA s] (u32A (IntKind.u32.wrap (s.seq + tcpSp s))) := by
  refine ASpec.of_body TT_ok Try.mixed _ [.tmp 2] ([], []) Try.func22 (by kernel_rfl) rfl rfl (by simp only [Try.ntmps22, List.length_cons, List.length_nil]; omega) rfl (by kernel_rfl) ?_
  simp only [argE_cons, argE_nil, ac_seq, ac_region, at_normal, ao_nil, ao_cons, as_call, as_box, as_assign, as_load, as_fieldAddr, segL, segA, u8A, u16A, u32A, fr_false, List.contains_nil, Nat.reduceBEq, beq_self_eq_true, hk_some, hopG, rd, aopsD, heapF, frzW, tlN, constT, evT, lk, putT, loadF, cellsF, argsF, constA, cellA, TK.isAgg, List.length_cons, List.length_nil, List.getElem?_cons_zero, List.getElem?_cons_succ, List.drop_zero, List.drop_succ_cons, List.take_succ_cons, List.take_nil, List.nil_append, Option.map_some, Nat.reduceAdd, Nat.reduceSub, Nat.reduceEqDiff, Nat.reduceLeDiff, Nat.succ_ne_zero, ne_eq, not_false_eq_true, true_and, eq_self, Bool.false_eq_true, ↓reduceIte, Nat.zero_add, Nat.le_refl, TT22, TT40]
  refine ACall.intro (tcpSpace_a s hd) ?_
  simp only [ac_ret, at_normal, ae_ret, ao_nil, ao_cons, as_assign, as_binOp, u32A, Nat.reduceBEq, hk_some, hopG, rd, evT, lk, putT, binF, resF, resL, Option.map_some, Option.bind_some, Nat.reduceSub, Nat.reduceEqDiff, and_true, and_self, eq_self, ↓reduceIte, TT22]





end Go.Proofs.Ythjojkkapboonaa
