/- Package tcp, through its own text. -/
import Derived.Test.YtafajmnlknmfiaaCH
import Derived.Test.YtafajmnlknmfiaaCW
namespace Go.Proofs.Ytafajmnlknmfiaa
set_option linter.unusedSimpArgs false
set_option linter.unusedVariables false
open Go.RowKit

theorem psB_len (src dst proto n : Int) : (psB src dst proto n).length = 12 := by simp [psB, length_put32, length_put16]
theorem or_4 {a b : Int} (ha : 0 ≤ a ∧ a ≤ 15) (hb : 0 ≤ b ∧ b ≤ 15) : bits .or .u8 (a * 16) b = a * 16 + b :=
  bits_join .u8 8 (by decide) (fun n h1 h2 => by rw [IntKind.wrap_u8]; omega) 4 (a * 16) b (by omega) (by omega) (by omega) (by omega) (by omega) (by omega)

/-- Whether a segment may be. -/
def segMay (s : SegN) : Bool := decide (s.res ≤ 15) && (decide (s.opts.length ≤ 40) && (decide (s.opts.length % 4 = 0) && decide (s.data.length + s.opts.length ≤ 65515)))
set_option maxRecDepth 100000 in
theorem tcpSize_a (s : SegN) (hl : s.opts.length ≤ 100000) : ASpec Try.prog 149 [segA s] (i64 (20 + (s.opts.length : Int))) := by
  refine ASpec.of_body TT_ok Try.mixed _ [.tmp 2] ([], []) Try.func149 (by kernel_rfl) rfl rfl (by simp only [Try.ntmps149, List.length_cons, List.length_nil]; omega) rfl (by kernel_rfl) ?_
  simp only [i64_in (n := 20 + (s.opts.length : Int)) (by omega) (by omega), argE_cons, argE_nil, ac_ret, ac_seq, ac_region, at_normal, ae_ret, ao_nil, ao_cons, as_box, as_assign, as_binOp, as_load, as_fieldAddr, as_len, segL, segA, u8A, u16A, u32A, i64, fr_false, List.contains_nil, beq_self_eq_true, hk_some, hopG, hopF, rd, aopsD, heapF, constT, evT, lk, putT, lenF, binF, loadF, cellsF, resF, resL, constA, cellA, TK.isAgg, List.length_nil, List.getElem?_cons_zero, List.getElem?_cons_succ, List.drop_zero, List.drop_succ_cons, List.nil_append, Option.map_some, Option.bind_some, Nat.reduceSub, Nat.reduceEqDiff, Nat.reduceLeDiff, Nat.succ_ne_zero, ne_eq, not_false_eq_true, and_true, and_self, eq_self, Bool.false_eq_true, ↓reduceIte, Nat.zero_add, TT3, TT38, TT40]
set_option maxRecDepth 100000 in
theorem tcpCheck_a (s : SegN) (ho : s.opts.length ≤ 100000) (hd : s.data.length ≤ 1000000) : ASpec Try.prog 77 [segA s] (i64 (if segMay s then 0 else 2)) := by
  have e1 : ((s.opts.length : Int)).tmod 4 = ((s.opts.length % 4 : Nat) : Int) := by rw [tmodN (by omega)]; omega
  have e2 : IntKind.i64.wrap (65535 - (20 + (s.opts.length : Int))) = 65535 - (20 + (s.opts.length : Int)) := i64_in (by omega) (by omega)
  refine ASpec.of_body TT_ok Try.mixed _ [.tmp 2] ([], []) Try.func77 (by kernel_rfl) rfl rfl (by simp only [Try.ntmps77, List.length_cons, List.length_nil]; omega) rfl (by kernel_rfl) ?_
  simp only [argE_cons, argE_nil, ac_seq, ac_region, at_normal, ao_nil, ao_cons, ao_guard_f, as_box, as_move, as_assign, as_binOp, as_load, as_fieldAddr, segL, segA, u8A, u16A, u32A, i64, fr_false, List.contains_nil, Nat.reduceBEq, beq_self_eq_true, hk_some, hopG, rd, aopsD, heapF, tlN, constT, evT, lk, putT, GV, gdst, binF, loadF, cellsF, constA, cellA, TK.isAgg, List.length_cons, List.length_nil, List.getElem?_cons_zero, List.getElem?_cons_succ, List.drop_zero, List.drop_succ_cons, List.nil_append, Option.map_some, Nat.reduceAdd, Nat.reduceSub, Nat.reduceEqDiff, Nat.reduceLeDiff, Nat.succ_ne_zero, ne_eq, not_false_eq_true, true_and, eq_self, Bool.false_eq_true, ↓reduceIte, Nat.zero_add, TT5, TT40]
  refine AIf.intro (fun c1 => ?_) (fun c1 => ?_)
  · simp only [c1, ac_ret, ac_seq, ac_cond, ac_region, at_normal, at_ret, ae_ret, ao_nil, ao_cons, ao_guard_f, sk_at, pk_at, if_t, as_pick, as_move, as_assign, fr_false, List.contains_nil, Nat.reduceBEq, beq_self_eq_true, rd, aopsD, constT, evT, lk, putT, GV, gdst, resF, resL, constA, cellA, Option.map_some, Option.bind_some, Nat.reduceSub, Nat.reduceEqDiff, Nat.reduceLeDiff, true_and, and_true, eq_self, Bool.false_eq_true, ↓reduceIte]
    rw [dT] at c1
    rw [show segMay s = false by simp [segMay]; omega]
    try rfl
  · simp only [c1, ao_cons, ao_guard_f, st_at, pk_at, if_f, as_pick, as_move, as_binOp, as_load, as_fieldAddr, as_len, Nat.reduceBEq, hk_some, hopG, hopF, rd, constT, evT, lk, putT, GV, gdst, lenF, binF, loadF, constA, cellA, TK.isAgg, List.getElem?_cons_zero, List.getElem?_cons_succ, List.drop_zero, List.drop_succ_cons, Option.map_some, Nat.reduceSub, Nat.reduceEqDiff, Nat.succ_ne_zero, ne_eq, not_false_eq_true, true_and, eq_self, Bool.false_eq_true, ↓reduceIte, Nat.zero_add, TT3, TT38, TT40]
    rw [dF] at c1
    refine AIf.intro (fun c2 => ?_) (fun c2 => ?_)
    · simp only [c2, ac_ret, ac_seq, ac_cond, ac_region, at_normal, at_ret, ae_ret, ao_nil, ao_cons, ao_guard_f, sk_at, pk_at, if_t, as_pick, as_move, as_assign, fr_false, List.contains_nil, Nat.reduceBEq, beq_self_eq_true, rd, aopsD, constT, evT, lk, putT, GV, gdst, resF, resL, constA, cellA, Option.map_some, Option.bind_some, Nat.reduceSub, Nat.reduceEqDiff, Nat.reduceLeDiff, true_and, and_true, eq_self, Bool.false_eq_true, ↓reduceIte]
      rw [dT] at c2
      rw [show segMay s = false by simp [segMay]; omega]
      try rfl
    · simp only [c2, e1, ao_cons, ao_guard_f, st_at, pk_at, if_f, as_pick, as_move, as_binOp, as_load, as_fieldAddr, as_len, Nat.reduceBEq, Int.reduceEq, hk_some, hopG, hopF, rd, constT, evT, lk, putT, GV, gdst, lenF, binF, loadF, constA, cellA, TK.isAgg, List.getElem?_cons_zero, List.getElem?_cons_succ, List.drop_zero, List.drop_succ_cons, Option.map_some, Nat.reduceSub, Nat.reduceEqDiff, Nat.succ_ne_zero, ne_eq, not_false_eq_true, true_and, and_self, eq_self, Bool.false_eq_true, ↓reduceIte, Nat.zero_add, TT3, TT38, TT40]
      rw [dF] at c2
      refine AIf.intro (fun c3 => ?_) (fun c3 => ?_)
      · simp only [c3, ac_ret, ac_seq, ac_cond, ac_region, at_normal, at_ret, ae_ret, ao_nil, ao_cons, ao_guard_f, sk_at, pk_at, if_t, as_pick, as_assign, fr_false, List.contains_nil, Nat.reduceBEq, beq_self_eq_true, rd, aopsD, constT, evT, lk, putT, GV, gdst, resF, resL, constA, cellA, Option.map_some, Option.bind_some, Nat.reduceSub, Nat.reduceEqDiff, Nat.reduceLeDiff, true_and, and_true, eq_self, Bool.false_eq_true, ↓reduceIte]
        simp only [Bool.not_eq_true', dF] at c3
        rw [show segMay s = false by simp [segMay]; omega]
        try rfl
      · simp only [c3, ao_guard_f, st_at, if_f, as_call, as_load, as_fieldAddr, as_len, Nat.reduceBEq, hk_some, hopG, hopF, rd, frzW, evT, lk, putT, GV, gdst, lenF, loadF, argsF, TK.isAgg, List.length_cons, List.length_nil, List.getElem?_cons_zero, List.getElem?_cons_succ, List.drop_zero, List.drop_succ_cons, List.take_succ_cons, List.take_nil, Option.map_some, Nat.reduceAdd, Nat.reduceSub, Nat.reduceEqDiff, Nat.succ_ne_zero, ne_eq, not_false_eq_true, true_and, eq_self, Bool.false_eq_true, ↓reduceIte, Nat.zero_add, Nat.le_refl, TT38, TT40]
        simp only [Bool.not_eq_false', dT] at c3
        refine ACall.intro (tcpSize_a s ho) ?_
        simp only [e2, ac_cond, at_normal, ao_nil, ao_cons, ao_guard_f, st_at, pk_at, if_f, as_pick, as_binOp, i64, Nat.reduceBEq, hk_some, hopG, rd, constT, evT, lk, putT, GV, gdst, binF, constA, cellA, Option.map_some, Nat.reduceSub, Nat.reduceEqDiff, true_and, eq_self, ↓reduceIte, TT3]
        refine AIf.intro (fun c4 => ?_) (fun c4 => ?_)
        · simp only [c4, ac_ret, ac_seq, ac_region, at_normal, at_ret, ae_ret, ao_nil, ao_cons, as_assign, fr_false, List.contains_nil, beq_self_eq_true, rd, aopsD, constT, evT, lk, putT, resF, resL, constA, cellA, Option.map_some, Option.bind_some, Nat.reduceSub, Nat.reduceLeDiff, true_and, and_true, eq_self, Bool.false_eq_true, ↓reduceIte]
          rw [dT] at c4
          rw [show segMay s = false by simp [segMay]; omega]
          try rfl
        · simp only [c4, ac_skip, ac_ret, ac_seq, ac_region, at_normal, ae_ret, ao_nil, ao_cons, as_assign, fr_false, List.contains_nil, beq_self_eq_true, rd, aopsD, constT, evT, lk, putT, resF, resL, constA, cellA, Option.map_some, Option.bind_some, Nat.reduceSub, Nat.reduceLeDiff, true_and, and_true, eq_self, Bool.false_eq_true, ↓reduceIte]
          rw [dF] at c4
          rw [show segMay s = true by simp [segMay]; omega]
          try rfl
/-- A segment's bytes, with a sum. -/
def segB (s : SegN) (x : Int) : List UInt8 := put16 [s.src, s.dst] ++ (put32 [s.seq, s.ack] ++ ([u8 ((5 + s.opts.length / 4 : Nat) * 16 + s.res), u8 s.flags] ++ (put16 [s.win, x, s.urg] ++ (s.opts ++ s.data))))
theorem segB_len (s : SegN) (x : Int) : (segB s x).length = 20 + s.opts.length + s.data.length := by simp [segB, length_put16, length_put32]; omega
theorem segB_set (s : SegN) (x : Int) : set16 (segB s 0) 16 x = segB s x := by
  have hb : thereB (segB s 0).length 16 2 = true := thereB_iff.2 (by rw [segB_len]; omega)
  rw [set16, if_pos hb]
  simp [segB, put16, put32]
def tcpX (src dst : Int) (s : SegN) : Int := 65535 - onesF (psB src dst 6 (20 + s.opts.length + s.data.length : Nat) ++ segB s 0)
def tcpB (src dst : Int) (s : SegN) : List UInt8 := segB s (tcpX src dst s)
set_option maxRecDepth 100000 in
theorem tcpPut_a (src dst : Int) (s : SegN) (hs : s.ok) (hm : segMay s = true) (h1 : 0 ≤ src ∧ src ≤ 4294967295) (h2 : 0 ≤ dst ∧ dst ≤ 4294967295) :
    ASpec Try.prog 75 [u32A src, u32A dst, segA s] (.tup [.bs (tcpB src dst s), i64 0]) := by
  obtain ⟨k1, k2, k3, k4, k5, k6, k7, k8⟩ := hs
  have hm' := hm
  simp only [segMay, Bool.and_eq_true, decide_eq_true_eq] at hm'
  obtain ⟨m1, m2, m3, m4⟩ := hm'
  have e1 : (20 + (s.opts.length : Int)).tdiv 4 = ((5 + s.opts.length / 4 : Nat) : Int) := by rw [tdivN (by omega)]; omega
  have e2 : IntKind.i64.wrap ((5 + s.opts.length / 4 : Nat) : Int) = ((5 + s.opts.length / 4 : Nat) : Int) := i64_in (by omega) (by omega)
  have e3 : IntKind.i64.wrap (((5 + s.opts.length / 4 : Nat) : Int) * 16) = ((5 + s.opts.length / 4 : Nat) : Int) * 16 := i64_in (by omega) (by omega)
  have e4 : IntKind.u8.wrap (((5 + s.opts.length / 4 : Nat) : Int) * 16) = ((5 + s.opts.length / 4 : Nat) : Int) * 16 := u8_in (by omega) (by omega)
  have e5 := or_4 (a := ((5 + s.opts.length / 4 : Nat) : Int)) (b := s.res) (by omega) (by omega)
  refine ASpec.of_body TT_ok Try.mixed _ [.tmp 6, .tmp 7] ([6], [(4, 11)]) Try.func75 (by kernel_rfl) rfl rfl (by simp only [Try.ntmps75, List.length_cons, List.length_nil]; omega) rfl (by kernel_rfl) ?_
  simp only [argE_cons, argE_nil, ac_seq, ac_region, at_normal, ao_nil, ao_cons, as_call, as_box, as_assign, as_load, segL, segA, u8A, u16A, u32A, i64, fr_false, List.contains_nil, List.contains_cons, Bool.or_false, Nat.reduceBEq, beq_self_eq_true, hk_some, hopG, rd, aopsD, heapF, frzW, frzR, constT, evT, lk, putT, loadF, cellsF, argsF, constA, cellA, TK.isAgg, List.length_cons, List.length_nil, List.getElem?_cons_zero, List.drop_zero, List.take_succ_cons, List.take_nil, List.nil_append, Option.map_some, Nat.reduceAdd, Nat.reduceSub, Nat.reduceEqDiff, Nat.reduceLeDiff, true_and, eq_self, reduceCtorEq, Bool.false_eq_true, ↓reduceIte, Nat.zero_add, Nat.le_refl, TT40]
  refine ACall.intro (tcpCheck_a s (by omega) (by omega)) ?_
  simp only [hm, ac_skip, ac_seq, ac_cond, ac_region, at_normal, ao_nil, ao_cons, if_f, as_call, as_move, as_assign, as_binOp, as_load, as_fieldAddr, as_buildSlice, i64, fr_false, List.contains_nil, List.contains_cons, Bool.or_false, Nat.reduceBEq, beq_self_eq_true, decide_true, hk_some, hopG, rd, aopsD, frzW, tlN, constT, evT, lk, putT, binF, loadF, cellsF, ovw, fillF, makeSF, partsF, argsF, constA, cellA, TK.isAgg, Value.oneCell', List.length_cons, List.length_nil, List.getElem?_cons_zero, List.getElem?_cons_succ, List.drop_zero, List.drop_succ_cons, List.set_cons_zero, List.set_cons_succ, List.nil_append, List.cons_append, List.replicate_succ, List.replicate_zero, List.flatten_cons, List.flatten_nil, List.append_nil, Option.map_some, Nat.reduceAdd, Nat.reduceSub, Nat.reduceEqDiff, Nat.reduceLeDiff, Nat.succ_ne_zero, ne_eq, not_false_eq_true, true_and, and_self, eq_self, Bool.false_eq_true, Bool.not_true, ↓reduceIte, Nat.mul_one, Nat.zero_add, Nat.add_zero, Nat.zero_lt_succ, Nat.le_refl, TT23, TT40, TT61, TT241]
  refine ACall.intro (put16_a [] [s.src, s.dst] (by simp) (by simp; omega)) ?_
  simp only [ao_cons, as_call, as_load, as_fieldAddr, as_buildSlice, Nat.reduceBEq, beq_self_eq_true, hk_some, hopG, rd, frzW, frzR, evT, lk, putT, loadF, cellsF, ovw, fillF, makeSF, partsF, argsF, TK.isAgg, Value.oneCell', List.length_cons, List.length_nil, List.getElem?_cons_zero, List.getElem?_cons_succ, List.drop_zero, List.drop_succ_cons, List.set_cons_zero, List.set_cons_succ, List.nil_append, List.cons_append, List.replicate_succ, List.replicate_zero, List.flatten_cons, List.flatten_nil, List.append_nil, Option.map_some, Nat.reduceAdd, Nat.reduceSub, Nat.reduceEqDiff, Nat.reduceLeDiff, Nat.succ_ne_zero, ne_eq, not_false_eq_true, true_and, and_self, eq_self, Bool.false_eq_true, ↓reduceIte, Nat.mul_one, Nat.zero_add, Nat.zero_lt_succ, Nat.le_refl, TT22, TT40, TT244]
  refine ACall.introW (put32_w _ [s.seq, s.ack] (by simp [length_put16]) (by simp; omega)) (by simp [neA, length_put16, length_put32]) ?_
  simp only [ac_seq, ac_region, at_normal, ao_nil, ao_cons, as_call, as_move, as_assign, as_load, fr_false, List.contains_nil, List.contains_cons, Bool.or_false, Nat.reduceBEq, beq_self_eq_true, hk_some, hopG, rd, aopsD, frzW, tlN, evT, lk, putT, loadF, argsF, TK.isAgg, List.length_cons, List.length_nil, List.getElem?_cons_zero, List.drop_zero, List.take_succ_cons, List.take_nil, List.nil_append, List.cons_append, Option.map_some, Nat.reduceAdd, Nat.reduceSub, Nat.reduceEqDiff, Nat.reduceLeDiff, true_and, eq_self, ↓reduceIte, Nat.zero_add, Nat.le_refl, TT40]
  refine ACall.intro (tcpSize_a s (by omega)) ?_
  simp only [e1, e2, e3, e4, e5, ac_seq, ac_region, at_normal, ao_nil, ao_cons, as_call, as_move, as_assign, as_binOp, as_convert, as_load, as_fieldAddr, as_buildSlice, i64, fr_nil, fr_cons, List.contains_nil, List.contains_cons, Bool.or_false, Nat.reduceBEq, beq_self_eq_true, Int.cast_ofNat_Int, Int.reduceEq, Int.reducePow, hk_some, hopG, rd, aopsD, as_append, appF, catA, dropT, dropV, frzW, tlN, constT, evT, lk, putT, binF, convF, loadF, cellsF, ovw, fillF, bytesOf, makeSF, partsF, argsF, constA, cellA, TK.isAgg, IntKind.bits, Value.oneCell', List.length_cons, List.length_nil, List.getElem?_cons_zero, List.getElem?_cons_succ, List.drop_zero, List.drop_succ_cons, List.set_cons_zero, List.set_cons_succ, List.nil_append, List.cons_append, List.replicate_succ, List.replicate_zero, List.flatten_cons, List.flatten_nil, List.append_nil, Option.map_some, Nat.reduceAdd, Nat.reduceSub, Nat.reduceEqDiff, Nat.reduceLeDiff, Nat.succ_ne_zero, ne_eq, not_false_eq_true, true_and, and_true, and_self, eq_self, reduceCtorEq, Bool.false_eq_true, ↓reduceIte, Int.reduceToNat, Int.reduceLE, Nat.mul_one, Nat.zero_add, Nat.zero_lt_succ, Nat.le_refl, TT3, TT5, TT23, TT38, TT40, TT241]
  refine ⟨?_, ?_, ?_⟩
  · omega
  · simp [length_put16, length_put32]
  refine ACall.intro (put16_a _ [s.win, 0, s.urg] (by simp [length_put16, length_put32]) (by simp; omega)) ?_
  simp only [ao_cons, as_call, as_load, as_fieldAddr, as_buildSlice, Nat.reduceBEq, hk_some, hopG, rd, frzW, evT, lk, putT, loadF, cellsF, ovw, fillF, makeSF, partsF, argsF, TK.isAgg, List.length_cons, List.length_nil, List.getElem?_cons_zero, List.getElem?_cons_succ, List.drop_zero, List.drop_succ_cons, List.set_cons_zero, List.set_cons_succ, List.nil_append, List.cons_append, List.replicate_succ, List.replicate_zero, List.flatten_cons, List.flatten_nil, List.append_nil, Option.map_some, Nat.reduceAdd, Nat.reduceSub, Nat.reduceEqDiff, Nat.reduceLeDiff, Nat.succ_ne_zero, ne_eq, not_false_eq_true, true_and, and_self, eq_self, Bool.false_eq_true, ↓reduceIte, Nat.mul_one, Nat.zero_add, Nat.zero_lt_succ, Nat.le_refl, TT38, TT40, TT237]
  refine ACall.intro (join_a [put16 [s.src, s.dst] ++ put32 [s.seq, s.ack] ++ [u8 (((5 + s.opts.length / 4 : Nat) : Int) * 16 + s.res), u8 s.flags] ++ put16 [s.win, 0, s.urg], s.opts, s.data] (by simp [small, length_put16, length_put32]; omega)) ?_
  have eB : [put16 [s.src, s.dst] ++ put32 [s.seq, s.ack] ++ [u8 (((5 + s.opts.length / 4 : Nat) : Int) * 16 + s.res), u8 s.flags] ++ put16 [s.win, 0, s.urg], s.opts, s.data].flatten = segB s 0 := by simp [segB]
  rw [eB]
  have eL : ((segB s 0).length : Int) = (20 + s.opts.length + s.data.length : Nat) := by rw [segB_len]
  simp only [eL, ac_seq, ac_region, at_normal, ao_nil, ao_cons, as_call, as_move, as_assign, as_len, fr_false, List.contains_nil, List.contains_cons, Bool.or_false, Nat.reduceBEq, beq_self_eq_true, hk_some, hopG, hopF, rd, aopsD, frzW, frzR, constT, evT, lk, putT, lenF, argsF, constA, cellA, Option.map_some, Nat.reduceSub, Nat.reduceEqDiff, Nat.reduceLeDiff, Nat.succ_ne_zero, true_and, eq_self, reduceCtorEq, Bool.false_eq_true, ↓reduceIte, TT38]
  refine ACall.intro (head_a src dst 6 _ h1 h2 (by omega)) ?_
  simp only [ao_cons, as_call, as_move, as_buildSlice, beq_self_eq_true, hk_some, hopG, rd, frzW, frzR, evT, lk, putT, cellsF, ovw, fillF, makeSF, partsF, argsF, List.length_cons, List.length_nil, List.set_cons_zero, List.set_cons_succ, List.nil_append, List.cons_append, List.replicate_succ, List.replicate_zero, List.flatten_cons, List.flatten_nil, List.append_nil, Option.map_some, Nat.reduceAdd, Nat.reduceSub, Nat.reduceEqDiff, Nat.reduceLeDiff, true_and, and_self, eq_self, ↓reduceIte, Nat.mul_one, Nat.zero_add, Nat.zero_lt_succ, Nat.le_refl, TT38, TT237]
  refine ACall.intro (sumOf_a [psB src dst 6 (20 + s.opts.length + s.data.length : Nat), segB s 0] (by simp [small, psB_len, segB_len]; omega)) ?_
  simp only [ao_cons, as_call, u16A, beq_self_eq_true, rd, frzW, frzR, constT, evT, lk, putT, argsF, constA, cellA, List.flatten_cons, List.flatten_nil, List.append_nil, Option.map_some, Nat.reduceSub, Nat.reduceEqDiff, eq_self, ↓reduceIte]
  have hb := onesF_bd (psB src dst 6 (20 + s.opts.length + s.data.length : Nat) ++ segB s 0)
  refine ACall.intro (set16_a (segB s 0) 16 _ (by omega) (by simp only [small, segB_len]; omega) (by omega)) ?_
  simp only [ac_ret, ac_seq, ac_region, at_normal, ae_ret, ao_nil, ao_cons, as_move, as_assign, as_extract, boA, fr_false, List.contains_nil, List.contains_cons, Bool.or_false, Nat.reduceBEq, beq_self_eq_true, hk_some, hopG, rd, aopsD, constT, evT, lk, putT, resF, resL, constA, cellA, List.getElem?_cons_zero, List.getElem?_cons_succ, Option.map_some, Option.bind_some, Nat.reduceSub, Nat.reduceEqDiff, Nat.reduceLeDiff, true_and, and_true, eq_self, Bool.false_eq_true, ↓reduceIte]
  rw [segB_set]
  rfl
set_option maxRecDepth 100000 in
theorem tcpPut_no (src dst : Int) (s : SegN) (hm : segMay s = false) (ho : s.opts.length ≤ 100000) (hd : s.data.length ≤ 1000000) :
    ASpec Try.prog 75 [u32A src, u32A dst, segA s] (.tup [.bs [], i64 2]) := by
  refine ASpec.of_body TT_ok Try.mixed _ [.tmp 6, .tmp 7] ([6], [(4, 11)]) Try.func75 (by kernel_rfl) rfl rfl (by simp only [Try.ntmps75, List.length_cons, List.length_nil]; omega) rfl (by kernel_rfl) ?_
  simp only [argE_cons, argE_nil, ac_seq, ac_region, at_normal, ao_nil, ao_cons, as_call, as_box, as_assign, as_load, segL, segA, u8A, u16A, u32A, i64, fr_false, List.contains_nil, List.contains_cons, Bool.or_false, Nat.reduceBEq, beq_self_eq_true, hk_some, hopG, rd, aopsD, heapF, frzW, frzR, constT, evT, lk, putT, loadF, cellsF, argsF, constA, cellA, TK.isAgg, List.length_cons, List.length_nil, List.getElem?_cons_zero, List.drop_zero, List.take_succ_cons, List.take_nil, List.nil_append, Option.map_some, Nat.reduceAdd, Nat.reduceSub, Nat.reduceEqDiff, Nat.reduceLeDiff, true_and, eq_self, reduceCtorEq, Bool.false_eq_true, ↓reduceIte, Nat.zero_add, Nat.le_refl, TT40]
  refine ACall.intro (tcpCheck_a s ho hd) ?_
  simp only [hm, ac_ret, ac_seq, ac_cond, ac_region, at_normal, at_ret, ae_ret, ao_nil, ao_cons, if_t, as_move, as_assign, as_binOp, i64, fr_false, List.contains_nil, List.contains_cons, Bool.or_false, Nat.reduceBEq, beq_self_eq_true, decide_false, Int.reduceEq, hk_some, hopG, rd, aopsD, constT, evT, lk, putT, binF, resF, resL, constA, cellA, Option.map_some, Option.bind_some, Nat.reduceSub, Nat.reduceEqDiff, Nat.reduceLeDiff, and_true, and_self, eq_self, Bool.false_eq_true, Bool.not_false, ↓reduceIte, TT61]
  try rfl
set_option maxRecDepth 100000 in
theorem tcpHas_a (s : SegN) (f : Int) : ASpec Try.prog 80 [segA s, u8A f] (boA (decide (bits .and .u8 s.flags f = f))) := by
  refine ASpec.of_body TT_ok Try.mixed _ [.tmp 4] ([], []) Try.func80 (by kernel_rfl) rfl rfl (by simp only [Try.ntmps80, List.length_cons, List.length_nil]; omega) rfl (by kernel_rfl) ?_
  simp only [argE_cons, argE_nil, ac_ret, ac_seq, ac_region, at_normal, ae_ret, ao_nil, ao_cons, as_box, as_move, as_assign, as_binOp, as_load, as_fieldAddr, segL, segA, u8A, u16A, u32A, boA, fr_false, List.contains_nil, beq_self_eq_true, hk_some, hopG, rd, aopsD, heapF, constT, evT, lk, putT, binF, loadF, cellsF, resF, resL, constA, cellA, TK.isAgg, List.length_nil, List.getElem?_cons_zero, List.getElem?_cons_succ, List.drop_zero, List.drop_succ_cons, List.nil_append, Option.map_some, Option.bind_some, Nat.reduceAdd, Nat.reduceSub, Nat.reduceEqDiff, Nat.reduceLeDiff, Nat.succ_ne_zero, ne_eq, not_false_eq_true, and_true, and_self, eq_self, reduceCtorEq, Bool.false_eq_true, ↓reduceIte, Nat.zero_add, TT5, TT40]
def hasN (s f : Int) : Bool := decide (bits .and .u8 s f = f)
def tcpSp (s : SegN) : Int := IntKind.u32.wrap ((s.data.length : Int) + (if hasN s.flags 2 then 1 else 0) + (if hasN s.flags 1 then 1 else 0))
set_option maxRecDepth 100000 in
theorem tcpSpace_a (s : SegN) (hd : s.data.length ≤ 1000000) : ASpec Try.prog 41 [segA s] (u32A (tcpSp s)) := by
  have e0 : IntKind.u32.wrap (s.data.length : Int) = s.data.length := u32_in (by omega) (by omega)
  have e1 : IntKind.u32.wrap ((s.data.length : Int) + 1) = s.data.length + 1 := u32_in (by omega) (by omega)
  have e2 : IntKind.u32.wrap ((s.data.length : Int) + 1 + 1) = s.data.length + 1 + 1 := u32_in (by omega) (by omega)
  refine ASpec.of_body TT_ok Try.mixed _ [.tmp 2] ([], []) Try.func41 (by kernel_rfl) rfl rfl (by simp only [Try.ntmps41, List.length_cons, List.length_nil]; omega) rfl (by kernel_rfl) ?_
  simp only [argE_cons, argE_nil, ac_seq, ac_region, at_normal, ao_nil, ao_cons, as_call, as_box, as_assign, as_convert, as_load, as_fieldAddr, as_len, segL, segA, u8A, u16A, u32A, fr_false, List.contains_nil, beq_self_eq_true, hk_some, hopG, hopF, rd, aopsD, heapF, frzW, frzR, constT, evT, lk, putT, lenF, convF, loadF, cellsF, argsF, constA, cellA, TK.isAgg, List.length_cons, List.length_nil, List.getElem?_cons_zero, List.getElem?_cons_succ, List.drop_zero, List.drop_succ_cons, List.take_succ_cons, List.take_nil, List.nil_append, Option.map_some, Nat.reduceAdd, Nat.reduceSub, Nat.reduceEqDiff, Nat.reduceLeDiff, Nat.succ_ne_zero, ne_eq, not_false_eq_true, true_and, eq_self, Bool.false_eq_true, ↓reduceIte, Nat.zero_add, Nat.le_refl, TT3, TT22, TT38, TT40]
  refine ACall.intro (tcpHas_a s 2) ?_
  cases c2 : decide (bits .and .u8 s.flags 2 = 2)
  · simp only [e0, ac_skip, ac_seq, ac_cond, ac_region, at_normal, ao_nil, ao_cons, if_f, as_call, as_load, boA, fr_false, List.contains_nil, beq_self_eq_true, hk_some, hopG, rd, aopsD, frzW, frzR, constT, evT, lk, putT, loadF, argsF, constA, cellA, TK.isAgg, List.length_cons, List.length_nil, List.getElem?_cons_zero, List.drop_zero, List.take_succ_cons, List.take_nil, Option.map_some, Nat.reduceAdd, Nat.reduceSub, Nat.reduceEqDiff, Nat.reduceLeDiff, true_and, eq_self, Bool.false_eq_true, ↓reduceIte, Nat.zero_add, Nat.le_refl, TT40]
    refine ACall.intro (tcpHas_a s 1) ?_
    cases c1 : decide (bits .and .u8 s.flags 1 = 1)
    · simp only [ac_skip, ac_ret, ac_seq, ac_cond, ac_region, at_normal, ae_ret, ao_nil, ao_cons, if_f, as_move, as_assign, boA, fr_false, List.contains_nil, beq_self_eq_true, rd, aopsD, evT, lk, putT, resF, resL, Option.map_some, Option.bind_some, Nat.reduceSub, Nat.reduceEqDiff, Nat.reduceLeDiff, true_and, and_true, eq_self, Bool.false_eq_true, ↓reduceIte]
      simp [tcpSp, hasN, c1, c2, e0]
    · simp only [ac_ret, ac_seq, ac_cond, ac_region, at_normal, ae_ret, ao_nil, ao_cons, if_t, as_move, as_assign, as_binOp, boA, fr_false, List.contains_nil, beq_self_eq_true, hk_some, hopG, rd, aopsD, constT, evT, lk, putT, binF, resF, resL, constA, cellA, Option.map_some, Option.bind_some, Nat.reduceSub, Nat.reduceEqDiff, Nat.reduceLeDiff, true_and, and_true, eq_self, Bool.false_eq_true, ↓reduceIte, TT22]
      simp [tcpSp, hasN, c1, c2, e1]
  · simp only [e0, e1, ac_seq, ac_cond, ac_region, at_normal, ao_nil, ao_cons, if_t, as_call, as_move, as_assign, as_binOp, as_load, boA, fr_false, List.contains_nil, beq_self_eq_true, hk_some, hopG, rd, aopsD, frzW, frzR, constT, evT, lk, putT, binF, loadF, argsF, constA, cellA, TK.isAgg, List.length_cons, List.length_nil, List.getElem?_cons_zero, List.drop_zero, List.take_succ_cons, List.take_nil, Option.map_some, Nat.reduceAdd, Nat.reduceSub, Nat.reduceEqDiff, Nat.reduceLeDiff, true_and, eq_self, Bool.false_eq_true, ↓reduceIte, Nat.zero_add, Nat.le_refl, TT22, TT40]
    refine ACall.intro (tcpHas_a s 1) ?_
    cases c1 : decide (bits .and .u8 s.flags 1 = 1)
    · simp only [ac_skip, ac_ret, ac_seq, ac_cond, ac_region, at_normal, ae_ret, ao_nil, ao_cons, if_f, as_move, as_assign, boA, fr_false, List.contains_nil, beq_self_eq_true, rd, aopsD, evT, lk, putT, resF, resL, Option.map_some, Option.bind_some, Nat.reduceSub, Nat.reduceEqDiff, Nat.reduceLeDiff, true_and, and_true, eq_self, Bool.false_eq_true, ↓reduceIte]
      simp [tcpSp, hasN, c1, c2, e1]
    · simp only [ac_ret, ac_seq, ac_cond, ac_region, at_normal, ae_ret, ao_nil, ao_cons, if_t, as_move, as_assign, as_binOp, boA, fr_false, List.contains_nil, beq_self_eq_true, hk_some, hopG, rd, aopsD, constT, evT, lk, putT, binF, resF, resL, constA, cellA, Option.map_some, Option.bind_some, Nat.reduceSub, Nat.reduceEqDiff, Nat.reduceLeDiff, true_and, and_true, eq_self, Bool.false_eq_true, ↓reduceIte, TT22]
      simp [tcpSp, hasN, c1, c2, e2]
set_option maxRecDepth 100000 in
theorem tcpNext_a (s : SegN) (hd : s.data.length ≤ 1000000) : ASpec Try.prog 40 [segA s] (u32A (IntKind.u32.wrap (s.seq + tcpSp s))) := by
  refine ASpec.of_body TT_ok Try.mixed _ [.tmp 2] ([], []) Try.func40 (by kernel_rfl) rfl rfl (by simp only [Try.ntmps40, List.length_cons, List.length_nil]; omega) rfl (by kernel_rfl) ?_
  simp only [argE_cons, argE_nil, ac_seq, ac_region, at_normal, ao_nil, ao_cons, as_call, as_box, as_assign, as_load, as_fieldAddr, segL, segA, u8A, u16A, u32A, fr_false, List.contains_nil, Nat.reduceBEq, beq_self_eq_true, hk_some, hopG, rd, aopsD, heapF, frzW, tlN, constT, evT, lk, putT, loadF, cellsF, argsF, constA, cellA, TK.isAgg, List.length_cons, List.length_nil, List.getElem?_cons_zero, List.getElem?_cons_succ, List.drop_zero, List.drop_succ_cons, List.take_succ_cons, List.take_nil, List.nil_append, Option.map_some, Nat.reduceAdd, Nat.reduceSub, Nat.reduceEqDiff, Nat.reduceLeDiff, Nat.succ_ne_zero, ne_eq, not_false_eq_true, true_and, eq_self, Bool.false_eq_true, ↓reduceIte, Nat.zero_add, Nat.le_refl, TT22, TT40]
  refine ACall.intro (tcpSpace_a s hd) ?_
  simp only [ac_ret, at_normal, ae_ret, ao_nil, ao_cons, as_assign, as_binOp, u32A, Nat.reduceBEq, hk_some, hopG, rd, evT, lk, putT, binF, resF, resL, Option.map_some, Option.bind_some, Nat.reduceSub, Nat.reduceEqDiff, and_true, and_self, eq_self, ↓reduceIte, TT22]
set_option maxRecDepth 100000 in
theorem tcpPlain_a (sp dp seq ack fl : Int) : ASpec Try.prog 79 [u16A sp, u16A dp, u32A seq, u32A ack, u8A fl] (segA ⟨sp, dp, seq, ack, 0, fl, 65535, 0, [], []⟩) := by
  refine ASpec.of_body TT_ok Try.mixed _ [.cell 10 40] ([], []) Try.func79 (by kernel_rfl) rfl rfl (by simp only [Try.ntmps79, List.length_cons, List.length_nil]; omega) rfl (by kernel_rfl) ?_
  simp only [argE_cons, argE_nil, ac_ret, ac_seq, ac_region, at_normal, ae_ret, ao_nil, ao_cons, as_alloc, as_store, as_move, as_build, segL, segA, u8A, u16A, u32A, fr_false, fr_nil, fr_cons, List.contains_nil, beq_self_eq_true, Bool.and_self, hk_some, hopG, rd, aopsD, heapF, constT, evT, lk, putT, loadF, cellsF, ovw, fillF, buildF, partsF, okCell, resF, resL, constA, cellA, TK.isAgg, Value.oneCell', List.length_cons, List.length_nil, List.getElem?_cons_zero, List.getElem?_cons_succ, List.drop_zero, List.take_succ_cons, List.take_nil, List.set_cons_zero, List.set_cons_succ, List.nil_append, List.all_cons, List.all_nil, Option.map_some, Option.bind_some, Nat.reduceAdd, Nat.reduceSub, Nat.reduceEqDiff, Nat.reduceLeDiff, Nat.succ_ne_zero, and_true, and_self, eq_self, reduceCtorEq, Bool.false_eq_true, ↓reduceIte, Nat.zero_add, Nat.le_refl, TT40]
  try rfl
end Go.Proofs.Ytafajmnlknmfiaa
