/- pcap: one record, the records of a file. -/
import Derived.Test.YthjojkkapboonaaPB
namespace Go.Proofs.Ythjojkkapboonaa
set_option linter.unusedSimpArgs false
set_option linter.unusedVariables false
open Go.RowKit

def bN (b : List UInt8) (i : Nat) : Int := ((b.getD i 0).toNat : Int)
theorem bN_bd (b : List UInt8) (i : Nat) : 0 ≤ bN b i ∧ bN b i ≤ 255 := by
  have := (b.getD i 0).toNat_lt
  unfold bN
  omega
theorem getD_bN (b : List UInt8) (k : Nat) : ((b.getD k 0).toNat : Int) = bN b k := rfl
/-- A number, the lowest byte first. -/
def le4N (b : List UInt8) (k : Nat) : Int := bN b k + bN b (k + 1) * 256 + bN b (k + 2) * 65536 + bN b (k + 3) * 16777216
theorem le4N_bd (b : List UInt8) (k : Nat) : 0 ≤ le4N b k ∧ le4N b k ≤ 4294967295 := by
  have h0 := bN_bd b k
  have h1 := bN_bd b (k + 1)
  have h2 := bN_bd b (k + 2)
  have h3 := bN_bd b (k + 3)
  unfold le4N
  omega
theorem bits_or_comm (k : IntKind) (a b : Int) : bits .or k a b = bits .or k b a := by simp only [bits, BitVec.or_comm]
theorem or_h8 {a b : Int} (ha : 0 ≤ a ∧ a ≤ 255) (hb : 0 ≤ b ∧ b ≤ 255) : bits .or .u32 a (b * 256) = a + b * 256 := by
  rw [bits_or_comm, bits_join .u32 32 (by decide) (fun n h1 h2 => by rw [IntKind.wrap_u32]; omega) 8 (b * 256) a (by omega) (by omega) (by omega) (by omega) (by omega) (by omega)]
  omega
theorem or_h16 {a b : Int} (ha : 0 ≤ a ∧ a ≤ 65535) (hb : 0 ≤ b ∧ b ≤ 255) : bits .or .u32 a (b * 65536) = a + b * 65536 := by
  rw [bits_or_comm, bits_join .u32 32 (by decide) (fun n h1 h2 => by rw [IntKind.wrap_u32]; omega) 16 (b * 65536) a (by omega) (by omega) (by omega) (by omega) (by omega) (by omega)]
  omega
theorem or_h24 {a b : Int} (ha : 0 ≤ a ∧ a ≤ 16777215) (hb : 0 ≤ b ∧ b ≤ 255) : bits .or .u32 a (b * 16777216) = a + b * 16777216 := by
  rw [bits_or_comm, bits_join .u32 32 (by decide) (fun n h1 h2 => by rw [IntKind.wrap_u32]; omega) 24 (b * 16777216) a (by omega) (by omega) (by omega) (by omega) (by omega) (by omega)]
  omega
set_option maxRecDepth 100000 in
theorem pcNumber_a (b : List UInt8) (k : Nat) (h : k + 4 ≤ b.length) (hl : b.length ≤ 1000000) : ASpec Try.prog 94 [.bs b, i64 k] (u32A (le4N b k)) := by
  have h0 := bN_bd b k
  have h1 := bN_bd b (k + 1)
  have h2 := bN_bd b (k + 2)
  have h3 := bN_bd b (k + 3)
  have e1 := or_h8 (a := bN b k) (by omega) h1
  have e2 := or_h16 (a := bN b k + bN b (k + 1) * 256) (by omega) h2
  have e3 := or_h24 (a := bN b k + bN b (k + 1) * 256 + bN b (k + 2) * 65536) (by omega) h3
  have hk : (0 : Int) ≤ k := by omega
  have hk0 : ((k : Int) < (b.length : Int)) := by omega
  have hk1 : (((k + 1 : Nat) : Int) < (b.length : Int)) := by omega
  have hk2 : (((k + 2 : Nat) : Int) < (b.length : Int)) := by omega
  have hk3 : (((k + 3 : Nat) : Int) < (b.length : Int)) := by omega
  have n1 : (0 : Int) ≤ ((k + 1 : Nat) : Int) := by omega
  have n2 : (0 : Int) ≤ ((k + 2 : Nat) : Int) := by omega
  have n3 : (0 : Int) ≤ ((k + 3 : Nat) : Int) := by omega
  have w1 : IntKind.i64.wrap ((k : Int) + 1) = ((k + 1 : Nat) : Int) := by rw [i64_in (by omega) (by omega)]; omega
  have w2 : IntKind.i64.wrap ((k : Int) + 2) = ((k + 2 : Nat) : Int) := by rw [i64_in (by omega) (by omega)]; omega
  have w3 : IntKind.i64.wrap ((k : Int) + 3) = ((k + 3 : Nat) : Int) := by rw [i64_in (by omega) (by omega)]; omega
  refine ASpec.of_body TT_ok Try.mixed _ [.tmp 4] ([], []) Try.func94 (by kernel_rfl) rfl rfl (by simp only [Try.ntmps94, List.length_cons, List.length_nil]; omega) rfl (by kernel_rfl) ?_
  simp only [w1, w2, w3, Int.toNat_natCast, getD_bN, hk, hk0, hk1, hk2, hk3, n1, n2, n3, u32_in (n := bN b k) (by omega) (by omega), u32_in (n := bN b (k + 1)) (by omega) (by omega), u32_in (n := bN b (k + 2)) (by omega) (by omega), u32_in (n := bN b (k + 3)) (by omega) (by omega), u32_in (n := bN b (k + 1) * 256) (by omega) (by omega), u32_in (n := bN b (k + 2) * 65536) (by omega) (by omega), u32_in (n := bN b (k + 3) * 16777216) (by omega) (by omega), e1, e2, e3, argE_cons, argE_nil, ac_ret, ac_seq, ac_region, at_normal, ae_ret, ao_nil, ao_cons, as_move, as_assign, as_binOp, as_convert, as_load, as_indexAddr, u32A, i64, fr_false, List.contains_nil, Nat.reduceBEq, beq_self_eq_true, Int.cast_ofNat_Int, Int.reducePow, hk_some, hopG, rd, aopsD, tlN, constT, evT, lk, putT, binF, convF, loadF, resF, resL, constA, cellA, TK.isAgg, IntKind.bits, List.length_cons, List.length_nil, Option.map_some, Option.bind_some, Nat.reduceAdd, Nat.reduceSub, Nat.reduceEqDiff, Nat.reduceLeDiff, Nat.succ_ne_zero, true_and, and_true, and_self, eq_self, reduceCtorEq, Bool.false_eq_true, ↓reduceIte, Int.reduceToNat, Int.reduceLE, Nat.zero_add, TT3, TT5, TT22, TT38]
  try rfl
set_option maxRecDepth 100000 in
theorem refAt46_a (b : List UInt8) (k : Nat) (h : k + 4 ≤ b.length) (hl : b.length ≤ 1000000) : ASpec Try.prog 65 [.bs b, i64 k] (u32A (le4N b k)) := by
  have h0 := bN_bd b k
  have h1 := bN_bd b (k + 1)
  have h2 := bN_bd b (k + 2)
  have h3 := bN_bd b (k + 3)
  have hk : (0 : Int) ≤ k := by omega
  have hk0 : ((k : Int) < (b.length : Int)) := by omega
  have hk1 : (((k + 1 : Nat) : Int) < (b.length : Int)) := by omega
  have hk2 : (((k + 2 : Nat) : Int) < (b.length : Int)) := by omega
  have hk3 : (((k + 3 : Nat) : Int) < (b.length : Int)) := by omega
  have n1 : (0 : Int) ≤ ((k + 1 : Nat) : Int) := by omega
  have n2 : (0 : Int) ≤ ((k + 2 : Nat) : Int) := by omega
  have n3 : (0 : Int) ≤ ((k + 3 : Nat) : Int) := by omega
  have w0 : IntKind.i64.wrap ((k : Int) + 0) = (k : Int) := by rw [i64_in (by omega) (by omega)]; omega
  have w1 : IntKind.i64.wrap ((k : Int) + 1) = ((k + 1 : Nat) : Int) := by rw [i64_in (by omega) (by omega)]; omega
  have w2 : IntKind.i64.wrap ((k : Int) + 2) = ((k + 2 : Nat) : Int) := by rw [i64_in (by omega) (by omega)]; omega
  have w3 : IntKind.i64.wrap ((k : Int) + 3) = ((k + 3 : Nat) : Int) := by rw [i64_in (by omega) (by omega)]; omega
  have d3 : IntKind.i64.wrap 2 = 2 := by decide +kernel
  have d2 : IntKind.i64.wrap 1 = 1 := by decide +kernel
  have d1 : IntKind.i64.wrap 0 = 0 := by decide +kernel
  have d0 : IntKind.i64.wrap (-1) = -1 := by decide +kernel
  have z0 : IntKind.u32.wrap 0 = 0 := by decide +kernel
  have v3 : IntKind.u32.wrap (0 + bN b (k + 3)) = bN b (k + 3) := by rw [u32_in (by omega) (by omega)]; omega
  refine ASpec.of_body TT_ok Try.mixed _ [.tmp 4] ([], []) Try.func65 (by kernel_rfl) rfl rfl (by simp only [Try.ntmps65, List.length_cons, List.length_nil]; omega) rfl (by kernel_rfl) ?_
  simp only [argE_cons, argE_nil, ac_seq, ac_block, ac_region, ac_loop, at_normal, ao_nil, ao_cons, as_assign, u32A, i64, fr_false, List.contains_nil, beq_self_eq_true, aopsD, constT, evT, putT, constA, cellA, Nat.reduceAdd, Nat.reduceSub, Nat.reduceLeDiff, Bool.false_eq_true, ↓reduceIte, Nat.zero_add]
  refine .inl ⟨5, ?_⟩
  simp only [unr, w0, w1, w2, w3, d3, d2, d1, d0, z0, v3, Int.toNat_natCast, getD_bN, hk, hk0, hk1, hk2, hk3, n1, n2, n3, u32_in (n := bN b k) (by omega) (by omega), u32_in (n := bN b (k + 1)) (by omega) (by omega), u32_in (n := bN b (k + 2)) (by omega) (by omega), u32_in (n := bN b (k + 3)) (by omega) (by omega), u32_in (n := bN b (k + 3) * 256) (by omega) (by omega), u32_in (n := bN b (k + 3) * 256 + bN b (k + 2)) (by omega) (by omega), u32_in (n := (bN b (k + 3) * 256 + bN b (k + 2)) * 256) (by omega) (by omega), u32_in (n := (bN b (k + 3) * 256 + bN b (k + 2)) * 256 + bN b (k + 1)) (by omega) (by omega), u32_in (n := ((bN b (k + 3) * 256 + bN b (k + 2)) * 256 + bN b (k + 1)) * 256) (by omega) (by omega), u32_in (n := ((bN b (k + 3) * 256 + bN b (k + 2)) * 256 + bN b (k + 1)) * 256 + bN b k) (by omega) (by omega), ac_skip, ac_exit, ac_ret, ac_seq, ac_block, ac_cond, ac_region, at_normal, at_exit, ab_normal, ab_exit, ae_ret, ao_nil, ao_cons, if_t, if_f, as_move, as_assign, as_binOp, as_convert, as_load, as_indexAddr, fr_false, List.contains_nil, beq_self_eq_true, decide_true, decide_false, hk_some, hopG, rd, aopsD, constT, evT, lk, putT, binF, convF, loadF, resF, resL, constA, cellA, TK.isAgg, Option.map_some, Option.bind_some, Nat.reduceSub, Nat.reduceEqDiff, Nat.reduceLeDiff, Nat.succ_ne_zero, true_and, and_true, and_self, eq_self, reduceCtorEq, Bool.false_eq_true, ↓reduceIte, Int.reduceLE, Int.reduceMul, Int.reduceSub, Int.reduceNeg, TT3, TT5, TT22, TT38]
  rw [show ((bN b (k + 3) * 256 + bN b (k + 2)) * 256 + bN b (k + 1)) * 256 + bN b k = le4N b k by unfold le4N; omega]
theorem u8_of (x : UInt8) : u8 (x.toNat : Int) = x := by
  apply UInt8.toNat_inj.1
  have := u8_toNat (x.toNat : Int)
  have h := x.toNat_lt
  omega
set_option maxRecDepth 100000 in
theorem refLow46_a (n : Int) (h : 0 ≤ n ∧ n ≤ 4294967295) : ASpec Try.prog 61 [u32A n] (.bs (low4 n)) := by
  have e : lowB 4 n = [u8 (n / 16777216), u8 (n / 65536), u8 (n / 256), u8 n] := by
    have e1 : u8 (n / 256 / 256) = u8 (n / 65536) := by congr 1; omega
    have e2 : u8 (n / 256 / 256 / 256) = u8 (n / 16777216) := by congr 1; omega
    simp [lowB, e1, e2]
  refine ASpec.of_body TT_ok Try.mixed _ [.tmp 2] ([], []) Try.func61 (by kernel_rfl) rfl rfl (by simp only [Try.ntmps61, List.length_cons, List.length_nil]; omega) rfl (by kernel_rfl) ?_
  simp only [argE_cons, argE_nil, ac_seq, ac_region, at_normal, ao_nil, ao_cons, as_call, as_move, as_assign, u32A, fr_false, List.contains_nil, beq_self_eq_true, rd, aopsD, frzW, frzR, constT, evT, lk, putT, argsF, constA, cellA, Option.map_some, Nat.reduceSub, Nat.reduceLeDiff, Nat.succ_ne_zero, eq_self, Bool.false_eq_true, ↓reduceIte, Nat.zero_add]
  refine ACall.intro (refPut_a n 4 h (by omega)) ?_
  rw [e]
  simp only [List.getD_cons_zero, List.getD_cons_succ, ac_ret, ac_seq, ac_region, at_normal, ae_ret, ao_nil, ao_cons, as_move, as_assign, as_load, as_indexAddr, as_buildSlice, fr_false, List.contains_nil, Nat.reduceBEq, beq_self_eq_true, Int.cast_ofNat_Int, hk_some, hopG, rd, aopsD, frzW, tlN, constT, evT, lk, putT, loadF, cellsF, ovw, fillF, bytesOf, makeSF, partsF, resF, resL, constA, cellA, TK.isAgg, Value.oneCell', List.length_cons, List.length_nil, List.set_cons_zero, List.set_cons_succ, List.nil_append, List.cons_append, List.replicate_succ, List.replicate_zero, List.flatten_cons, List.flatten_nil, List.append_nil, Option.map_some, Option.bind_some, Nat.reduceAdd, Nat.reduceSub, Nat.reduceEqDiff, Nat.reduceLeDiff, true_and, and_true, and_self, eq_self, Bool.false_eq_true, ↓reduceIte, Int.toNat_zero, Int.reduceToNat, Int.reduceLT, Int.reduceLE, Nat.mul_one, Nat.zero_add, Nat.le_refl, TT5, TT38]
  have hb : ∀ x : UInt8, 0 ≤ (x.toNat : Int) ∧ (x.toNat : Int) ≤ 255 := fun x => by have := x.toNat_lt; omega
  exact ⟨⟨hb _, hb _, hb _, hb _⟩, by simp only [u8_of]; rfl⟩
set_option maxRecDepth 100000 in
theorem refTop46_a : ASpec Try.prog 62 [] (.bs topP) := by
  refine ASpec.of_body TT_ok Try.mixed _ [.tmp 0] ([], []) Try.func62 (by kernel_rfl) rfl rfl (by simp only [Try.ntmps62, List.length_nil]; omega) rfl (by kernel_rfl) ?_
  simp only [argE_nil, ac_ret, ac_seq, ac_region, at_normal, ae_ret, ao_nil, ao_cons, as_assign, as_buildSlice, fr_false, List.contains_nil, beq_self_eq_true, hk_some, hopG, rd, aopsD, frzW, frzR, constT, evT, lk, putT, cellsF, ovw, fillF, bytesOf, makeSF, partsF, resF, resL, constA, cellA, Value.oneCell', List.length_cons, List.length_nil, List.map_cons, List.map_nil, List.set_cons_zero, List.set_cons_succ, List.nil_append, List.cons_append, List.replicate_succ, List.replicate_zero, List.flatten_cons, List.flatten_nil, List.append_nil, Option.map_some, Option.bind_some, Nat.reduceAdd, Nat.reduceSub, Nat.reduceLeDiff, true_and, and_true, and_self, eq_self, Bool.false_eq_true, ↓reduceIte, Int.reduceLE, Nat.mul_one, Nat.zero_add, Nat.le_refl, TT5, TT38]
  exact congrArg AV.bs (by decide +kernel)
set_option maxRecDepth 100000 in
theorem refOne46_a (r : RecN) (hr : r.ok) (hd : r.data.length ≤ 100000) : ASpec Try.prog 34 [.agg (recL r)] (.bs (oneB r)) := by
  have hsm : ∀ (x y : List UInt8), x.length + y.length ≤ 1000000 → x.length + y.length ≤ 140737488355328 := fun _ _ h => by omega
  refine ASpec.of_body TT_ok Try.mixed _ [.tmp 2] ([], []) Try.func34 (by kernel_rfl) rfl rfl (by simp only [Try.ntmps34, List.length_cons, List.length_nil]; omega) rfl (by kernel_rfl) ?_
  simp only [u32_in (n := (r.data.length : Int)) (by omega) (by omega), argE_cons, argE_nil, ac_seq, ac_region, at_normal, ao_nil, ao_cons, as_call, as_box, as_assign, as_convert, as_load, as_fieldAddr, as_len, u32A, fr_false, List.contains_nil, beq_self_eq_true, hk_some, hopG, hopF, rd, aopsD, heapF, frzW, frzR, constT, evT, lk, putT, lenF, convF, loadF, cellsF, argsF, TK.isAgg, List.length_nil, List.getElem?_cons_zero, List.getElem?_cons_succ, List.drop_zero, List.drop_succ_cons, List.nil_append, Option.map_some, Nat.reduceSub, Nat.reduceEqDiff, Nat.reduceLeDiff, Nat.succ_ne_zero, ne_eq, not_false_eq_true, true_and, eq_self, Bool.false_eq_true, ↓reduceIte, Nat.zero_add, TT3, TT22, TT38, TT72]
  refine ACall.intro (refLow46_a r.data.length (by omega)) ?_
  simp only [ac_seq, ac_region, at_normal, ao_nil, ao_cons, as_call, as_assign, as_load, as_fieldAddr, u32A, fr_false, List.contains_nil, Nat.reduceBEq, beq_self_eq_true, hk_some, hopG, rd, aopsD, frzW, tlN, evT, lk, putT, loadF, argsF, TK.isAgg, List.length_cons, List.length_nil, List.getElem?_cons_zero, List.drop_zero, Option.map_some, Nat.reduceAdd, Nat.reduceSub, Nat.reduceEqDiff, Nat.reduceLeDiff, Nat.succ_ne_zero, ne_eq, not_false_eq_true, true_and, eq_self, Bool.false_eq_true, ↓reduceIte, Nat.zero_add, Nat.add_zero, TT22, TT72]
  refine ACall.intro (refLow46_a r.sec hr.sec) ?_
  simp only [ao_cons, as_call, as_load, as_fieldAddr, u32A, Nat.reduceBEq, hk_some, hopG, rd, frzW, evT, lk, putT, loadF, argsF, TK.isAgg, List.getElem?_cons_zero, List.getElem?_cons_succ, List.drop_zero, List.drop_succ_cons, Option.map_some, Nat.reduceSub, Nat.reduceEqDiff, Nat.succ_ne_zero, ne_eq, not_false_eq_true, true_and, eq_self, Bool.false_eq_true, ↓reduceIte, Nat.zero_add, TT22, TT72]
  refine ACall.intro (refLow46_a r.usec hr.usec) ?_
  simp only [ao_cons, as_call, Nat.reduceBEq, rd, frzW, evT, lk, putT, argsF, Option.map_some, Nat.reduceSub, Nat.reduceEqDiff, eq_self, ↓reduceIte]
  refine ACall.intro (add_a (low4 r.sec) (low4 r.usec) (by simp only [low4_len]; omega)) ?_
  simp only [ao_cons, as_call, as_move, Nat.reduceBEq, rd, frzW, evT, lk, putT, argsF, Option.map_some, Nat.reduceSub, Nat.reduceEqDiff, eq_self, ↓reduceIte]
  refine ACall.intro (add_a (low4 r.data.length) (low4 r.data.length) (by simp only [low4_len]; omega)) ?_
  simp only [ao_cons, as_call, Nat.reduceBEq, rd, frzW, evT, lk, putT, argsF, Option.map_some, Nat.reduceSub, Nat.reduceEqDiff, eq_self, ↓reduceIte]
  refine ACall.intro (add_a (low4 r.sec ++ low4 r.usec) (low4 r.data.length ++ low4 r.data.length) (by simp only [List.length_append, low4_len]; omega)) ?_
  simp only [ao_cons, as_call, as_load, as_fieldAddr, u32A, Nat.reduceBEq, hk_some, hopG, rd, frzW, evT, lk, putT, loadF, argsF, TK.isAgg, List.getElem?_cons_zero, List.getElem?_cons_succ, List.drop_zero, List.drop_succ_cons, Option.map_some, Nat.reduceSub, Nat.reduceEqDiff, Nat.succ_ne_zero, ne_eq, not_false_eq_true, true_and, eq_self, Bool.false_eq_true, ↓reduceIte, Nat.zero_add, TT38, TT72]
  refine ACall.intro (add_a ((low4 r.sec ++ low4 r.usec) ++ (low4 r.data.length ++ low4 r.data.length)) r.data (by simp only [List.length_append, low4_len]; omega)) ?_
  simp only [ac_ret, at_normal, ae_ret, ao_nil, ao_cons, as_assign, Nat.reduceBEq, rd, evT, lk, putT, resF, resL, Option.map_some, Option.bind_some, Nat.reduceSub, true_and, and_true, eq_self, ↓reduceIte]
  rw [oneB]
  simp only [List.append_assoc]
/-- One record, and what is behind it. -/
def oneP (b : List UInt8) : RecN × List UInt8 × Int :=
  if b.length < 16 then (rec0, [], 4) else if 1000000 ≤ le4N b 4 ∨ 65535 < le4N b 8 ∨ ¬ le4N b 12 = le4N b 8 then (rec0, [], 3)
  else if (b.length : Int) - 16 < le4N b 8 then (rec0, [], 4) else (⟨le4N b 0, le4N b 4, (b.drop 16).take (le4N b 8).toNat⟩, b.drop (16 + (le4N b 8).toNat), 0)
set_option maxRecDepth 100000 in
theorem pcOne_a (b : List UInt8) (hl : b.length ≤ 1000000) : ASpec Try.prog 64 [.bs b] (.tup [.agg (recL (oneP b).1), .bs (oneP b).2.1, i64 (oneP b).2.2]) := by
  have n8 := le4N_bd b 8
  refine ASpec.of_body TT_ok Try.mixed _ [.cell 2 65, .tmp 3, .tmp 4] ([], [(10, 4000)]) Try.func64 (by kernel_rfl) rfl rfl (by simp only [Try.ntmps64, List.length_cons, List.length_nil]; omega) rfl (by kernel_rfl) ?_
  simp only [argE_cons, argE_nil, ac_seq, ac_cond, ac_region, at_normal, ao_nil, ao_cons, as_alloc, as_move, as_assign, as_binOp, as_len, i64, fr_false, List.contains_nil, beq_self_eq_true, hk_some, hopG, hopF, rd, aopsD, heapF, constT, evT, lk, putT, lenF, binF, constA, cellA, List.length_nil, List.nil_append, Option.map_some, Nat.reduceSub, Nat.reduceLeDiff, Nat.succ_ne_zero, true_and, eq_self, Bool.false_eq_true, ↓reduceIte, Nat.zero_add, TT3, TT38, TT65]
  cases c1 : decide ((b.length : Int) < 16)
  · rw [dF] at c1
    have P : oneP b = if 1000000 ≤ le4N b 4 ∨ 65535 < le4N b 8 ∨ ¬ le4N b 12 = le4N b 8 then (rec0, [], 3)
      else if (b.length : Int) - 16 < le4N b 8 then (rec0, [], 4) else (⟨le4N b 0, le4N b 4, (b.drop 16).take (le4N b 8).toNat⟩, b.drop (16 + (le4N b 8).toNat), 0) := if_neg (by omega)
    have a0 := pcNumber_a b 0 (by omega) hl
    have a4 := pcNumber_a b 4 (by omega) hl
    have a8 := pcNumber_a b 8 (by omega) hl
    have a12 := pcNumber_a b 12 (by omega) hl
    simp only [Int.cast_ofNat_Int] at a0 a4 a8 a12
    simp only [ac_skip, ac_seq, ac_region, at_normal, ao_cons, if_f, as_call, as_move, fr_false, List.contains_nil, beq_self_eq_true, rd, aopsD, frzW, frzR, constT, evT, lk, putT, argsF, constA, cellA, Option.map_some, Nat.reduceSub, Nat.reduceLeDiff, Nat.succ_ne_zero, eq_self, Bool.false_eq_true, ↓reduceIte]
    refine ACall.intro a0 ?_
    simp only [ao_cons, as_call, as_move, u32A, beq_self_eq_true, rd, frzW, frzR, constT, evT, lk, putT, argsF, constA, cellA, Option.map_some, Nat.reduceSub, Nat.succ_ne_zero, eq_self, ↓reduceIte]
    refine ACall.intro a4 ?_
    simp only [ac_seq, ac_region, at_normal, ao_nil, ao_cons, as_call, as_alloc, as_store, as_move, as_build, u32A, fr_false, List.contains_nil, beq_self_eq_true, Bool.and_self, hk_some, hopG, rd, aopsD, heapF, frzW, frzR, constT, evT, lk, putT, cellsF, ovw, fillF, buildF, partsF, argsF, okCell, constA, cellA, Value.oneCell', List.length_cons, List.length_nil, List.map_cons, List.map_nil, List.getElem?_cons_zero, List.getElem?_cons_succ, List.set_cons_zero, List.set_cons_succ, List.nil_append, List.cons_append, List.all_cons, List.all_nil, Option.map_some, Nat.reduceAdd, Nat.reduceSub, Nat.reduceEqDiff, Nat.reduceLeDiff, Nat.succ_ne_zero, true_and, and_self, eq_self, Bool.false_eq_true, ↓reduceIte, Nat.zero_add, Nat.le_refl, TT65]
    refine ACall.intro a8 ?_
    simp only [ac_seq, ac_block, ac_region, at_normal, ao_nil, ao_cons, ao_guard_f, as_move, as_assign, as_binOp, as_load, as_fieldAddr, u32A, fr_false, List.contains_nil, beq_self_eq_true, hk_some, hopG, rd, aopsD, constT, evT, lk, putT, GV, gdst, binF, loadF, constA, cellA, TK.isAgg, List.getElem?_cons_zero, List.getElem?_cons_succ, List.drop_zero, List.drop_succ_cons, Option.map_some, Nat.reduceSub, Nat.reduceEqDiff, Nat.reduceLeDiff, Nat.succ_ne_zero, ne_eq, not_false_eq_true, true_and, eq_self, Bool.false_eq_true, ↓reduceIte, Nat.zero_add, TT22, TT65]
    cases c2 : decide ((1000000 : Int) ≤ le4N b 4)
    · rw [dF] at c2
      simp only [ao_cons, ao_guard_f, st_at, pk_at, if_f, as_pick, as_move, as_binOp, beq_self_eq_true, hk_some, hopG, rd, constT, evT, lk, putT, GV, gdst, binF, constA, cellA, Option.map_some, Nat.reduceSub, Nat.reduceEqDiff, true_and, eq_self, ↓reduceIte, TT22]
      cases c3 : decide ((65535 : Int) < le4N b 8)
      · rw [dF] at c3
        simp only [ao_guard_f, st_at, if_f, as_call, as_move, beq_self_eq_true, rd, frzW, frzR, constT, evT, lk, putT, GV, gdst, argsF, constA, cellA, Option.map_some, Nat.reduceSub, Nat.reduceEqDiff, Nat.succ_ne_zero, eq_self, ↓reduceIte]
        refine ACall.intro a12 ?_
        simp only [ac_cond, at_normal, ao_nil, ao_cons, ao_guard_f, st_at, pk_at, if_f, as_pick, as_move, as_assign, as_binOp, u32A, beq_self_eq_true, hk_some, hopG, rd, evT, lk, putT, GV, gdst, binF, Option.map_some, Nat.reduceSub, Nat.reduceEqDiff, true_and, eq_self, ↓reduceIte, TT22]
        cases c4 : decide (le4N b 12 = le4N b 8)
        · rw [dF] at c4
          rw [if_pos (.inr (.inr c4))] at P
          simp only [ac_ret, ac_seq, ac_region, at_normal, at_ret, ab_ret, ae_ret, ao_nil, ao_cons, if_t, as_store, as_assign, as_build, fr_false, fr_nil, fr_cons, List.contains_nil, beq_self_eq_true, Bool.and_self, hk_some, hopG, rd, aopsD, heapF, frzW, frzR, constT, evT, lk, putT, loadF, cellsF, ovw, fillF, buildF, partsF, okCell, resF, resL, constA, cellA, TK.isAgg, Value.oneCell', List.length_cons, List.length_nil, List.map_nil, List.getElem?_cons_zero, List.drop_zero, List.take_succ_cons, List.take_nil, List.set_cons_zero, List.set_cons_succ, List.all_cons, List.all_nil, Option.map_some, Option.bind_some, Nat.reduceAdd, Nat.reduceSub, Nat.reduceEqDiff, Nat.reduceLeDiff, true_and, and_true, and_self, eq_self, Bool.false_eq_true, Bool.not_false, ↓reduceIte, Nat.zero_add, Nat.le_refl, TT65]
          rw [P]
          rfl
        · rw [dT] at c4
          rw [if_neg (by omega)] at P
          simp only [i64_in (n := le4N b 8) (by omega) (by omega), i64_in (n := (b.length : Int) - 16) (by omega) (by omega), ac_seq, ac_cond, ac_region, at_normal, ao_nil, ao_cons, if_f, as_move, as_assign, as_binOp, as_convert, as_len, fr_false, List.contains_nil, beq_self_eq_true, hk_some, hopG, hopF, rd, aopsD, constT, evT, lk, putT, lenF, binF, convF, constA, cellA, Option.map_some, Nat.reduceSub, Nat.reduceEqDiff, Nat.reduceLeDiff, Nat.succ_ne_zero, true_and, eq_self, Bool.false_eq_true, Bool.not_true, ↓reduceIte, TT3, TT22, TT38]
          cases c5 : decide ((b.length : Int) - 16 < le4N b 8)
          · rw [dF] at c5
            rw [if_neg (by omega)] at P
            obtain ⟨m, hm⟩ : ∃ m : Nat, le4N b 8 = (m : Int) := ⟨(le4N b 8).toNat, by omega⟩
            rw [hm, Int.toNat_natCast] at P
            have hc : cutB b 16 m = (b.drop 16).take m := by
              rw [cutB, if_pos (thereB_iff.2 (by omega)), Int.toNat_natCast]
              rfl
            have hx : ((b.drop (16 + m)).take ((b.length : Int) - (16 + (m : Int))).toNat) = b.drop (16 + m) := List.take_of_length_le (by simp; omega)
            have hz : (16 + (m : Int)).toNat = 16 + m := by omega
            have q1 : (0 : Int) ≤ 16 + (m : Int) := by omega
            have q2 : 16 + (m : Int) ≤ (b.length : Int) := by omega
            simp only [hm, i64_in (n := (m : Int)) (by omega) (by omega), ac_skip, ac_seq, ac_region, at_normal, ab_normal, ao_cons, if_f, as_call, as_move, as_convert, fr_false, List.contains_nil, beq_self_eq_true, hk_some, hopG, rd, aopsD, frzW, frzR, constT, evT, lk, putT, convF, argsF, constA, cellA, Option.map_some, Nat.reduceSub, Nat.reduceEqDiff, Nat.reduceLeDiff, Nat.succ_ne_zero, true_and, eq_self, Bool.false_eq_true, ↓reduceIte, TT3, TT22]
            refine ACall.intro (cut_a b 16 m (by omega) (by simp only [small]; omega)) ?_
            rw [hc]
            simp only [ac_seq, ac_region, at_normal, ao_nil, ao_cons, as_store, as_move, as_fieldAddr, as_extract, boA, fr_false, List.contains_nil, beq_self_eq_true, Bool.and_self, hk_some, hopG, rd, aopsD, heapF, frzW, frzR, tlN, evT, lk, putT, cellsF, ovw, okCell, List.length_cons, List.length_nil, List.getElem?_cons_zero, List.getElem?_cons_succ, List.set_cons_zero, List.set_cons_succ, List.all_cons, List.all_nil, Option.map_some, Nat.reduceAdd, Nat.reduceSub, Nat.reduceEqDiff, Nat.succ_ne_zero, ne_eq, not_false_eq_true, true_and, and_self, eq_self, ↓reduceIte, Nat.zero_add, Nat.le_refl, TT38, TT65]
            refine ⟨(.first 1 (.first 2 (.first 3 (.first 4 (.node 0 (.node 5 (.node 6 (.first 7 (.first 8 .nil)) .nil) (.node 6 (.node 5 (.first 7 (.first 8 .nil)) .nil) .nil)) (.node 5 (.node 0 (.node 6 (.first 7 (.first 8 .nil)) .nil) .nil) .nil)))))), by kernel_rfl, ?_⟩
            simp only [i64_in (n := (m : Int)) (by omega) (by omega), i64_in (n := 16 + (m : Int)) (by omega) (by omega), hz, hx, q1, q2, Int.le_refl, ac_ret, at_normal, ae_ret, as_store, as_move, as_assign, as_binOp, as_convert, as_load, af_nil, af_nil_f, af_node, af_first, an_step, af_step, freeF, isOne, as_slice, fr_nil, fr_cons, Bool.and_self, hk_some, hopG, rd, heapF, frzW, frzR, constT, evT, lk, putT, binF, convF, loadF, cellsF, ovw, bndF, cutF, okCell, resF, resL, constA, cellA, TK.isAgg, Value.oneCell', List.length_cons, List.length_nil, List.getElem?_cons_zero, List.getElem?_cons_succ, List.drop_zero, List.take_succ_cons, List.take_nil, List.set_cons_zero, List.set_cons_succ, List.all_cons, List.all_nil, Option.map_some, Option.map_none, Option.bind_some, Nat.reduceAdd, Nat.reduceEqDiff, Nat.succ_ne_zero, true_and, and_true, and_self, eq_self, ↓reduceIte, Nat.zero_add, Nat.le_refl, TT3, TT22, TT38, TT65]
            rw [P]
          · rw [dT] at c5
            rw [if_pos c5] at P
            simp only [ac_ret, ac_seq, ac_region, at_normal, at_ret, ab_ret, ae_ret, ao_nil, ao_cons, if_t, as_store, as_assign, as_build, fr_false, fr_nil, fr_cons, List.contains_nil, beq_self_eq_true, Bool.and_self, hk_some, hopG, rd, aopsD, heapF, frzW, frzR, constT, evT, lk, putT, loadF, cellsF, ovw, fillF, buildF, partsF, okCell, resF, resL, constA, cellA, TK.isAgg, Value.oneCell', List.length_cons, List.length_nil, List.map_nil, List.getElem?_cons_zero, List.drop_zero, List.take_succ_cons, List.take_nil, List.set_cons_zero, List.set_cons_succ, List.all_cons, List.all_nil, Option.map_some, Option.bind_some, Nat.reduceAdd, Nat.reduceSub, Nat.reduceEqDiff, Nat.reduceLeDiff, true_and, and_true, and_self, eq_self, Bool.false_eq_true, ↓reduceIte, Nat.zero_add, Nat.le_refl, TT65]
            rw [P]
            rfl
      · rw [dT] at c3
        rw [if_pos (.inr (.inl c3))] at P
        simp only [ac_ret, ac_seq, ac_cond, ac_region, at_normal, at_ret, ab_ret, ae_ret, ao_nil, ao_cons, ao_guard_f, sk_at, pk_at, if_t, as_pick, as_store, as_assign, as_build, fr_false, fr_nil, fr_cons, List.contains_nil, beq_self_eq_true, Bool.and_self, hk_some, hopG, rd, aopsD, heapF, frzW, frzR, constT, evT, lk, putT, GV, gdst, loadF, cellsF, ovw, fillF, buildF, partsF, okCell, resF, resL, constA, cellA, TK.isAgg, Value.oneCell', List.length_cons, List.length_nil, List.map_nil, List.getElem?_cons_zero, List.drop_zero, List.take_succ_cons, List.take_nil, List.set_cons_zero, List.set_cons_succ, List.all_cons, List.all_nil, Option.map_some, Option.bind_some, Nat.reduceAdd, Nat.reduceSub, Nat.reduceEqDiff, Nat.reduceLeDiff, true_and, and_true, and_self, eq_self, Bool.false_eq_true, ↓reduceIte, Nat.zero_add, Nat.le_refl, TT65]
        rw [P]
        rfl
    · rw [dT] at c2
      rw [if_pos (.inl c2)] at P
      simp only [ac_ret, ac_seq, ac_cond, ac_region, at_normal, at_ret, ab_ret, ae_ret, ao_nil, ao_cons, ao_guard_f, sk_at, pk_at, if_t, as_pick, as_store, as_move, as_assign, as_build, fr_false, fr_nil, fr_cons, List.contains_nil, beq_self_eq_true, Bool.and_self, hk_some, hopG, rd, aopsD, heapF, frzW, frzR, constT, evT, lk, putT, GV, gdst, loadF, cellsF, ovw, fillF, buildF, partsF, okCell, resF, resL, constA, cellA, TK.isAgg, Value.oneCell', List.length_cons, List.length_nil, List.map_nil, List.getElem?_cons_zero, List.drop_zero, List.take_succ_cons, List.take_nil, List.set_cons_zero, List.set_cons_succ, List.all_cons, List.all_nil, Option.map_some, Option.bind_some, Nat.reduceAdd, Nat.reduceSub, Nat.reduceEqDiff, Nat.reduceLeDiff, true_and, and_true, and_self, eq_self, Bool.false_eq_true, ↓reduceIte, Nat.zero_add, Nat.le_refl, TT65]
      rw [P]
      rfl
  · rw [dT] at c1
    have P : oneP b = (rec0, [], 4) := if_pos (by omega)
    simp only [ac_ret, ac_seq, ac_region, at_normal, at_ret, ae_ret, ao_nil, ao_cons, if_t, as_store, as_assign, as_build, fr_false, fr_nil, fr_cons, List.contains_nil, beq_self_eq_true, Bool.and_self, hk_some, hopG, rd, aopsD, heapF, frzW, frzR, constT, evT, lk, putT, loadF, cellsF, ovw, fillF, buildF, partsF, okCell, resF, resL, constA, cellA, TK.isAgg, Value.oneCell', List.length_cons, List.length_nil, List.map_nil, List.getElem?_cons_zero, List.drop_zero, List.take_succ_cons, List.take_nil, List.set_cons_zero, List.set_cons_succ, List.all_cons, List.all_nil, Option.map_some, Option.bind_some, Nat.reduceAdd, Nat.reduceSub, Nat.reduceEqDiff, Nat.reduceLeDiff, true_and, and_true, and_self, eq_self, Bool.false_eq_true, ↓reduceIte, Nat.zero_add, Nat.le_refl, TT65]
    rw [P]
    rfl
end Go.Proofs.Ythjojkkapboonaa
