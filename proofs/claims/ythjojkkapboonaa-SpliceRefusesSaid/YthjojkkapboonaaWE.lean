/- splice.Bytes; the bytes of any segment, turned; bytes that are none. -/
import Derived.Test.YthjojkkapboonaaWD
namespace Go.Proofs.Ythjojkkapboonaa
set_option linter.unusedSimpArgs false
set_option linter.unusedVariables false
open Go.RowKit

theorem wordB_len (b : List UInt8) (k : Nat) (n : Int) (hk : k ≤ 8) (h20 : 20 ≤ b.length) : (wordB b k n).length = b.length := by
  have l1 : (set16 b k (n / 65536)).length = b.length := length_set16W _ _ _ (thereB_iff.2 (by omega))
  have l2 : (set16 (set16 b k (n / 65536)) (k + 2 : Nat) (n % 65536)).length = b.length := by
    rw [length_set16W _ _ _ (thereB_iff.2 (by omega)), l1]
  rw [wordB, length_set16W _ _ _ (thereB_iff.2 (by omega)), l2]
theorem spW_len (b : List UInt8) (x : SegN) (h20 : 20 ≤ b.length) : (spW b x).length = b.length := by
  have l1 := wordB_len b 0 (x.src * 65536 + x.dst) (by omega) h20
  have l2 := wordB_len (wordB b 0 (x.src * 65536 + x.dst)) 4 x.seq (by omega) (by omega)
  have l3 := wordB_len (wordB (wordB b 0 (x.src * 65536 + x.dst)) 4 x.seq) 8 x.ack (by omega) (by omega)
  rw [spW]
  omega
theorem spB_len (src dst : Int) (b : List UInt8) (t : TurnN) (x : SegN) (h20 : 20 ≤ b.length) : (spB src dst b t x).length = b.length := by
  have := spW_len b x h20
  rw [spB, length_set16W _ _ _ (thereB_iff.2 (by omega)), this]
theorem tcpP_0 (src dst : Int) (b : List UInt8) (h : (tcpP src dst b).2 = 0) : 20 ≤ b.length ∧ 20 ≤ byteN b 12 / 16 * 4 ∧ b.length ≤ 65535 ∧ byteN b 12 / 16 * 4 ≤ b.length ∧
    (tcpP src dst b).1 = ⟨get16 b 0, get16 b 2, get32 b 4, get32 b 8, byteN b 12 % 16, byteN b 13, get16 b 14, get16 b 18, cutB b 20 (byteN b 12 / 16 * 4 - 20), b.drop (byteN b 12 / 16 * 4).toNat⟩ := by
  unfold tcpP at h ⊢
  split at h
  · cases h
  split at h
  · cases h
  split at h
  · cases h
  split at h
  · cases h
  rename_i h1 h2 h3 h4
  rw [if_neg h1, if_neg h2, if_neg h3, if_neg h4]
  exact ⟨by omega, by omega, by omega, by omega, rfl⟩
theorem tcpP_ok (src dst : Int) (b : List UInt8) (h : (tcpP src dst b).2 = 0) : (tcpP src dst b).1.ok := by
  rw [(tcpP_0 src dst b h).2.2.2.2]
  have b1 := byteN_bd b 12
  have b2 := byteN_bd b 13
  exact ⟨get16_bd _ _, get16_bd _ _, get32_bdW _ _, get32_bdW _ _, by simp only; omega, by simp only; omega, get16_bd _ _, get16_bd _ _⟩
theorem tcpP_lens (src dst : Int) (b : List UInt8) (h : (tcpP src dst b).2 = 0) : (tcpP src dst b).1.opts.length ≤ b.length ∧ (tcpP src dst b).1.data.length ≤ b.length := by
  rw [(tcpP_0 src dst b h).2.2.2.2]
  refine ⟨?_, by simp⟩
  simp only [cutB]
  split <;> simp
  omega
set_option maxRecDepth 100000 in
set_option maxHeartbeats 1000000 in
theorem spBytes_a (src dst : Int) (b : List UInt8) (t : TurnN) (s : SegN) (h1 : 0 ≤ src ∧ src ≤ 4294967295) (h2 : 0 ≤ dst ∧ dst ≤ 4294967295) (ht : t.ok) (hl : b.length ≤ 1000000) (h20 : 20 ≤ b.length) (hs : s.ok) (ho : s.opts.length ≤ 1000000) (hd : s.data.length ≤ 1000000)
    (hp : ASpec Try.prog 82 [u32A src, u32A dst, .bs b] (.tup [segA s, i64 0])) :
    ASpec Try.prog 50 [u32A src, u32A dst, .bs b, turnA t] (.tup [.bs (spB src dst b t (shiftS t.sp t.dp t.seq t.ack s)), i64 0]) := by
  have hxo := shift_ok t.sp t.dp t.seq t.ack s hs ht.sp ht.dp
  obtain ⟨x, hx⟩ : ∃ x, x = shiftS t.sp t.dp t.seq t.ack s := ⟨_, rfl⟩
  rw [← hx] at hxo ⊢
  have xs := hxo.src
  have xd := hxo.dst
  have hor := or_16 xs xd
  have hw1 : IntKind.u32.wrap (IntKind.u32.wrap x.src * 65536) = x.src * 65536 := by rw [IntKind.wrap_u32, IntKind.wrap_u32]; omega
  have hw2 : IntKind.u32.wrap x.dst = x.dst := by rw [IntKind.wrap_u32]; omega
  have l1 := wordB_len b 0 (x.src * 65536 + x.dst) (by omega) h20
  have l2 := wordB_len (wordB b 0 (x.src * 65536 + x.dst)) 4 x.seq (by omega) (by omega)
  have l3 := wordB_len (wordB (wordB b 0 (x.src * 65536 + x.dst)) 4 x.seq) 8 x.ack (by omega) (by omega)
  have g1 := get16_bd (spW b x) 16
  have l4 := spW_len b x h20
  refine ASpec.of_body TT_ok Try.mixed _ [.tmp 8, .tmp 9] ([], []) Try.func50 (by kernel_rfl) rfl rfl (by simp only [Try.ntmps50, List.length_cons, List.length_nil]; omega) rfl (by kernel_rfl) ?_
  simp only [argE_cons, argE_nil, ac_seq, ac_region, at_normal, ao_nil, ao_cons, as_call, as_box, as_move, as_assign, turnL, turnA, u16A, u32A, i64, fr_false, List.contains_nil, beq_self_eq_true, rd, aopsD, heapF, frzW, frzR, constT, evT, lk, putT, cellsF, argsF, constA, cellA, List.length_nil, List.nil_append, Option.map_some, Nat.reduceAdd, Nat.reduceSub, Nat.reduceEqDiff, Nat.reduceLeDiff, Nat.succ_ne_zero, true_and, eq_self, reduceCtorEq, Bool.false_eq_true, ↓reduceIte, Nat.zero_add]
  refine ACall.intro hp ?_
  simp only [ac_skip, ac_seq, ac_cond, ac_region, at_normal, ao_nil, ao_cons, if_f, as_call, as_alloc, as_store, as_move, as_assign, as_binOp, as_load, as_extract, segL, segA, u8A, u16A, u32A, i64, fr_false, List.contains_nil, beq_self_eq_true, decide_true, Bool.and_self, hk_some, hopG, rd, aopsD, heapF, frzW, frzR, constT, evT, lk, putT, binF, loadF, cellsF, ovw, argsF, okCell, constA, cellA, TK.isAgg, Value.oneCell', List.length_cons, List.length_nil, List.getElem?_cons_zero, List.getElem?_cons_succ, List.drop_zero, List.take_succ_cons, List.take_nil, List.set_cons_zero, List.set_cons_succ, List.nil_append, List.cons_append, List.all_cons, List.all_nil, Option.map_some, Nat.reduceAdd, Nat.reduceSub, Nat.reduceEqDiff, Nat.reduceLeDiff, true_and, and_self, eq_self, Bool.false_eq_true, Bool.not_true, ↓reduceIte, Nat.zero_add, Nat.le_refl, TT40, TT43, TT56]
  refine ACall.intro (spliceApply_a t s (by omega) (by omega)) ?_
  rw [← hx]
  simp only [ac_seq, ac_region, at_normal, ao_nil, ao_cons, as_call, as_alloc, as_store, as_move, as_buildSlice, segL, segA, u8A, u16A, u32A, fr_false, List.contains_nil, Nat.reduceBEq, beq_self_eq_true, Bool.and_self, hk_some, hopG, rd, aopsD, heapF, frzW, tlN, evT, lk, putT, cellsF, ovw, fillF, makeSF, partsF, argsF, okCell, Value.oneCell', List.length_cons, List.length_nil, List.getElem?_cons_zero, List.getElem?_cons_succ, List.set_cons_zero, List.set_cons_succ, List.nil_append, List.cons_append, List.replicate_succ, List.replicate_zero, List.flatten_cons, List.flatten_nil, List.append_nil, List.all_cons, List.all_nil, Option.map_some, Nat.reduceAdd, Nat.reduceSub, Nat.reduceEqDiff, Nat.reduceLeDiff, true_and, and_self, eq_self, reduceCtorEq, ↓reduceIte, Nat.mul_one, Nat.zero_add, Nat.zero_lt_succ, Nat.le_refl, TT38, TT40, TT143]
  refine ACall.intro (join_a [b] (by simp [small]; omega)) ?_
  simp only [hw1, hw2, hor, List.flatten_cons, List.flatten_nil, List.append_nil, ao_cons, as_call, as_binOp, as_convert, as_load, as_fieldAddr, Nat.reduceBEq, Int.cast_ofNat_Int, Int.reducePow, hk_some, hopG, rd, frzW, constT, evT, lk, putT, binF, convF, loadF, argsF, constA, cellA, TK.isAgg, IntKind.bits, List.getElem?_cons_zero, List.getElem?_cons_succ, List.drop_zero, List.drop_succ_cons, List.flatten_cons, List.flatten_nil, List.append_nil, Option.map_some, Nat.reduceSub, Nat.reduceEqDiff, Nat.succ_ne_zero, ne_eq, not_false_eq_true, true_and, and_self, eq_self, Bool.false_eq_true, ↓reduceIte, Int.reduceToNat, Int.reduceLE, Nat.zero_add, Nat.add_zero, TT22, TT23, TT40]
  refine ACall.intro (word_a b 0 (x.src * 65536 + x.dst) (by omega) h20 hl (by omega)) ?_
  simp only [ac_seq, ac_region, at_normal, ao_nil, ao_cons, as_call, as_move, as_assign, as_load, as_fieldAddr, fr_false, List.contains_nil, Nat.reduceBEq, hk_some, hopG, rd, aopsD, frzW, tlN, constT, evT, lk, putT, loadF, argsF, constA, cellA, TK.isAgg, List.length_cons, List.length_nil, List.getElem?_cons_zero, List.getElem?_cons_succ, List.drop_zero, List.drop_succ_cons, Option.map_some, Nat.reduceAdd, Nat.reduceSub, Nat.reduceEqDiff, Nat.reduceLeDiff, Nat.succ_ne_zero, ne_eq, not_false_eq_true, true_and, eq_self, Bool.false_eq_true, ↓reduceIte, Nat.zero_add, TT22, TT40]
  refine ACall.intro (word_a (wordB b 0 (x.src * 65536 + x.dst)) 4 x.seq (by omega) (by omega) (by omega) hxo.seq) ?_
  simp only [ao_cons, as_call, as_load, as_fieldAddr, Nat.reduceBEq, hk_some, hopG, rd, frzW, constT, evT, lk, putT, loadF, argsF, constA, cellA, TK.isAgg, List.getElem?_cons_zero, List.getElem?_cons_succ, List.drop_zero, List.drop_succ_cons, Option.map_some, Nat.reduceSub, Nat.reduceEqDiff, Nat.succ_ne_zero, ne_eq, not_false_eq_true, true_and, eq_self, Bool.false_eq_true, ↓reduceIte, Nat.zero_add, TT22, TT40]
  refine ACall.intro (word_a (wordB (wordB b 0 (x.src * 65536 + x.dst)) 4 x.seq) 8 x.ack (by omega) (by omega) (by omega) hxo.ack) ?_
  simp only [ac_seq, ac_region, at_normal, ao_nil, ao_cons, as_call, as_move, as_assign, fr_false, List.contains_nil, Nat.reduceBEq, beq_self_eq_true, rd, aopsD, frzW, frzR, constT, evT, lk, putT, argsF, constA, cellA, Option.map_some, Nat.reduceSub, Nat.reduceLeDiff, eq_self, Bool.false_eq_true, ↓reduceIte]
  refine ACall.intro (get16_a (spW b x) 16 (by omega)) ?_
  simp only [ac_seq, ac_region, at_normal, ao_nil, ao_cons, as_call, as_move, as_assign, as_load, as_fieldAddr, as_extract, u16A, boA, fr_false, List.contains_nil, Nat.reduceBEq, beq_self_eq_true, hk_some, hopG, rd, aopsD, frzW, tlN, evT, lk, putT, loadF, argsF, TK.isAgg, List.length_cons, List.length_nil, List.getElem?_cons_zero, List.getElem?_cons_succ, List.drop_zero, Option.map_some, Nat.reduceAdd, Nat.reduceSub, Nat.reduceEqDiff, Nat.reduceLeDiff, Nat.succ_ne_zero, ne_eq, not_false_eq_true, true_and, eq_self, Bool.false_eq_true, ↓reduceIte, Nat.zero_add, Nat.add_zero, TT22, TT43]
  refine ACall.intro (turn32_a (get16 (spW b x) 16) src t.src g1 h1 ht.src) ?_
  simp only [ao_cons, as_call, as_move, as_load, as_fieldAddr, u16A, Nat.reduceBEq, hk_some, hopG, rd, frzW, evT, lk, putT, loadF, argsF, TK.isAgg, List.getElem?_cons_zero, List.getElem?_cons_succ, List.drop_zero, List.drop_succ_cons, Option.map_some, Nat.reduceSub, Nat.reduceEqDiff, Nat.succ_ne_zero, ne_eq, not_false_eq_true, true_and, eq_self, reduceCtorEq, Bool.false_eq_true, ↓reduceIte, Nat.zero_add, TT22, TT43]
  refine ACall.intro (turn32_a (turn32 (get16 (spW b x) 16) src t.src) dst t.dst (turn32_bd _ _ _) h2 ht.dst) ?_
  simp only [ao_cons, as_call, u16A, Nat.reduceBEq, rd, frzW, constT, evT, lk, putT, argsF, constA, cellA, Option.map_some, Nat.reduceSub, Nat.reduceEqDiff, eq_self, ↓reduceIte]
  refine ACall.intro (set16_a (spW b x) 16 (turn32 (turn32 (get16 (spW b x) 16) src t.src) dst t.dst) (by omega) (by simp only [small]; omega) (turn32_bd _ _ _)) ?_
  simp only [ac_ret, ac_seq, ac_region, at_normal, ae_ret, ao_nil, ao_cons, as_move, as_assign, as_extract, boA, fr_false, List.contains_nil, Nat.reduceBEq, beq_self_eq_true, hk_some, hopG, rd, aopsD, constT, evT, lk, putT, resF, resL, constA, cellA, List.getElem?_cons_zero, List.getElem?_cons_succ, Option.map_some, Option.bind_some, Nat.reduceSub, Nat.reduceEqDiff, Nat.reduceLeDiff, true_and, and_true, eq_self, Bool.false_eq_true, ↓reduceIte]
  try rfl
set_option maxRecDepth 100000 in
theorem spBytes_no (src dst : Int) (b : List UInt8) (t : TurnN) (h1 : 0 ≤ src ∧ src ≤ 4294967295) (h2 : 0 ≤ dst ∧ dst ≤ 4294967295) (hl : b.length ≤ 1000000) (he : ¬ (tcpP src dst b).2 = 0) :
    ASpec Try.prog 50 [u32A src, u32A dst, .bs b, turnA t] (.tup [.bs [], i64 (tcpP src dst b).2]) := by
  refine ASpec.of_body TT_ok Try.mixed _ [.tmp 8, .tmp 9] ([], []) Try.func50 (by kernel_rfl) rfl rfl (by simp only [Try.ntmps50, List.length_cons, List.length_nil]; omega) rfl (by kernel_rfl) ?_
  simp only [argE_cons, argE_nil, ac_seq, ac_region, at_normal, ao_nil, ao_cons, as_call, as_box, as_move, as_assign, turnL, turnA, u16A, u32A, i64, fr_false, List.contains_nil, beq_self_eq_true, rd, aopsD, heapF, frzW, frzR, constT, evT, lk, putT, cellsF, argsF, constA, cellA, List.length_nil, List.nil_append, Option.map_some, Nat.reduceAdd, Nat.reduceSub, Nat.reduceEqDiff, Nat.reduceLeDiff, Nat.succ_ne_zero, true_and, eq_self, reduceCtorEq, Bool.false_eq_true, ↓reduceIte, Nat.zero_add]
  refine ACall.intro (tcpParse_a src dst b h1 h2 hl) ?_
  simp only [decide_eq_false he, ac_ret, ac_seq, ac_cond, ac_region, at_normal, at_ret, ae_ret, ao_nil, ao_cons, if_t, as_alloc, as_store, as_move, as_assign, as_binOp, as_extract, segL, segA, u8A, u16A, u32A, i64, fr_false, List.contains_nil, beq_self_eq_true, Bool.and_self, hk_some, hopG, rd, aopsD, heapF, constT, evT, lk, putT, binF, cellsF, ovw, okCell, resF, resL, constA, cellA, Value.oneCell', List.length_cons, List.length_nil, List.getElem?_cons_zero, List.getElem?_cons_succ, List.set_cons_zero, List.set_cons_succ, List.nil_append, List.cons_append, List.all_cons, List.all_nil, Option.map_some, Option.bind_some, Nat.reduceAdd, Nat.reduceSub, Nat.reduceEqDiff, Nat.reduceLeDiff, and_true, and_self, eq_self, Bool.false_eq_true, Bool.not_false, ↓reduceIte, Nat.zero_add, Nat.le_refl, TT40, TT56]
  try rfl
end Go.Proofs.Ythjojkkapboonaa
