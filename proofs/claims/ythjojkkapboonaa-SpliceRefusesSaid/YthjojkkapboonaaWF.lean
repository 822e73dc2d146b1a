/- The bytes of any segment, turned word by word; bytes that are no segment. -/
import Derived.Test.YthjojkkapboonaaWE
namespace Go.Proofs.Ythjojkkapboonaa
set_option linter.unusedSimpArgs false
set_option linter.unusedVariables false
open Go.RowKit

set_option maxRecDepth 100000 in
theorem spliceBytes_a (src dst : Int) (s : SegN) (t : TurnN) (h1 : 0 ≤ src ∧ src ≤ 4294967295) (h2 : 0 ≤ dst ∧ dst ≤ 4294967295) (hs : s.ok) (ht : t.ok) : ASpec Try.prog 11 [u32A src, u32A dst, segA s, turnA t] (boA true) := by
  obtain ⟨z, hz⟩ : ∃ z : SegN, z = { s with opts := s.opts.take 50, data := s.data.take 200 } := ⟨_, rfl⟩
  have hzo : z.ok := by subst hz; obtain ⟨k1, k2, k3, k4, k5, k6, k7, k8⟩ := hs; constructor <;> assumption
  have l1 : z.opts.length ≤ 50 := by subst hz; simp; omega
  have l2 : z.data.length ≤ 200 := by subst hz; simp; omega
  have lb : (tcpB src dst z).length = 20 + z.opts.length + z.data.length := segB_len _ _
  refine ASpec.of_body TT_ok Try.mixed _ [.tmp 8] ([], []) Try.func11 (by kernel_rfl) rfl rfl (by simp only [Try.ntmps11, List.length_cons, List.length_nil]; omega) rfl (by kernel_rfl) ?_
  simp only [argE_cons, argE_nil, ac_seq, ac_region, at_normal, ao_nil, ao_cons, as_call, as_box, as_assign, as_load, segL, segA, turnL, turnA, u8A, u16A, u32A, boA, fr_false, List.contains_nil, beq_self_eq_true, hk_some, hopG, rd, aopsD, heapF, frzW, frzR, constT, evT, lk, putT, loadF, cellsF, argsF, constA, cellA, TK.isAgg, List.length_cons, List.length_nil, List.getElem?_cons_zero, List.drop_zero, List.take_succ_cons, List.take_nil, List.nil_append, List.cons_append, Option.map_some, Nat.reduceAdd, Nat.reduceSub, Nat.reduceEqDiff, Nat.reduceLeDiff, true_and, eq_self, reduceCtorEq, Bool.false_eq_true, ↓reduceIte, Nat.zero_add, Nat.le_refl, TT40]
  refine ACall.intro (refFew09_a s) ?_
  rw [← hz]
  clear hz
  simp only [ac_seq, ac_region, at_normal, ao_nil, ao_cons, as_call, as_store, as_move, as_load, segL, segA, u8A, u16A, u32A, fr_false, List.contains_nil, beq_self_eq_true, Bool.and_self, hk_some, hopG, rd, aopsD, heapF, frzW, frzR, evT, lk, putT, loadF, cellsF, ovw, argsF, okCell, TK.isAgg, Value.oneCell', List.length_cons, List.length_nil, List.getElem?_cons_zero, List.drop_zero, List.take_succ_cons, List.take_nil, List.set_cons_zero, List.set_cons_succ, List.all_cons, List.all_nil, Option.map_some, Nat.reduceAdd, Nat.reduceSub, Nat.reduceEqDiff, Nat.reduceLeDiff, Nat.succ_ne_zero, true_and, and_self, eq_self, reduceCtorEq, Bool.false_eq_true, ↓reduceIte, Nat.zero_add, Nat.le_refl, TT40]
  cases hm : segMay z
  · refine ACall.intro (refPut09_no src dst z hzo hm (by omega) (by omega)) ?_
    simp only [ac_seq, ac_cond, ac_region, at_normal, ao_nil, ao_cons, if_t, as_call, as_move, as_assign, as_binOp, as_extract, i64, fr_false, List.contains_nil, beq_self_eq_true, decide_false, Int.reduceEq, hk_some, hopG, rd, aopsD, frzW, frzR, constT, evT, lk, putT, binF, argsF, constA, cellA, List.getElem?_cons_zero, List.getElem?_cons_succ, Option.map_some, Nat.reduceSub, Nat.reduceEqDiff, Nat.reduceLeDiff, true_and, eq_self, Bool.false_eq_true, Bool.not_false, ↓reduceIte, TT3]
    refine ACall.intro lives28_a ?_
    simp only [ac_ret, at_normal, at_ret, ae_ret, ao_nil, ao_cons, as_assign, boA, beq_self_eq_true, rd, evT, lk, putT, resF, resL, Option.map_some, Option.bind_some, Nat.reduceSub, and_true, and_self, eq_self, ↓reduceIte]
  · refine ACall.intro (refPut09_a src dst z hzo hm h1 h2) ?_
    simp only [ac_skip, ac_seq, ac_cond, ac_region, at_normal, ao_nil, ao_cons, if_f, as_call, as_move, as_assign, as_binOp, as_load, as_extract, i64, fr_false, List.contains_nil, beq_self_eq_true, decide_true, hk_some, hopG, rd, aopsD, frzW, frzR, constT, evT, lk, putT, binF, loadF, argsF, constA, cellA, TK.isAgg, List.length_cons, List.length_nil, List.getElem?_cons_zero, List.getElem?_cons_succ, List.drop_zero, List.take_succ_cons, List.take_nil, Option.map_some, Nat.reduceAdd, Nat.reduceSub, Nat.reduceEqDiff, Nat.reduceLeDiff, Nat.succ_ne_zero, true_and, eq_self, reduceCtorEq, Bool.false_eq_true, Bool.not_true, ↓reduceIte, Nat.zero_add, Nat.le_refl, TT3, TT43]
    refine ACall.intro (spBytes_a src dst (tcpB src dst z) t z h1 h2 ht (by omega) (by omega) hzo (by omega) (by omega) (tcpParse_B src dst z hzo hm h1 h2)) ?_
    rw [spB_law src dst z t hzo ht hm h1 h2]
    simp only [ac_seq, ac_region, at_normal, ao_nil, ao_cons, as_call, as_move, as_assign, as_load, as_fieldAddr, as_extract, i64, fr_false, List.contains_nil, Nat.reduceBEq, beq_self_eq_true, hk_some, hopG, rd, aopsD, frzW, tlN, evT, lk, putT, loadF, argsF, TK.isAgg, List.length_cons, List.length_nil, List.getElem?_cons_zero, List.getElem?_cons_succ, List.drop_zero, List.drop_succ_cons, List.take_succ_cons, List.take_nil, Option.map_some, Nat.reduceAdd, Nat.reduceSub, Nat.reduceEqDiff, Nat.reduceLeDiff, Nat.succ_ne_zero, ne_eq, not_false_eq_true, true_and, eq_self, Bool.false_eq_true, ↓reduceIte, Nat.zero_add, Nat.add_zero, Nat.le_refl, TT22, TT23, TT40, TT43]
    refine ACall.intro (ref28Apply_a t.sp t.dp t.seq t.ack z hzo) ?_
    simp only [ao_cons, as_call, segL, segA, u8A, u16A, u32A, Nat.reduceBEq, rd, frzW, evT, lk, putT, argsF, Option.map_some, Nat.reduceSub, Nat.reduceEqDiff, eq_self, ↓reduceIte]
    refine ACall.intro (refPut09_a t.src t.dst (shiftS t.sp t.dp t.seq t.ack z) (shift_ok _ _ _ _ z hzo ht.sp ht.dp) hm ht.src ht.dst) ?_
    simp only [ac_seq, ac_region, at_normal, ao_nil, ao_cons, ao_guard_t, st_at, pk_at, if_t, as_pick, as_call, as_move, as_assign, as_binOp, as_extract, i64, fr_false, List.contains_nil, Nat.reduceBEq, beq_self_eq_true, decide_true, hk_some, hopG, rd, aopsD, frzW, frzR, constT, evT, lk, putT, GV, gdst, binF, argsF, constA, cellA, List.getElem?_cons_zero, List.getElem?_cons_succ, Option.map_some, Nat.reduceSub, Nat.reduceEqDiff, Nat.reduceLeDiff, true_and, eq_self, Bool.false_eq_true, ↓reduceIte, TT3, TT56]
    refine ACall.intro (refSame_a _ _) ?_
    simp only [beq_self_eq_true, ao_cons, ao_guard_t, st_at, pk_at, if_t, as_pick, as_call, as_move, boA, beq_self_eq_true, frzW, frzR, evT, lk, putT, GV, gdst, argsF, Nat.reduceSub, Nat.reduceEqDiff, eq_self, ↓reduceIte]
    refine ACall.intro lives28_a ?_
    simp only [ac_ret, at_normal, ae_ret, ao_nil, ao_cons, pk_at, if_t, as_pick, as_assign, boA, beq_self_eq_true, rd, evT, lk, putT, resF, resL, Option.map_some, Option.bind_some, Nat.reduceSub, Nat.reduceEqDiff, and_true, and_self, eq_self, ↓reduceIte]

theorem put16_getW (b : List UInt8) (n : Nat) (h : n + 2 ≤ b.length) : put16 [get16 b n] = (b.drop n).take 2 := by
  have e : b.drop n = b.getD n 0 :: b.getD (n + 1) 0 :: b.drop (n + 2) := by
    rw [List.drop_eq_getElem_cons (by omega), List.drop_eq_getElem_cons (by omega)]
    simp [List.getD, show n < b.length by omega, show n + 1 < b.length by omega]
  rw [get16_bytes b n h, e]
  have h1 := byteN_bd b n
  have h2 := byteN_bd b (n + 1)
  have a1 := u8_toNat ((byteN b n * 256 + byteN b (n + 1)) / 256)
  have a2 := u8_toNat (byteN b n * 256 + byteN b (n + 1))
  simp only [List.take_succ_cons, List.take_zero, put16]
  rw [show u8 ((byteN b n * 256 + byteN b (n + 1)) / 256) = b.getD n 0 from UInt8.toNat_inj.1 (by unfold byteN at *; omega), show u8 (byteN b n * 256 + byteN b (n + 1)) = b.getD (n + 1) 0 from UInt8.toNat_inj.1 (by unfold byteN at *; omega)]
theorem get32_two (b : List UInt8) (n : Nat) (h : n + 4 ≤ b.length) : get32 b n = get16 b n * 65536 + get16 b (n + 2 : Nat) := by
  have hb : thereB b.length n 4 = true := thereB_iff.2 (by omega)
  have e : b.drop n = b.getD n 0 :: b.getD (n + 1) 0 :: b.getD (n + 2) 0 :: b.getD (n + 3) 0 :: b.drop (n + 4) := by
    rw [List.drop_eq_getElem_cons (by omega), List.drop_eq_getElem_cons (by omega), List.drop_eq_getElem_cons (by omega), List.drop_eq_getElem_cons (by omega)]
    simp [List.getD, show n < b.length by omega, show n + 1 < b.length by omega, show n + 1 + 1 < b.length by omega, show n + 1 + 1 + 1 < b.length by omega]
  rw [get32, if_pos hb, Int.toNat_natCast, e, get16_bytes b n (by omega), get16_bytes b (n + 2) (by omega), show n + 2 + 1 = n + 3 from rfl]
  have l1 := (b.getD n 0).toNat_lt
  have l2 := (b.getD (n + 1) 0).toNat_lt
  have l3 := (b.getD (n + 2) 0).toNat_lt
  have l4 := (b.getD (n + 3) 0).toNat_lt
  simp only [num, List.take_succ_cons, List.take_zero, List.foldl_cons, List.foldl_nil, byteN]
  omega
theorem put32_getW (b : List UInt8) (n : Nat) (h : n + 4 ≤ b.length) : put32 [get32 b n] = (b.drop n).take 4 := by
  have b1 := get16_bd b n
  have b2 := get16_bd b (n + 2 : Nat)
  rw [put32_halves, get32_two b n h, show (get16 b n * 65536 + get16 b (n + 2 : Nat)) / 65536 = get16 b n by omega, show (get16 b n * 65536 + get16 b (n + 2 : Nat)) % 65536 = get16 b (n + 2 : Nat) by omega, put16_getW b n (by omega), put16_getW b (n + 2) (by omega)]
  rw [show (4 : Nat) = 2 + 2 from rfl, List.take_add, List.drop_drop]
theorem bytes_words (b : List UInt8) (h : 20 ≤ b.length) : b = put32 [get32 b 0] ++ (put32 [get32 b 4] ++ (put32 [get32 b 8] ++ ((b.drop 12).take 4 ++ (put16 [get16 b 16] ++ b.drop 18)))) := by
  have e0 := put32_getW b 0 (by omega)
  have e1 := put32_getW b 4 (by omega)
  have e2 := put32_getW b 8 (by omega)
  have e3 := put16_getW b 16 (by omega)
  have f : ∀ n k, (b.drop n).take k ++ b.drop (n + k) = b.drop n := fun n k => by rw [← List.drop_drop]; exact List.take_append_drop _ _
  rw [show get32 b 0 = get32 b ((0 : Nat) : Int) from rfl, show get32 b 4 = get32 b ((4 : Nat) : Int) from rfl, show get32 b 8 = get32 b ((8 : Nat) : Int) from rfl, show get16 b 16 = get16 b ((16 : Nat) : Int) from rfl, e0, e1, e2, e3, f 16 2, f 12 4, f 8 4, f 4 4, f 0 4, List.drop_zero]
theorem byteN_app (a b : List UInt8) (k : Nat) (h : a.length ≤ k) : byteN (a ++ b) k = byteN b (k - a.length) := by
  unfold byteN
  simp [List.getD, List.getElem?_append_right h]
theorem byteN_drop (b : List UInt8) (n k : Nat) : byteN (b.drop n) k = byteN b (n + k) := by
  unfold byteN
  simp [List.getD]
theorem byteN_take (b : List UInt8) (n k : Nat) (h : k < n) : byteN (b.take n) k = byteN b k := by
  unfold byteN
  simp [List.getD, h]
theorem byteN_appl (a b : List UInt8) (k : Nat) (h : k < a.length) : byteN (a ++ b) k = byteN a k := by
  unfold byteN
  simp [List.getD, List.getElem?_append_left h]
/-- What is read of the bytes that were turned is the segment that was turned. -/
theorem spB_read (src dst : Int) (b : List UInt8) (t : TurnN) (ht : t.ok) (he : (tcpP src dst b).2 = 0)
    (hg : (tcpP t.src t.dst (spB src dst b t (shiftS t.sp t.dp t.seq t.ack (tcpP src dst b).1))).2 = 0) :
    (tcpP t.src t.dst (spB src dst b t (shiftS t.sp t.dp t.seq t.ack (tcpP src dst b).1))).1 = shiftS t.sp t.dp t.seq t.ack (tcpP src dst b).1 := by
  obtain ⟨k1, k2, k3, k4, k5⟩ := tcpP_0 src dst b he
  have hso := tcpP_ok src dst b he
  obtain ⟨s, hs⟩ : ∃ s, s = (tcpP src dst b).1 := ⟨_, rfl⟩
  rw [← hs] at k5 hso hg ⊢
  have hxo := shift_ok t.sp t.dp t.seq t.ack s hso ht.sp ht.dp
  obtain ⟨x, hx⟩ : ∃ x, x = shiftS t.sp t.dp t.seq t.ack s := ⟨_, rfl⟩
  have f1 : x.res = s.res := by subst hx; rfl
  have f2 : x.flags = s.flags := by subst hx; rfl
  have f3 : x.win = s.win := by subst hx; rfl
  have f4 : x.urg = s.urg := by subst hx; rfl
  have f5 : x.opts = s.opts := by subst hx; rfl
  have f6 : x.data = s.data := by subst hx; rfl
  rw [← hx] at hxo hg ⊢
  clear hx
  have xs := hxo.src
  have xd := hxo.dst
  obtain ⟨o, ho⟩ : ∃ o, o = spB src dst b t x := ⟨_, rfl⟩
  have hlen : o.length = b.length := ho ▸ spB_len src dst b t x k1
  rw [← ho] at hg ⊢
  have hm4 : ((b.drop 12).take 4).length = 4 := by simp; omega
  have hw := spB_mid src dst t x hxo (get32 b 0) (get32 b 4) (get32 b 8) (get16 b 16) ((b.drop 12).take 4) (b.drop 18) hm4 (get32_bdW _ _) (get32_bdW _ _) (get32_bdW _ _) (get16_bd _ _)
  rw [← bytes_words b k1, ← ho] at hw
  obtain ⟨C, hC⟩ : ∃ C, C = spC src dst t x (get32 b 0) (get32 b 4) (get32 b 8) (get16 b 16) := ⟨_, rfl⟩
  rw [← hC] at hw
  have hp : put32 [x.src * 65536 + x.dst] = put16 [x.src] ++ put16 [x.dst] := by
    rw [put32_halves, show (x.src * 65536 + x.dst) / 65536 = x.src by omega, show (x.src * 65536 + x.dst) % 65536 = x.dst by omega]
  have g0 : get16 o 0 = x.src := by
    rw [hw, hp, List.append_assoc]
    exact get16_at [] _ 0 x.src rfl xs
  have g2 : get16 o 2 = x.dst := by
    rw [hw, hp, List.append_assoc]
    exact get16_at (put16 [x.src]) _ 2 x.dst rfl xd
  have g4 : get32 o 4 = x.seq := by
    rw [hw]
    exact get32_at (put32 [x.src * 65536 + x.dst]) _ 4 x.seq rfl hxo.seq
  have g8 : get32 o 8 = x.ack := by
    have := get32_at (put32 [x.src * 65536 + x.dst] ++ put32 [x.seq]) ((b.drop 12).take 4 ++ (put16 [C] ++ b.drop 18)) 8 x.ack rfl hxo.ack
    rw [List.append_assoc] at this
    rw [hw]
    exact this
  have hbyte : ∀ k, 12 ≤ k → ¬ k = 16 → ¬ k = 17 → byteN o k = byteN b k := by
    intro k h1 h2 h3
    have e : o = (put32 [x.src * 65536 + x.dst] ++ (put32 [x.seq] ++ put32 [x.ack])) ++ ((b.drop 12).take 4 ++ (put16 [C] ++ b.drop 18)) := by rw [hw]; simp
    rw [e, byteN_app _ _ _ (by simp [length_put32]; omega), show (put32 [x.src * 65536 + x.dst] ++ (put32 [x.seq] ++ put32 [x.ack])).length = 12 by simp [length_put32]]
    by_cases h4 : k < 16
    · rw [byteN_appl _ _ _ (by omega), byteN_take _ _ _ (by omega), byteN_drop, show 12 + (k - 12) = k by omega]
    · rw [byteN_app _ _ _ (by omega), hm4, byteN_app _ _ _ (by simp [length_put16]; omega), show (put16 [C]).length = 2 by simp [length_put16], byteN_drop, show 18 + (k - 12 - 4 - 2) = k by omega]
  have hdrop : ∀ n, 18 ≤ n → o.drop n = b.drop n := by
    intro n h1
    have e : o = (put32 [x.src * 65536 + x.dst] ++ (put32 [x.seq] ++ (put32 [x.ack] ++ ((b.drop 12).take 4 ++ put16 [C])))) ++ b.drop 18 := by rw [hw]; simp
    have l18 : (put32 [x.src * 65536 + x.dst] ++ (put32 [x.seq] ++ (put32 [x.ack] ++ ((b.drop 12).take 4 ++ put16 [C])))).length = 18 := by simp [length_put32, length_put16]; omega
    rw [e, List.drop_append, l18, List.drop_eq_nil_of_le (by omega), List.nil_append, List.drop_drop, show 18 + (n - 18) = n by omega]
  have h16 : ∀ k, 12 ≤ k → ¬ k = 16 → ¬ k = 17 → ¬ k + 1 = 16 → k + 2 ≤ b.length → get16 o k = get16 b k := by
    intro k h1 h2 h3 h4 h5
    rw [get16_bytes o k (by omega), get16_bytes b k (by omega), hbyte k h1 h2 h3, hbyte (k + 1) (by omega) (by omega) (by omega)]
  have r14 : get16 o 14 = get16 b 14 := h16 14 (by omega) (by omega) (by omega) (by omega) (by omega)
  have r18 : get16 o 18 = get16 b 18 := h16 18 (by omega) (by omega) (by omega) (by omega) (by omega)
  have c20 : cutB o 20 (byteN b 12 / 16 * 4 - 20) = cutB b 20 (byteN b 12 / 16 * 4 - 20) := by
    rw [cutB, cutB, hlen, show (20 : Int).toNat = 20 from rfl, hdrop 20 (by omega)]
  obtain ⟨q1, q2, q3, q4, q5⟩ := tcpP_0 t.src t.dst o hg
  rw [q5, g0, g2, g4, g8, hbyte 12 (by omega) (by omega) (by omega), hbyte 13 (by omega) (by omega) (by omega), r14, r18, c20, hdrop _ (by omega)]
  have e1 : byteN b 12 % 16 = x.res := by rw [f1, k5]
  have e2 : byteN b 13 = x.flags := by rw [f2, k5]
  have e3 : get16 b 14 = x.win := by rw [f3, k5]
  have e4 : get16 b 18 = x.urg := by rw [f4, k5]
  have e5 : cutB b 20 (byteN b 12 / 16 * 4 - 20) = x.opts := by rw [f5, k5]
  have e6 : b.drop (byteN b 12 / 16 * 4).toNat = x.data := by rw [f6, k5]
  rw [e1, e2, e3, e4, e5, e6]
set_option maxRecDepth 100000 in
theorem spliceRefuses_a (src dst : Int) (l : List UInt8) (t : TurnN) (h1 : 0 ≤ src ∧ src ≤ 4294967295) (h2 : 0 ≤ dst ∧ dst ≤ 4294967295) (ht : t.ok) : ASpec Try.prog 12 [u32A src, u32A dst, .bs l, turnA t] (boA true) := by
  have h3 : (l.take 200).length ≤ 200 := by simp; omega
  refine ASpec.of_body TT_ok Try.mixed _ [.tmp 8] ([], []) Try.func12 (by kernel_rfl) rfl rfl (by simp only [Try.ntmps12, List.length_cons, List.length_nil]; omega) rfl (by kernel_rfl) ?_
  simp only [argE_cons, argE_nil, ac_seq, ac_region, at_normal, ao_nil, ao_cons, as_call, as_box, as_move, as_assign, turnL, turnA, u16A, u32A, boA, fr_false, List.contains_nil, beq_self_eq_true, rd, aopsD, heapF, frzW, frzR, constT, evT, lk, putT, cellsF, argsF, constA, cellA, List.length_nil, List.nil_append, Option.map_some, Nat.reduceAdd, Nat.reduceSub, Nat.reduceEqDiff, Nat.reduceLeDiff, true_and, eq_self, reduceCtorEq, Bool.false_eq_true, ↓reduceIte, Nat.zero_add]
  refine ACall.intro (few_a l 200) ?_
  generalize l.take 200 = b at *
  simp only [ac_seq, ac_region, at_normal, ao_nil, ao_cons, as_call, as_move, as_assign, as_load, fr_false, List.contains_nil, beq_self_eq_true, hk_some, hopG, rd, aopsD, frzW, frzR, evT, lk, putT, loadF, argsF, TK.isAgg, List.length_cons, List.length_nil, List.getElem?_cons_zero, List.drop_zero, List.take_succ_cons, List.take_nil, Option.map_some, Nat.reduceAdd, Nat.reduceSub, Nat.reduceEqDiff, Nat.reduceLeDiff, Nat.succ_ne_zero, true_and, eq_self, reduceCtorEq, Bool.false_eq_true, ↓reduceIte, Nat.zero_add, Nat.le_refl, TT43]
  cases he : decide ((tcpP src dst b).2 = 0)
  · rw [dF] at he
    refine ACall.intro (spBytes_no src dst b t h1 h2 (by omega) he) ?_
    simp only [ac_seq, ac_region, at_normal, ao_nil, ao_cons, as_call, as_move, as_assign, as_extract, i64, fr_false, List.contains_nil, beq_self_eq_true, hk_some, hopG, rd, aopsD, frzW, frzR, evT, lk, putT, argsF, List.getElem?_cons_zero, List.getElem?_cons_succ, Option.map_some, Nat.reduceSub, Nat.reduceEqDiff, Nat.reduceLeDiff, Nat.succ_ne_zero, true_and, eq_self, reduceCtorEq, Bool.false_eq_true, ↓reduceIte]
    refine ACall.intro (refParse09_a src dst b h1 h2 (by omega)) ?_
    simp only [decide_eq_false he, ac_seq, ac_cond, ac_region, at_normal, ao_nil, ao_cons, ao_guard_t, st_at, pk_at, if_t, as_pick, as_call, as_alloc, as_store, as_move, as_assign, as_binOp, as_extract, as_len, segL, segA, u8A, u16A, u32A, i64, fr_false, List.contains_nil, beq_self_eq_true, Int.cast_ofNat_Int, decide_true, Bool.and_self, hk_some, hopG, hopF, rd, aopsD, heapF, frzW, frzR, constT, evT, lk, putT, GV, gdst, lenF, binF, cellsF, ovw, argsF, okCell, constA, cellA, Value.oneCell', List.length_cons, List.length_nil, List.getElem?_cons_zero, List.getElem?_cons_succ, List.set_cons_zero, List.set_cons_succ, List.nil_append, List.cons_append, List.all_cons, List.all_nil, Option.map_some, Nat.reduceAdd, Nat.reduceSub, Nat.reduceEqDiff, Nat.reduceLeDiff, true_and, and_self, eq_self, Bool.false_eq_true, Bool.not_false, ↓reduceIte, Nat.zero_add, Nat.le_refl, TT3, TT38, TT40]
    refine ACall.intro lives28_a ?_
    simp only [ac_ret, at_normal, at_ret, ae_ret, ao_nil, ao_cons, pk_at, if_t, as_pick, as_assign, boA, beq_self_eq_true, rd, evT, lk, putT, resF, resL, Option.map_some, Option.bind_some, Nat.reduceSub, Nat.reduceEqDiff, and_true, and_self, eq_self, ↓reduceIte]
  · rw [dT] at he
    have hk := tcpP_0 src dst b he
    have hln := tcpP_lens src dst b he
    have hso := tcpP_ok src dst b he
    have hpar := tcpParse_a src dst b h1 h2 (by omega)
    rw [he] at hpar
    have hlo := spB_len src dst b t (shiftS t.sp t.dp t.seq t.ack (tcpP src dst b).1) hk.1
    have hrd := spB_read src dst b t ht he
    refine ACall.intro (spBytes_a src dst b t (tcpP src dst b).1 h1 h2 ht (by omega) hk.1 hso (by omega) (by omega) hpar) ?_
    simp only [ac_seq, ac_region, at_normal, ao_nil, ao_cons, as_call, as_move, as_assign, as_extract, i64, fr_false, List.contains_nil, beq_self_eq_true, hk_some, hopG, rd, aopsD, frzW, frzR, evT, lk, putT, argsF, List.getElem?_cons_zero, List.getElem?_cons_succ, Option.map_some, Nat.reduceSub, Nat.reduceEqDiff, Nat.reduceLeDiff, Nat.succ_ne_zero, true_and, eq_self, reduceCtorEq, Bool.false_eq_true, ↓reduceIte]
    refine ACall.intro (refParse09_a src dst b h1 h2 (by omega)) ?_
    rw [he]
    obtain ⟨o, ho⟩ : ∃ o, o = spB src dst b t (shiftS t.sp t.dp t.seq t.ack (tcpP src dst b).1) := ⟨_, rfl⟩
    rw [← ho] at hlo hrd ⊢
    simp only [ac_skip, ac_seq, ac_cond, ac_region, at_normal, ao_nil, ao_cons, if_f, as_call, as_alloc, as_store, as_move, as_assign, as_binOp, as_load, as_fieldAddr, as_extract, segL, segA, u8A, u16A, u32A, i64, fr_false, List.contains_nil, beq_self_eq_true, decide_true, Bool.and_self, hk_some, hopG, rd, aopsD, heapF, frzW, frzR, constT, evT, lk, putT, binF, loadF, cellsF, ovw, argsF, okCell, constA, cellA, TK.isAgg, Value.oneCell', List.length_cons, List.length_nil, List.getElem?_cons_zero, List.getElem?_cons_succ, List.drop_zero, List.drop_succ_cons, List.set_cons_zero, List.set_cons_succ, List.nil_append, List.cons_append, List.all_cons, List.all_nil, Option.map_some, Nat.reduceAdd, Nat.reduceSub, Nat.reduceEqDiff, Nat.reduceLeDiff, Nat.succ_ne_zero, ne_eq, not_false_eq_true, true_and, and_self, eq_self, Bool.false_eq_true, Bool.not_true, ↓reduceIte, Nat.zero_add, Nat.add_zero, Nat.le_refl, TT3, TT22, TT40, TT43]
    refine ACall.intro (refParse09_a t.src t.dst o ht.src ht.dst (by omega)) ?_
    cases hg : decide ((tcpP t.src t.dst o).2 = 0)
    · simp only [hg, hlo, ac_seq, ac_region, at_normal, ao_nil, ao_cons, ao_guard_t, ao_guard_f, st_at, sk_at, pk_at, if_t, as_pick, as_call, as_alloc, as_store, as_move, as_assign, as_binOp, as_extract, as_len, segL, segA, u8A, u16A, u32A, i64, fr_false, List.contains_nil, Nat.reduceBEq, beq_self_eq_true, decide_true, Bool.and_self, hk_some, hopG, hopF, rd, aopsD, heapF, frzW, tlN, constT, evT, lk, putT, GV, gdst, lenF, binF, cellsF, ovw, argsF, okCell, constA, cellA, Value.oneCell', List.length_cons, List.length_nil, List.getElem?_cons_zero, List.getElem?_cons_succ, List.set_cons_zero, List.set_cons_succ, List.nil_append, List.cons_append, List.all_cons, List.all_nil, Option.map_some, Nat.reduceAdd, Nat.reduceSub, Nat.reduceEqDiff, Nat.reduceLeDiff, true_and, and_self, eq_self, Bool.not_false, ↓reduceIte, Nat.zero_add, Nat.le_refl, TT3, TT38, TT40, TT56]
      refine ACall.intro lives28_a ?_
      simp only [ac_ret, at_normal, ae_ret, ao_nil, ao_cons, pk_at, if_t, as_pick, as_assign, boA, Nat.reduceBEq, rd, evT, lk, putT, resF, resL, Option.map_some, Option.bind_some, Nat.reduceSub, Nat.reduceEqDiff, and_true, and_self, eq_self, ↓reduceIte]
    · simp only [hg, hlo, ac_seq, ac_region, at_normal, ao_nil, ao_cons, ao_guard_t, ao_guard_f, st_at, pk_at, if_t, if_f, as_pick, as_call, as_alloc, as_store, as_move, as_assign, as_binOp, as_load, as_fieldAddr, as_extract, as_len, segL, segA, u8A, u16A, u32A, i64, fr_false, List.contains_nil, Nat.reduceBEq, beq_self_eq_true, decide_true, Bool.and_self, hk_some, hopG, hopF, rd, aopsD, heapF, frzW, tlN, constT, evT, lk, putT, GV, gdst, lenF, binF, loadF, cellsF, ovw, argsF, okCell, constA, cellA, TK.isAgg, Value.oneCell', List.length_cons, List.length_nil, List.getElem?_cons_zero, List.getElem?_cons_succ, List.drop_zero, List.drop_succ_cons, List.take_succ_cons, List.take_nil, List.set_cons_zero, List.set_cons_succ, List.nil_append, List.cons_append, List.all_cons, List.all_nil, Option.map_some, Nat.reduceAdd, Nat.reduceSub, Nat.reduceEqDiff, Nat.reduceLeDiff, Nat.succ_ne_zero, ne_eq, not_false_eq_true, true_and, and_self, eq_self, Bool.false_eq_true, Bool.not_true, ↓reduceIte, Nat.zero_add, Nat.le_refl, TT3, TT22, TT23, TT38, TT40, TT43, TT56]
      rw [dT] at hg
      refine ACall.intro (ref28Apply_a t.sp t.dp t.seq t.ack (tcpP src dst b).1 hso) ?_
      rw [hrd hg]
      simp only [ao_guard_f, st_at, if_f, as_call, segL, segA, u8A, u16A, u32A, Nat.reduceBEq, rd, frzW, evT, lk, putT, GV, gdst, argsF, Option.map_some, Nat.reduceSub, Nat.reduceEqDiff, eq_self, ↓reduceIte]
      refine ACall.intro (refSame09_self _) ?_
      simp only [ao_cons, ao_guard_t, st_at, pk_at, if_t, if_f, as_pick, as_call, as_move, boA, Nat.reduceBEq, frzW, evT, lk, putT, GV, gdst, argsF, Nat.reduceSub, Nat.reduceEqDiff, eq_self, ↓reduceIte]
      refine ACall.intro lives28_a ?_
      simp only [ac_ret, at_normal, ae_ret, ao_nil, ao_cons, pk_at, if_t, as_pick, as_assign, boA, Nat.reduceBEq, rd, evT, lk, putT, resF, resL, Option.map_some, Option.bind_some, Nat.reduceSub, Nat.reduceEqDiff, and_true, and_self, eq_self, ↓reduceIte]
end Go.Proofs.Ythjojkkapboonaa
