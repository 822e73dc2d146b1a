/- The statements of quote: their own texts. -/
import Derived.Test.YtafajmnlknmfiaaQB
namespace Go.Proofs.Ytafajmnlknmfiaa
set_option linter.unusedSimpArgs false
set_option linter.unusedVariables false
open Go.RowKit

theorem quO_B (p : PktN) (t : Int) (hp : p.ok) (hm : pktMay p = true) (ho : p.opts = []) (ht : t = 3 ∨ t = 11 ∨ t = 12) : quO t ((ipB p).take 28) = flowP p := by
  have hP := ipP_B p [] hp hm
  rw [List.append_nil] at hP
  have hbl := ipB_len p
  obtain ⟨b, hb⟩ : ∃ b, b = ipB p := ⟨_, rfl⟩
  rw [← hb] at hP hbl ⊢
  rw [ho] at hbl
  simp only [List.length_nil, Nat.add_zero] at hbl
  have h20 : (ipHd b).2.2 = 0 := by
    have h2 := congrArg Prod.snd hP
    rw [ipP] at h2
    split at h2
    · assumption
    · exact h2
  rcases ipHd_cases b with hc | ⟨h0, h1, h2, h3, h4, h5, h6, h7, h8, h9, h10⟩
  · omega
  have hP1 := congrArg Prod.fst hP
  rw [ipP, if_pos h20] at hP1
  simp only at hP1
  have r4 : decide (get16 b 6 / 8192 % 2 = 1) = p.mf := congrArg PktN.mf hP1
  have r5 : get16 b 6 % 8192 = p.off := congrArg PktN.off hP1
  have r7 : byteN b 9 = p.proto := congrArg PktN.proto hP1
  have r8 : get32 b 12 = p.src := congrArg PktN.src hP1
  have r9 : get32 b 16 = p.dst := congrArg PktN.dst hP1
  have r10 : cutB b 20 ((ipHd b).1 - 20) = p.opts := congrArg PktN.opts hP1
  have r11 : cutB b (ipHd b).1 ((ipHd b).2.1 - (ipHd b).1) = p.data := congrArg PktN.data hP1
  have n2 := get16_bd b 2
  have hsz : (ipHd b).1 = 20 := by
    obtain ⟨k, hk⟩ : ∃ k : Nat, (ipHd b).1 - 20 = (k : Int) := ⟨((ipHd b).1 - 20).toNat, by omega⟩
    have := cutB_nat b 20 k (by omega)
    rw [hk] at r10
    rw [show ((20 : Nat) : Int) = 20 from rfl] at this
    rw [this, ho] at r10
    have hl := congrArg List.length r10
    simp at hl
    omega
  have hal : (ipHd b).2.1 = b.length := by
    obtain ⟨k, hk⟩ : ∃ k : Nat, (ipHd b).2.1 - (ipHd b).1 = (k : Int) := ⟨((ipHd b).2.1 - (ipHd b).1).toNat, by omega⟩
    have := cutB_nat b 20 k (by omega)
    rw [hk, hsz] at r11
    rw [show ((20 : Nat) : Int) = 20 from rfl] at this
    rw [this] at r11
    have hl := congrArg List.length r11
    simp at hl
    omega
  have hdat : p.data = b.drop 20 := by
    rw [hal, hsz] at r11
    have := cutB_nat b 20 (b.length - 20) (by omega)
    rw [show ((20 : Nat) : Int) = 20 from rfl, show ((b.length - 20 : Nat) : Int) = (b.length : Int) - 20 by omega] at this
    rw [this, List.take_of_length_le (by simp)] at r11
    exact r11.symm
  obtain ⟨m, hm2⟩ : ∃ m, m = b.take 28 := ⟨_, rfl⟩
  have hml : m.length = if 28 < b.length then 28 else b.length := by rw [hm2]; simp; split <;> omega
  have hml20 : 20 ≤ m.length := by rw [hml]; split <;> omega
  have hmb : ∀ i, i < 28 → byteN m i = byteN b i := fun i hi => by rw [hm2]; exact byteN_take b _ i hi
  have q0 := hmb 0 (by omega)
  have q9 := hmb 9 (by omega)
  have q6 : get16 m 6 = get16 b 6 := get16_congr (k := 6) (by omega) (by omega) (hmb 6 (by omega)) (hmb 7 (by omega))
  have q12 : get32 m 12 = get32 b 12 := get32_congr (k := 12) (by omega) (by omega) (fun i _ _ => hmb i (by omega))
  have q16 : get32 m 16 = get32 b 16 := get32_congr (k := 16) (by omega) (by omega) (fun i _ _ => hmb i (by omega))
  have hn : 4 * (byteN b 0 - 64) = 20 := by omega
  have hones : onesF (m.take 20) = 65535 := by
    rw [hsz] at h7
    have : m.take 20 = b.take 20 := by rw [hm2, List.take_take]; rfl
    rw [this]
    exact h7
  have hD : cutB m 20 (if 4 < (m.length : Int) - 20 then 4 else (m.length : Int) - 20) = p.data.take 4 := by
    have := cutB_nat m 20 (if 4 < m.length - 20 then 4 else m.length - 20) (by split <;> omega)
    rw [show ((20 : Nat) : Int) = 20 from rfl] at this
    have e : ((if 4 < m.length - 20 then 4 else m.length - 20 : Nat) : Int) = if 4 < (m.length : Int) - 20 then 4 else (m.length : Int) - 20 := by split <;> split <;> omega
    rw [e] at this
    rw [this, hdat, hm2]
    rw [List.drop_take, List.take_take]
    by_cases h8 : 8 ≤ b.length - 20
    · rw [show (if 4 < (List.take 28 b).length - 20 then 4 else (List.take 28 b).length - 20) = 4 by simp; omega]
      rfl
    · have hl : (List.take 28 b).length = b.length := by simp; omega
      rw [hl]
      by_cases h4 : 4 < b.length - 20
      · rw [if_pos h4]; rfl
      · rw [if_neg h4, List.take_of_length_le (by simp; omega), List.take_of_length_le (by simp; omega)]
  have hQ : quP m = (⟨0, 0, false, p.mf, p.off, 0, p.proto, p.src, p.dst, [], p.data.take 4⟩, 0) := by
    rw [quP, if_neg (by omega), q0, if_neg (by omega), hn, if_neg (by omega), show (20 : Int).toNat = 20 from rfl, if_neg (by simpa using hones), q6, q9, q12, q16, r4, r5, r7, r8, r9, hD]
  have hT : (decide (t = 3) || (decide (t = 11) || decide (t = 12))) = true := by
    simp only [Bool.or_eq_true, decide_eq_true_eq]; omega
  rw [← hm2, quO, if_pos hT, hQ, if_pos rfl]
  simp only [flowP]
  by_cases hl : 4 ≤ p.data.length
  · have t1 : thereB (p.data.take 4).length 2 2 = true := thereB_iff.2 (by simp; omega)
    have t2 : thereB p.data.length 2 2 = true := thereB_iff.2 (by omega)
    have g0 := get16_take p.data 4 0 (by omega) hl
    have g2 := get16_take p.data 4 2 (by omega) hl
    rw [show ((0 : Nat) : Int) = 0 from rfl] at g0
    rw [show ((2 : Nat) : Int) = 2 from rfl] at g2
    rw [t1, t2, g0, g2]
  · rw [List.take_of_length_le (by omega)]
def pkt12 : PktN := ⟨0, 0, false, false, 0, 0, 6, 1, 2, [], [u8 0, u8 10, u8 0, u8 20]⟩
theorem pkt12_ok : pkt12.ok := by constructor <;> simp [pkt12]
set_option maxRecDepth 100000 in
theorem lives12_a : ASpec Try.prog 96 [] (boA true) := by
  have hl : (ipB pkt12).length = 24 := by rw [ipB_len]; rfl
  have hQ : quO 3 ((ipB pkt12).take 28) = (⟨1, 2, 10, 20, 6⟩, 0) := by
    rw [quO_B pkt12 3 pkt12_ok rfl rfl (by omega)]
    rfl
  have hQ8 : quO 8 (ipB pkt12) = (flow0, 10) := by
    rw [quO, if_neg (by decide)]
  refine ASpec.of_body TT_ok Try.mixed _ [.tmp 0] ([], []) Try.func96 (by kernel_rfl) rfl rfl (by simp only [Try.ntmps96, List.length_nil]; omega) rfl (by kernel_rfl) ?_
  simp only [argE_nil, ac_seq, ac_region, at_normal, ao_nil, ao_cons, as_call, as_assign, as_build, as_buildSlice, boA, fr_false, List.contains_nil, beq_self_eq_true, hk_some, hopG, rd, aopsD, frzW, frzR, constT, evT, lk, putT, cellsF, ovw, fillF, buildF, bytesOf, makeSF, partsF, argsF, constA, cellA, Value.oneCell', List.length_cons, List.length_nil, List.getElem?_cons_zero, List.getElem?_cons_succ, List.set_cons_zero, List.set_cons_succ, List.nil_append, List.cons_append, List.replicate_succ, List.replicate_zero, List.flatten_cons, List.flatten_nil, List.append_nil, Option.map_some, Nat.reduceAdd, Nat.reduceSub, Nat.reduceLeDiff, true_and, and_self, eq_self, Bool.false_eq_true, ↓reduceIte, Int.reduceLE, Nat.mul_one, Nat.zero_add, Nat.le_refl, TT5, TT38, TT92]
  refine ACall.intro (ipPut_a pkt12 pkt12_ok rfl) ?_
  simp only [ac_seq, ac_region, at_normal, ao_nil, ao_cons, as_call, as_move, as_assign, as_extract, i64, fr_false, List.contains_nil, beq_self_eq_true, hk_some, hopG, rd, aopsD, frzW, frzR, constT, evT, lk, putT, argsF, constA, cellA, List.getElem?_cons_zero, List.getElem?_cons_succ, Option.map_some, Nat.reduceSub, Nat.reduceEqDiff, Nat.reduceLeDiff, true_and, eq_self, Bool.false_eq_true, ↓reduceIte]
  refine ACall.intro (failed_a 3 1 0 (ipB pkt12) (by simp only [small]; omega)) ?_
  simp only [ao_cons, as_call, icmpA, u8A, u32A, beq_self_eq_true, rd, frzW, frzR, evT, lk, putT, argsF, Option.map_some, Nat.reduceSub, eq_self, ↓reduceIte]
  have h1 := quoteOf_a 3 1 0 ((ipB pkt12).take 28) (by simp; omega)
  have h2 := quoteOf_a 8 0 0 (ipB pkt12) (by omega)
  rw [hQ] at h1
  rw [hQ8] at h2
  generalize ipB pkt12 = B at *
  refine ACall.intro h1 ?_
  simp only [ac_seq, ac_region, at_normal, ao_nil, ao_cons, as_call, as_alloc, as_store, as_move, as_assign, as_extract, as_build, flowL, flowA, u8A, u16A, u32A, i64, fr_false, List.contains_nil, beq_self_eq_true, Bool.and_self, hk_some, hopG, rd, aopsD, heapF, frzW, frzR, constT, evT, lk, putT, cellsF, ovw, fillF, buildF, partsF, argsF, okCell, constA, cellA, Value.oneCell', List.length_cons, List.length_nil, List.getElem?_cons_zero, List.getElem?_cons_succ, List.set_cons_zero, List.set_cons_succ, List.nil_append, List.all_cons, List.all_nil, Option.map_some, Nat.reduceAdd, Nat.reduceSub, Nat.reduceEqDiff, Nat.reduceLeDiff, true_and, and_self, eq_self, Bool.false_eq_true, ↓reduceIte, Nat.zero_add, Nat.le_refl, TT25, TT134]
  refine ACall.intro h2 ?_
  simp only [flow0, ac_ret, ac_seq, ac_region, at_normal, ae_ret, ao_nil, ao_cons, ao_guard_t, st_at, pk_at, if_t, as_pick, as_alloc, as_store, as_move, as_assign, as_binOp, as_load, as_extract, as_build, flowL, flowA, u8A, u16A, u32A, i64, fr_false, List.contains_nil, beq_self_eq_true, decide_true, Bool.and_self, hk_some, hopG, rd, aopsD, heapF, constT, evT, lk, putT, GV, gdst, binF, loadF, cellsF, ovw, fillF, buildF, intsK, partsF, okCell, resF, resL, constA, cellA, TK.isAgg, Value.oneCell', List.length_cons, List.length_nil, List.getElem?_cons_zero, List.getElem?_cons_succ, List.drop_zero, List.take_succ_cons, List.take_nil, List.set_cons_zero, List.set_cons_succ, List.nil_append, List.cons_append, List.all_cons, List.all_nil, Option.map_some, Option.bind_some, Nat.reduceAdd, Nat.reduceSub, Nat.reduceEqDiff, Nat.reduceLeDiff, and_true, and_self, eq_self, Bool.false_eq_true, ↓reduceIte, Nat.zero_add, Nat.le_refl, TT25, TT61]
set_option maxRecDepth 100000 in
theorem quoteOfLaw_a (t c r : Int) (l : List UInt8) : ASpec Try.prog 21 [icmpA t c r l] (boA true) := by
  have h3 : (l.take 200).length ≤ 200 := by simp; omega
  have he : IntKind.i64.wrap (quO t (l.take 200)).2 = (quO t (l.take 200)).2 := by
    have h := fun (p : PktN) => show (flowP p).2 = 0 ∨ (flowP p).2 = 11 ∨ (flowP p).2 = 3 ∨ (flowP p).2 = 4 by
      unfold flowP
      split
      · simp
      · split
        · simp
        · split <;> simp
    have hq : (quP (l.take 200)).2 = 0 ∨ (quP (l.take 200)).2 = 3 ∨ (quP (l.take 200)).2 = 4 ∨ (quP (l.take 200)).2 = 5 := by
      unfold quP
      split
      · simp
      · split
        · simp
        · split
          · simp
          · split <;> simp
    unfold quO
    split
    · split
      · have := h (quP (l.take 200)).1
        exact i64_in (by omega) (by omega)
      · exact i64_in (by simp only; omega) (by simp only; omega)
    · rfl
  refine ASpec.of_body TT_ok Try.mixed _ [.tmp 2] ([], []) Try.func21 (by kernel_rfl) rfl rfl (by simp only [Try.ntmps21, List.length_cons, List.length_nil]; omega) rfl (by kernel_rfl) ?_
  simp only [argE_cons, argE_nil, ac_seq, ac_region, at_normal, ao_nil, ao_cons, as_call, as_box, as_assign, as_load, icmpA, u8A, u32A, boA, fr_false, List.contains_nil, beq_self_eq_true, hk_some, hopG, rd, aopsD, heapF, frzW, frzR, constT, evT, lk, putT, loadF, cellsF, argsF, constA, cellA, TK.isAgg, List.length_cons, List.length_nil, List.getElem?_cons_zero, List.drop_zero, List.take_succ_cons, List.take_nil, List.nil_append, Option.map_some, Nat.reduceAdd, Nat.reduceSub, Nat.reduceEqDiff, Nat.reduceLeDiff, true_and, eq_self, Bool.false_eq_true, ↓reduceIte, Nat.zero_add, Nat.le_refl, TT134]
  refine ACall.intro (refFew07_a t c r l) ?_
  generalize l.take 200 = m at *
  simp only [ac_seq, ac_region, at_normal, ao_nil, ao_cons, as_call, as_store, as_load, icmpA, u8A, u32A, fr_false, List.contains_nil, beq_self_eq_true, Bool.and_self, hk_some, hopG, rd, aopsD, heapF, frzW, frzR, evT, lk, putT, loadF, cellsF, ovw, argsF, okCell, TK.isAgg, Value.oneCell', List.length_cons, List.length_nil, List.getElem?_cons_zero, List.drop_zero, List.take_succ_cons, List.take_nil, List.set_cons_zero, List.set_cons_succ, List.all_cons, List.all_nil, Option.map_some, Nat.reduceAdd, Nat.reduceSub, Nat.reduceEqDiff, Nat.reduceLeDiff, true_and, and_self, eq_self, Bool.false_eq_true, ↓reduceIte, Nat.zero_add, Nat.le_refl, TT134]
  refine ACall.intro (quoteOf_a t c r m (by omega)) ?_
  simp only [ac_seq, ac_region, at_normal, ao_nil, ao_cons, as_call, as_alloc, as_store, as_move, as_assign, as_load, as_extract, flowL, flowA, u8A, u16A, u32A, i64, fr_false, List.contains_nil, beq_self_eq_true, Bool.and_self, hk_some, hopG, rd, aopsD, heapF, frzW, frzR, evT, lk, putT, loadF, cellsF, ovw, argsF, okCell, TK.isAgg, Value.oneCell', List.length_cons, List.length_nil, List.getElem?_cons_zero, List.getElem?_cons_succ, List.drop_zero, List.take_succ_cons, List.take_nil, List.set_cons_zero, List.set_cons_succ, List.nil_append, List.cons_append, List.all_cons, List.all_nil, Option.map_some, Nat.reduceAdd, Nat.reduceSub, Nat.reduceEqDiff, Nat.reduceLeDiff, true_and, and_self, eq_self, Bool.false_eq_true, ↓reduceIte, Nat.zero_add, Nat.le_refl, TT25, TT134]
  refine ACall.intro (refQuote_a t c r m (by omega)) ?_
  generalize quO t m = q at *
  obtain ⟨⟨f1, f2, f3, f4, f5⟩, e⟩ := q
  simp only at he
  simp only [ac_seq, ac_region, at_normal, ao_nil, ao_cons, ao_guard_t, st_at, pk_at, if_t, as_pick, as_call, as_alloc, as_store, as_move, as_assign, as_binOp, as_load, as_extract, flowL, flowA, u8A, u16A, u32A, i64, fr_false, List.contains_nil, beq_self_eq_true, decide_true, Bool.and_self, hk_some, hopG, rd, aopsD, heapF, frzW, frzR, evT, lk, putT, GV, gdst, binF, loadF, cellsF, ovw, intsK, argsF, okCell, TK.isAgg, Value.oneCell', List.length_cons, List.length_nil, List.getElem?_cons_zero, List.getElem?_cons_succ, List.drop_zero, List.take_succ_cons, List.take_nil, List.set_cons_zero, List.set_cons_succ, List.nil_append, List.cons_append, List.all_cons, List.all_nil, Option.map_some, Option.bind_some, Nat.reduceAdd, Nat.reduceSub, Nat.reduceEqDiff, Nat.reduceLeDiff, true_and, and_self, eq_self, Bool.false_eq_true, ↓reduceIte, Nat.zero_add, Nat.le_refl, TT3, TT25]
  refine ACall.intro lives12_a ?_
  simp only [ac_ret, at_normal, ae_ret, ao_nil, ao_cons, pk_at, if_t, as_pick, as_assign, boA, beq_self_eq_true, rd, evT, lk, putT, resF, resL, Option.map_some, Option.bind_some, Nat.reduceSub, Nat.reduceEqDiff, and_true, and_self, eq_self, ↓reduceIte]
set_option maxRecDepth 100000 in
theorem quoteFailed_a (s : PktN) (code : Int) (hs : s.ok) : ASpec Try.prog 22 [pktA s, u8A code] (boA true) := by
  obtain ⟨t, ht⟩ : ∃ t : PktN, t = { s with opts := s.opts.take 50, data := s.data.take 300 } := ⟨_, rfl⟩
  have hto : t.ok := by subst ht; obtain ⟨k1, k2, k3, k4, k5, k6, k7⟩ := hs; constructor <;> assumption
  have l1 : t.opts.length ≤ 50 := by subst ht; simp; omega
  have l2 : t.data.length ≤ 300 := by subst ht; simp; omega
  have hlen := ipB_len t
  refine ASpec.of_body TT_ok Try.mixed _ [.tmp 4] ([], []) Try.func22 (by kernel_rfl) rfl rfl (by simp only [Try.ntmps22, List.length_cons, List.length_nil]; omega) rfl (by kernel_rfl) ?_
  simp only [argE_cons, argE_nil, ac_seq, ac_region, at_normal, ao_nil, ao_cons, as_call, as_box, as_assign, as_load, pktL, pktA, u8A, u16A, u32A, boA, fr_false, List.contains_nil, beq_self_eq_true, hk_some, hopG, rd, aopsD, heapF, frzW, frzR, constT, evT, lk, putT, loadF, cellsF, argsF, constA, cellA, TK.isAgg, List.length_cons, List.length_nil, List.getElem?_cons_zero, List.drop_zero, List.take_succ_cons, List.take_nil, List.nil_append, Option.map_some, Nat.reduceAdd, Nat.reduceSub, Nat.reduceEqDiff, Nat.reduceLeDiff, true_and, eq_self, Bool.false_eq_true, ↓reduceIte, Nat.zero_add, Nat.le_refl, TT92]
  refine ACall.intro (refFew06_a s) ?_
  rw [← ht]
  clear ht
  simp only [ac_seq, ac_region, at_normal, ao_nil, ao_cons, as_call, as_store, as_load, pktL, pktA, u8A, u16A, u32A, boA, fr_false, List.contains_nil, beq_self_eq_true, Bool.and_self, hk_some, hopG, rd, aopsD, heapF, frzW, frzR, evT, lk, putT, loadF, cellsF, ovw, argsF, okCell, TK.isAgg, Value.oneCell', List.length_cons, List.length_nil, List.getElem?_cons_zero, List.drop_zero, List.take_succ_cons, List.take_nil, List.set_cons_zero, List.set_cons_succ, List.all_cons, List.all_nil, Option.map_some, Nat.reduceAdd, Nat.reduceSub, Nat.reduceEqDiff, Nat.reduceLeDiff, true_and, and_self, eq_self, Bool.false_eq_true, ↓reduceIte, Nat.zero_add, Nat.le_refl, TT92]
  cases hm : pktMay t
  · refine ACall.intro (ipPut_no t hm (by omega) (by omega)) ?_
    simp only [ac_seq, ac_cond, ac_region, at_normal, ao_nil, ao_cons, ao_guard_f, sk_at, pk_at, if_t, as_pick, as_call, as_move, as_assign, as_binOp, as_extract, i64, fr_false, List.contains_nil, beq_self_eq_true, decide_false, Int.reduceEq, hk_some, hopG, rd, aopsD, frzW, frzR, constT, evT, lk, putT, GV, gdst, binF, argsF, constA, cellA, List.getElem?_cons_zero, List.getElem?_cons_succ, Option.map_some, Nat.reduceSub, Nat.reduceEqDiff, Nat.reduceLeDiff, true_and, eq_self, Bool.false_eq_true, Bool.not_false, ↓reduceIte, TT61]
    refine ACall.intro lives12_a ?_
    simp only [ac_ret, at_normal, at_ret, ae_ret, ao_nil, ao_cons, as_assign, boA, beq_self_eq_true, rd, evT, lk, putT, resF, resL, Option.map_some, Option.bind_some, Nat.reduceSub, and_true, and_self, eq_self, ↓reduceIte]
  · refine ACall.intro (ipPut_a t hto hm) ?_
    simp only [ac_seq, ac_cond, ac_region, at_normal, ao_nil, ao_cons, ao_guard_f, st_at, pk_at, if_f, as_pick, as_move, as_assign, as_binOp, as_load, as_fieldAddr, as_extract, as_len, i64, fr_false, List.contains_nil, beq_self_eq_true, decide_true, hk_some, hopG, hopF, rd, aopsD, constT, evT, lk, putT, GV, gdst, lenF, binF, loadF, constA, cellA, TK.isAgg, List.getElem?_cons_zero, List.getElem?_cons_succ, List.drop_zero, List.drop_succ_cons, Option.map_some, Nat.reduceSub, Nat.reduceEqDiff, Nat.reduceLeDiff, Nat.succ_ne_zero, ne_eq, not_false_eq_true, true_and, eq_self, Bool.false_eq_true, Bool.not_true, ↓reduceIte, Nat.zero_add, TT3, TT38, TT61, TT92]
    cases ho : decide (0 < (t.opts.length : Int))
    · simp only [ac_skip, ac_seq, ac_region, at_normal, ao_cons, if_f, as_call, as_load, fr_false, List.contains_nil, beq_self_eq_true, hk_some, hopG, rd, aopsD, frzW, frzR, evT, lk, putT, loadF, argsF, TK.isAgg, List.length_cons, List.length_nil, List.getElem?_cons_zero, List.drop_zero, List.take_succ_cons, List.take_nil, Option.map_some, Nat.reduceAdd, Nat.reduceSub, Nat.reduceEqDiff, Nat.reduceLeDiff, true_and, eq_self, Bool.false_eq_true, ↓reduceIte, Nat.zero_add, Nat.le_refl, TT92]
      have ho' : t.opts = [] := List.eq_nil_of_length_eq_zero (by have := dF.1 ho; omega)
      have hQ := quO_B t 11 hto hm ho' (by omega)
      have h1 := quoteOf_a 11 code 0 ((ipB t).take 28) (by simp; omega)
      rw [hQ] at h1
      have h0 := flowOf_a t
      generalize flowP t = q at *
      obtain ⟨⟨f1, f2, f3, f4, f5⟩, e⟩ := q
      refine ACall.intro h0 ?_
      simp only [ac_seq, ac_region, at_normal, ao_nil, ao_cons, as_call, as_alloc, as_store, as_move, as_assign, as_extract, flowL, flowA, u8A, u16A, u32A, i64, fr_false, List.contains_nil, beq_self_eq_true, Bool.and_self, hk_some, hopG, rd, aopsD, heapF, frzW, frzR, constT, evT, lk, putT, cellsF, ovw, argsF, okCell, constA, cellA, Value.oneCell', List.length_cons, List.length_nil, List.getElem?_cons_zero, List.getElem?_cons_succ, List.set_cons_zero, List.set_cons_succ, List.nil_append, List.cons_append, List.all_cons, List.all_nil, Option.map_some, Nat.reduceAdd, Nat.reduceSub, Nat.reduceEqDiff, Nat.reduceLeDiff, true_and, and_self, eq_self, reduceCtorEq, Bool.false_eq_true, ↓reduceIte, Nat.zero_add, Nat.le_refl, TT25]
      refine ACall.intro (failed_a 11 code 0 (ipB t) (by simp only [small]; omega)) ?_
      simp only [ao_cons, as_call, icmpA, u8A, u32A, beq_self_eq_true, rd, frzW, frzR, evT, lk, putT, argsF, Option.map_some, Nat.reduceSub, eq_self, ↓reduceIte]
      refine ACall.intro h1 ?_
      simp only [ac_seq, ac_region, at_normal, ao_nil, ao_cons, ao_guard_t, st_at, pk_at, if_t, as_pick, as_call, as_alloc, as_store, as_move, as_assign, as_binOp, as_load, as_extract, flowL, flowA, u8A, u16A, u32A, i64, fr_false, List.contains_nil, beq_self_eq_true, decide_true, Bool.and_self, hk_some, hopG, rd, aopsD, heapF, frzW, frzR, evT, lk, putT, GV, gdst, binF, loadF, cellsF, ovw, intsK, argsF, okCell, TK.isAgg, Value.oneCell', List.length_cons, List.length_nil, List.getElem?_cons_zero, List.getElem?_cons_succ, List.drop_zero, List.take_succ_cons, List.take_nil, List.set_cons_zero, List.set_cons_succ, List.nil_append, List.cons_append, List.all_cons, List.all_nil, Option.map_some, Option.bind_some, Nat.reduceAdd, Nat.reduceSub, Nat.reduceEqDiff, Nat.reduceLeDiff, true_and, and_self, eq_self, Bool.false_eq_true, ↓reduceIte, Nat.zero_add, Nat.le_refl, TT25, TT61]
      refine ACall.intro lives12_a ?_
      simp only [ac_ret, at_normal, ae_ret, ao_nil, ao_cons, pk_at, if_t, as_pick, as_assign, boA, beq_self_eq_true, rd, evT, lk, putT, resF, resL, Option.map_some, Option.bind_some, Nat.reduceSub, Nat.reduceEqDiff, and_true, and_self, eq_self, ↓reduceIte]
    · simp only [ac_seq, ac_region, ao_cons, if_t, as_call, fr_false, List.contains_nil, beq_self_eq_true, aopsD, frzW, frzR, evT, argsF, Nat.reduceSub, Nat.reduceLeDiff, Bool.false_eq_true, ↓reduceIte]
      refine ACall.intro lives12_a ?_
      simp only [ac_ret, at_normal, at_ret, ae_ret, ao_nil, ao_cons, as_assign, boA, beq_self_eq_true, rd, evT, lk, putT, resF, resL, Option.map_some, Option.bind_some, Nat.reduceSub, and_true, and_self, eq_self, ↓reduceIte]
end Go.Proofs.Ytafajmnlknmfiaa
