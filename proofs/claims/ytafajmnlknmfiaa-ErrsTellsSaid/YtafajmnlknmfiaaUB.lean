/- The statements of tun: their own texts. -/
import Derived.Test.YtafajmnlknmfiaaUA
namespace Go.Proofs.Ytafajmnlknmfiaa
set_option linter.unusedSimpArgs false
set_option linter.unusedVariables false
open Go.RowKit

theorem ownP_B (p : PktN) (l : List UInt8) (hp : p.ok) (hm : pktMay p = true) : ownP (ipB p ++ l) = ipB p := by
  have hP := ipP_B p l hp hm
  have h2 : (ipP (ipB p ++ l)).2 = 0 := by rw [hP]
  have h3 := (ipP_size _ h2).1
  have hl := ipB_len p
  rw [hP] at h3
  simp only at h3
  rw [ownP, if_pos h2, List.take_left' (by omega)]
theorem ownP_B0 (p : PktN) (hp : p.ok) (hm : pktMay p = true) : ownP (ipB p) = ipB p := by
  have := ownP_B p [] hp hm
  rwa [List.append_nil] at this
theorem ipP_B0 (p : PktN) (hp : p.ok) (hm : pktMay p = true) : ipP (ipB p) = (p, 0) := by
  have := ipP_B p [] hp hm
  rwa [List.append_nil] at this
def wrapX (a1 : Int) (p : PktN) (to_ id : Int) : PktN := ⟨p.tos, id, p.df, false, 0, 64, 4, a1, to_, [], ipB p⟩
theorem wrapP_B (c : CfgN) (p : PktN) (l : List UInt8) (to_ id : Int) (hp : p.ok) (hm : pktMay p = true) (hc : (ipB p).length + 20 ≤ c.mtu) : wrapP c (ipB p ++ l) to_ id = (wrapX c.a1 p to_ id, 0) := by
  rw [wrapP, ipP_B p l hp hm, ownP_B p l hp hm, if_pos rfl, if_neg (by omega)]
  rfl
theorem ipP_es (b : List UInt8) : (ipP b).2 = 0 ∨ (ipP b).2 = 3 ∨ (ipP b).2 = 4 ∨ (ipP b).2 = 5 := by
  have h := ipHd_cases b
  unfold ipP
  split
  · simp
  · simp only; omega
theorem wrapP_e (c : CfgN) (b : List UInt8) (to_ id : Int) : IntKind.i64.wrap (wrapP c b to_ id).2 = (wrapP c b to_ id).2 := by
  have h := ipP_es b
  unfold wrapP
  split
  · split <;> rfl
  · exact i64_in (by simp only; omega) (by simp only; omega)
theorem openP_e (p : PktN) : IntKind.i64.wrap (openP p).2 = (openP p).2 := by
  have h := ipP_es p.data
  unfold openP
  split
  · split
    · rfl
    · exact i64_in (by simp only; omega) (by simp only; omega)
  · rfl
theorem RepL.consW {M : Nat → Prop} {w : World} {a b : AV} {xs ys : List AV} {vs : List Value} (h : ∀ v, RepV M w a v → RepV M w b v) (hs : ∀ vs, RepL M w xs vs → RepL M w ys vs) : RepL M w (a :: xs) vs → RepL M w (b :: ys) vs := fun hh => by
  obtain ⟨v, vs, rfl, h1, h2⟩ := hh.cons_iff
  exact RepL.cons (h v h1) (hs vs h2)
theorem anyR {M : Nat → Prop} {w : World} {a : AV} : ∀ v, RepV M w a v → RepV M w .any v := fun v _ => by simp only [RepV]
theorem aggW {M : Nat → Prop} {w : World} {xs ys : List AV} (hs : ∀ vs, RepL M w xs vs → RepL M w ys vs) : ∀ v, RepV M w (.agg xs) v → RepV M w (.agg ys) v := fun v h => by
  simp only [RepV] at h ⊢
  obtain ⟨us, h1, h2⟩ := h
  exact ⟨us, h1, hs us h2⟩
def pkt29 : PktN := ⟨0, 0, true, false, 0, 3, 0, 0, 0, [], [u8 1]⟩
theorem pkt29_ok : pkt29.ok := by constructor <;> simp [pkt29]
def cfg29 : CfgN := ⟨fun _ => 0, fun _ => 0, 1, 2, 1500⟩
set_option maxRecDepth 100000 in
theorem lives29_a : ASpec Try.prog 101 [] (boA true) := by
  have hl : (ipB pkt29).length = 21 := by rw [ipB_len]; rfl
  have hw := tunWrap_a cfg29 (ipB pkt29) 9 8 (by omega)
  have hW := wrapP_B cfg29 pkt29 [] 9 8 pkt29_ok rfl (by rw [hl]; simp [cfg29])
  rw [List.append_nil] at hW
  rw [hW] at hw
  have hlz : ((ipB pkt29).length : Int) = 21 := by rw [hl]; rfl
  simp only [wrapX] at hw
  refine ASpec.of_body TT_ok Try.mixed _ [.tmp 0] ([], []) Try.func101 (by kernel_rfl) rfl rfl (by simp only [Try.ntmps101, List.length_nil]; omega) rfl (by kernel_rfl) ?_
  simp only [argE_nil, ac_seq, ac_region, at_normal, ao_nil, ao_cons, as_call, as_assign, as_build, as_buildSlice, boA, fr_false, List.contains_nil, beq_self_eq_true, hk_some, hopG, rd, aopsD, frzW, frzR, constT, evT, lk, putT, cellsF, ovw, fillF, buildF, bytesOf, makeSF, partsF, argsF, constA, cellA, Value.oneCell', List.length_cons, List.length_nil, List.getElem?_cons_zero, List.getElem?_cons_succ, List.set_cons_zero, List.set_cons_succ, List.replicate_succ, List.replicate_zero, List.flatten_cons, List.flatten_nil, List.append_nil, Option.map_some, Nat.reduceAdd, Nat.reduceSub, Nat.reduceLeDiff, true_and, and_self, eq_self, Bool.false_eq_true, ↓reduceIte, Int.reduceLE, Nat.mul_one, Nat.zero_add, Nat.le_refl, TT5, TT38, TT92]
  refine ACall.intro (ipPut_a pkt29 pkt29_ok rfl) ?_
  generalize ipB pkt29 = B at *
  simp only [ac_seq, ac_region, at_normal, ao_nil, ao_cons, as_call, as_move, as_assign, as_extract, as_build, i64, fr_false, List.contains_nil, beq_self_eq_true, hk_some, hopG, rd, aopsD, frzW, frzR, constT, evT, lk, putT, cellsF, ovw, fillF, buildF, partsF, argsF, constA, cellA, Value.oneCell', List.length_cons, List.length_nil, List.getElem?_cons_zero, List.getElem?_cons_succ, List.set_cons_zero, List.set_cons_succ, Option.map_some, Nat.reduceAdd, Nat.reduceSub, Nat.reduceEqDiff, Nat.reduceLeDiff, true_and, and_self, eq_self, Bool.false_eq_true, ↓reduceIte, Nat.mul_one, Nat.zero_add, Nat.le_refl, TT31, TT37]
  refine ACall.intro (hw.weak fun M w vs => RepL.consW (aggW ?_) fun vs h => h) ?_
  · intro vs
    repeat' first | exact id | refine RepL.consW (fun v h => h) fun vs => ?_ | refine RepL.consW anyR fun vs => ?_
  · simp only [hlz, pkt29, cfg29, ac_ret, ac_seq, ac_region, at_normal, ae_ret, ao_nil, ao_cons, ao_guard_t, st_at, pk_at, if_t, as_pick, as_alloc, as_store, as_move, as_assign, as_binOp, as_load, as_fieldAddr, as_extract, as_len, pktL, pktA, u8A, u16A, u32A, i64, boA, fr_false, List.contains_nil, beq_self_eq_true, decide_true, Bool.and_self, hk_some, hopG, hopF, rd, aopsD, heapF, constT, evT, lk, putT, GV, gdst, lenF, binF, loadF, cellsF, ovw, okCell, resF, resL, constA, cellA, TK.isAgg, Value.oneCell', List.length_cons, List.length_nil, List.getElem?_cons_zero, List.getElem?_cons_succ, List.drop_zero, List.drop_succ_cons, List.set_cons_zero, List.set_cons_succ, List.nil_append, List.all_cons, List.all_nil, Option.map_some, Option.bind_some, Nat.reduceAdd, Nat.reduceSub, Nat.reduceEqDiff, Nat.reduceLeDiff, Nat.succ_ne_zero, ne_eq, not_false_eq_true, and_true, and_self, eq_self, Bool.false_eq_true, ↓reduceIte, Nat.zero_add, Nat.le_refl, TT3, TT4, TT5, TT22, TT23, TT38, TT61, TT92]
set_option maxRecDepth 100000 in
theorem tunWraps_a (c : CfgN) (l : List UInt8) (to_ id : Int) (s : PktN) : ASpec Try.prog 25 [cfgA c, .bs l, u32A to_, u16A id, pktA s] (boA true) := by
  have h3 : (l.take 400).length ≤ 400 := by simp; omega
  obtain ⟨t, ht⟩ : ∃ t : PktN, t = { s with opts := s.opts.take 50, data := s.data.take 300 } := ⟨_, rfl⟩
  have l2 : t.data.length ≤ 300 := by subst ht; simp; omega
  refine ASpec.of_body TT_ok Try.mixed _ [.tmp 10] ([], []) Try.func25 (by kernel_rfl) rfl rfl (by simp only [Try.ntmps25, List.length_cons, List.length_nil]; omega) rfl (by kernel_rfl) ?_
  simp only [argE_cons, argE_nil, ac_seq, ac_region, at_normal, ao_nil, ao_cons, as_call, as_box, as_move, as_assign, pktL, pktA, cfgL, cfgA, u8A, u16A, u32A, i64, boA, fr_false, List.contains_nil, Nat.reduceBEq, beq_self_eq_true, rd, aopsD, heapF, frzW, tlN, constT, evT, lk, putT, cellsF, argsF, constA, cellA, List.length_cons, List.length_nil, List.nil_append, List.cons_append, Option.map_some, Nat.reduceAdd, Nat.reduceSub, Nat.reduceEqDiff, Nat.reduceLeDiff, true_and, eq_self, reduceCtorEq, Bool.false_eq_true, ↓reduceIte, Nat.zero_add]
  refine ACall.intro (few_a l 400) ?_
  simp only [ao_cons, as_call, as_load, Nat.reduceBEq, hk_some, hopG, rd, frzW, evT, lk, putT, loadF, argsF, TK.isAgg, List.length_cons, List.length_nil, List.getElem?_cons_zero, List.getElem?_cons_succ, List.drop_zero, List.take_succ_cons, List.take_nil, Option.map_some, Nat.reduceAdd, Nat.reduceSub, Nat.reduceEqDiff, true_and, eq_self, ↓reduceIte, Nat.zero_add, Nat.le_refl, TT92]
  refine ACall.intro (refFew06_a s) ?_
  rw [← ht]
  clear ht
  generalize l.take 400 = m at *
  simp only [ac_seq, ac_region, at_normal, ao_nil, ao_cons, as_call, as_store, as_move, as_assign, as_load, pktL, pktA, u8A, u16A, u32A, boA, fr_false, List.contains_nil, Nat.reduceBEq, beq_self_eq_true, Bool.and_self, hk_some, hopG, rd, aopsD, heapF, frzW, frzR, evT, lk, putT, loadF, cellsF, ovw, argsF, okCell, TK.isAgg, Value.oneCell', List.length_cons, List.length_nil, List.getElem?_cons_zero, List.getElem?_cons_succ, List.drop_zero, List.take_succ_cons, List.take_nil, List.set_cons_zero, List.set_cons_succ, List.all_cons, List.all_nil, Option.map_some, Nat.reduceAdd, Nat.reduceSub, Nat.reduceEqDiff, Nat.reduceLeDiff, true_and, and_self, eq_self, reduceCtorEq, Bool.false_eq_true, ↓reduceIte, Nat.zero_add, Nat.le_refl, TT37, TT92]
  refine ACall.intro (tunWrap_a c m to_ id (by omega)) ?_
  simp only [ac_seq, ac_region, at_normal, ao_nil, ao_cons, as_call, as_alloc, as_store, as_move, as_assign, as_load, as_extract, pktL, pktA, u8A, u16A, u32A, i64, boA, fr_false, List.contains_nil, beq_self_eq_true, Bool.and_self, hk_some, hopG, rd, aopsD, heapF, frzW, frzR, evT, lk, putT, loadF, cellsF, ovw, argsF, okCell, TK.isAgg, Value.oneCell', List.length_cons, List.length_nil, List.getElem?_cons_zero, List.getElem?_cons_succ, List.drop_zero, List.take_succ_cons, List.take_nil, List.set_cons_zero, List.set_cons_succ, List.nil_append, List.cons_append, List.all_cons, List.all_nil, Option.map_some, Nat.reduceAdd, Nat.reduceSub, Nat.reduceEqDiff, Nat.reduceLeDiff, true_and, and_self, eq_self, reduceCtorEq, Bool.false_eq_true, ↓reduceIte, Nat.zero_add, Nat.le_refl, TT37, TT92]
  refine ACall.intro (refWrap29_a c m to_ id (by omega)) ?_
  simp only [ac_seq, ac_region, at_normal, ao_nil, ao_cons, as_call, as_alloc, as_store, as_move, as_assign, as_load, as_extract, pktL, pktA, u8A, u16A, u32A, i64, boA, fr_false, List.contains_nil, beq_self_eq_true, Bool.and_self, hk_some, hopG, rd, aopsD, heapF, frzW, frzR, evT, lk, putT, loadF, cellsF, ovw, argsF, okCell, TK.isAgg, Value.oneCell', List.length_cons, List.length_nil, List.getElem?_cons_zero, List.getElem?_cons_succ, List.drop_zero, List.take_succ_cons, List.take_nil, List.set_cons_zero, List.set_cons_succ, List.nil_append, List.cons_append, List.all_cons, List.all_nil, Option.map_some, Nat.reduceAdd, Nat.reduceSub, Nat.reduceEqDiff, Nat.reduceLeDiff, true_and, and_self, eq_self, Bool.false_eq_true, ↓reduceIte, Nat.zero_add, Nat.le_refl, TT92]
  refine ACall.intro (tunOpen_a t (by omega)) ?_
  simp only [ac_seq, ac_region, at_normal, ao_nil, ao_cons, as_call, as_move, as_assign, as_load, as_extract, i64, fr_false, List.contains_nil, beq_self_eq_true, hk_some, hopG, rd, aopsD, frzW, frzR, evT, lk, putT, loadF, argsF, TK.isAgg, List.length_cons, List.length_nil, List.getElem?_cons_zero, List.getElem?_cons_succ, List.drop_zero, List.take_succ_cons, List.take_nil, Option.map_some, Nat.reduceAdd, Nat.reduceSub, Nat.reduceEqDiff, Nat.reduceLeDiff, true_and, eq_self, Bool.false_eq_true, ↓reduceIte, Nat.zero_add, Nat.le_refl, TT92]
  refine ACall.intro (refOpen29_a t (by omega)) ?_
  simp only [ac_seq, ac_region, at_normal, ao_nil, ao_cons, as_call, as_move, as_assign, as_load, as_extract, i64, fr_false, List.contains_nil, beq_self_eq_true, hk_some, hopG, rd, aopsD, frzW, frzR, evT, lk, putT, loadF, argsF, TK.isAgg, List.length_cons, List.length_nil, List.getElem?_cons_zero, List.getElem?_cons_succ, List.drop_zero, List.take_succ_cons, List.take_nil, Option.map_some, Nat.reduceAdd, Nat.reduceSub, Nat.reduceEqDiff, Nat.reduceLeDiff, true_and, eq_self, Bool.false_eq_true, ↓reduceIte, Nat.zero_add, Nat.le_refl, TT92]
  refine ACall.intro (refSame06_self (wrapP c m to_ id).1) ?_
  simp only [ao_cons, ao_guard_t, st_at, pk_at, if_t, as_pick, as_call, as_move, as_binOp, boA, beq_self_eq_true, decide_true, hk_some, hopG, rd, frzW, frzR, evT, lk, putT, GV, gdst, binF, argsF, Option.map_some, Nat.reduceSub, Nat.reduceEqDiff, true_and, eq_self, ↓reduceIte, TT3]
  refine ACall.intro (refSame_a _ _) ?_
  simp only [ao_cons, ao_guard_t, st_at, pk_at, if_t, as_pick, as_call, as_move, as_binOp, boA, beq_self_eq_true, decide_true, hk_some, hopG, rd, frzW, frzR, evT, lk, putT, GV, gdst, binF, argsF, Option.map_some, Nat.reduceSub, Nat.reduceEqDiff, true_and, eq_self, ↓reduceIte, TT3]
  refine ACall.intro lives29_a ?_
  simp only [ac_ret, at_normal, ae_ret, ao_nil, ao_cons, pk_at, if_t, as_pick, as_assign, boA, beq_self_eq_true, rd, evT, lk, putT, resF, resL, Option.map_some, Option.bind_some, Nat.reduceSub, Nat.reduceEqDiff, and_true, and_self, eq_self, ↓reduceIte]
def pktZ (n : Nat) : PktN := ⟨0, 0, false, false, 0, 1, 0, 0, 0, [], List.replicate n 0⟩
theorem pktZ_ok (n : Nat) : (pktZ n).ok := by constructor <;> simp [pktZ]
set_option maxRecDepth 100000 in
theorem tunBounds_a (c : CfgN) (n : Int) : ASpec Try.prog 24 [cfgA c, i64 n] (boA true) := by
  have hb1 := inF_bd c.mtu 100 1500 (by omega)
  have hb := inF_bd n 0 1480 (by omega)
  refine ASpec.of_body TT_ok Try.mixed _ [.tmp 4] ([], []) Try.func24 (by kernel_rfl) rfl rfl (by simp only [Try.ntmps24, List.length_cons, List.length_nil]; omega) rfl (by kernel_rfl) ?_
  simp only [argE_cons, argE_nil, ac_seq, ac_region, at_normal, ao_nil, ao_cons, as_call, as_box, as_assign, as_load, as_fieldAddr, cfgL, cfgA, u8A, u32A, i64, boA, fr_false, List.contains_nil, beq_self_eq_true, hk_some, hopG, rd, aopsD, heapF, frzW, frzR, constT, evT, lk, putT, loadF, cellsF, argsF, constA, cellA, TK.isAgg, List.length_nil, List.getElem?_cons_zero, List.getElem?_cons_succ, List.drop_zero, List.drop_succ_cons, List.nil_append, Option.map_some, Nat.reduceAdd, Nat.reduceSub, Nat.reduceEqDiff, Nat.reduceLeDiff, Nat.succ_ne_zero, ne_eq, not_false_eq_true, true_and, eq_self, Bool.false_eq_true, ↓reduceIte, Nat.zero_add, TT3, TT37]
  refine ACall.intro (in_a c.mtu 100 1500) ?_
  simp only [ac_seq, ac_region, at_normal, ao_nil, ao_cons, as_call, as_store, as_move, as_fieldAddr, i64, fr_false, List.contains_nil, beq_self_eq_true, Bool.and_self, hk_some, hopG, rd, aopsD, heapF, frzW, frzR, constT, evT, lk, putT, cellsF, ovw, argsF, okCell, constA, cellA, Value.oneCell', List.length_cons, List.length_nil, List.getElem?_cons_zero, List.getElem?_cons_succ, List.set_cons_zero, List.set_cons_succ, List.all_cons, List.all_nil, Option.map_some, Nat.reduceAdd, Nat.reduceSub, Nat.reduceEqDiff, Nat.reduceLeDiff, Nat.succ_ne_zero, ne_eq, not_false_eq_true, true_and, and_self, eq_self, reduceCtorEq, Bool.false_eq_true, ↓reduceIte, Nat.zero_add, TT3, TT37]
  refine ACall.intro (in_a n 0 1480) ?_
  generalize inF n 0 1480 = k at *
  generalize inF c.mtu 100 1500 = mtu at *
  obtain ⟨m, rfl⟩ := Int.eq_ofNat_of_zero_le (show 0 ≤ k by omega)
  simp only [Int.toNat_natCast, ac_seq, ac_region, at_normal, ao_nil, ao_cons, as_call, as_move, as_assign, as_build, as_makeSlice, i64, fr_false, List.contains_nil, beq_self_eq_true, hk_some, hopG, rd, aopsD, frzW, frzR, constT, evT, lk, putT, cellsF, ovw, fillF, buildF, zerosF, partsF, argsF, constA, cellA, Value.oneCell', List.length_cons, List.length_nil, List.getElem?_cons_zero, List.getElem?_cons_succ, List.set_cons_zero, List.set_cons_succ, Option.map_some, Nat.reduceAdd, Nat.reduceSub, Nat.reduceLeDiff, true_and, and_self, eq_self, Bool.false_eq_true, ↓reduceIte, Nat.zero_add, Nat.le_refl, TT5, TT38, TT92]
  refine ⟨by omega, ?_⟩
  have hm : pktMay (pktZ m) = true := by simp [pktMay, pktZ]; omega
  have hl := ipB_len (pktZ m)
  have hl2 : (pktZ m).data.length = m := by simp [pktZ]
  have hl3 : (pktZ m).opts.length = 0 := rfl
  refine ACall.intro (refPut06_a (pktZ m) (pktZ_ok m) hm) ?_
  have hw := tunWrap_a ⟨c.m0, c.m1, c.a0, c.a1, mtu⟩ (ipB (pktZ m)) 1 1 (by omega)
  have hW : wrapP ⟨c.m0, c.m1, c.a0, c.a1, mtu⟩ (ipB (pktZ m)) 1 1 = if mtu < (m : Int) + 40 then (pkt0, 14) else (wrapX c.a1 (pktZ m) 1 1, 0) := by
    rw [wrapP, ipP_B0 _ (pktZ_ok m) hm, ownP_B0 _ (pktZ_ok m) hm, if_pos rfl, hl]
    simp only
    by_cases h : mtu < (m : Int) + 40
    · rw [if_pos h, if_pos (by omega)]
    · rw [if_neg h, if_neg (by omega)]
      rfl
  rw [hW] at hw
  generalize ipB (pktZ m) = B at *
  by_cases h : mtu < (m : Int) + 40
  · rw [if_pos h] at hw
    simp only [ac_seq, ac_region, at_normal, ao_nil, ao_cons, as_call, as_move, as_assign, as_load, as_extract, i64, fr_false, List.contains_nil, beq_self_eq_true, hk_some, hopG, rd, aopsD, frzW, frzR, constT, evT, lk, putT, loadF, argsF, constA, cellA, TK.isAgg, List.length_cons, List.length_nil, List.getElem?_cons_zero, List.getElem?_cons_succ, List.drop_zero, List.take_succ_cons, List.take_nil, Option.map_some, Nat.reduceAdd, Nat.reduceSub, Nat.reduceEqDiff, Nat.reduceLeDiff, true_and, eq_self, Bool.false_eq_true, ↓reduceIte, Nat.zero_add, Nat.le_refl, TT37]
    refine ACall.intro hw ?_
    simp only [i64_in (n := (m : Int) + 40) (by omega) (by omega), decide_eq_false (show ¬ (m : Int) + 40 ≤ mtu by omega), ac_seq, ac_region, at_normal, ao_nil, ao_cons, ao_guard_t, ao_guard_f, st_at, pk_at, if_t, if_f, as_pick, as_call, as_alloc, as_store, as_move, as_assign, as_binOp, as_load, as_fieldAddr, as_extract, pktL, pktA, u8A, u16A, u32A, i64, boA, fr_false, List.contains_nil, beq_self_eq_true, decide_true, decide_false, Bool.and_self, Int.reduceEq, hk_some, hopG, rd, aopsD, heapF, frzW, frzR, constT, evT, lk, putT, GV, gdst, binF, loadF, cellsF, ovw, argsF, okCell, constA, cellA, TK.isAgg, Value.oneCell', List.length_cons, List.length_nil, List.getElem?_cons_zero, List.getElem?_cons_succ, List.drop_zero, List.drop_succ_cons, List.set_cons_zero, List.set_cons_succ, List.nil_append, List.cons_append, List.all_cons, List.all_nil, Option.map_some, Nat.reduceAdd, Nat.reduceSub, Nat.reduceEqDiff, Nat.reduceLeDiff, Nat.succ_ne_zero, ne_eq, not_false_eq_true, true_and, and_self, eq_self, Bool.false_eq_true, ↓reduceIte, Nat.zero_add, Nat.le_refl, TT3, TT4, TT37, TT61, TT92]
    refine ACall.intro lives29_a ?_
    simp only [ac_ret, at_normal, ae_ret, ao_nil, ao_cons, pk_at, if_t, as_pick, as_assign, boA, beq_self_eq_true, rd, evT, lk, putT, resF, resL, Option.map_some, Option.bind_some, Nat.reduceSub, Nat.reduceEqDiff, and_true, and_self, eq_self, ↓reduceIte]
  · rw [if_neg h] at hw
    simp only [ac_seq, ac_region, at_normal, ao_nil, ao_cons, as_call, as_move, as_assign, as_load, as_extract, i64, fr_false, List.contains_nil, beq_self_eq_true, hk_some, hopG, rd, aopsD, frzW, frzR, constT, evT, lk, putT, loadF, argsF, constA, cellA, TK.isAgg, List.length_cons, List.length_nil, List.getElem?_cons_zero, List.getElem?_cons_succ, List.drop_zero, List.take_succ_cons, List.take_nil, Option.map_some, Nat.reduceAdd, Nat.reduceSub, Nat.reduceEqDiff, Nat.reduceLeDiff, true_and, eq_self, Bool.false_eq_true, ↓reduceIte, Nat.zero_add, Nat.le_refl, TT37]
    refine ACall.intro hw ?_
    simp only [i64_in (n := (m : Int) + 40) (by omega) (by omega), decide_eq_true (show (m : Int) + 40 ≤ mtu by omega), ac_seq, ac_region, at_normal, ao_nil, ao_cons, ao_guard_t, ao_guard_f, st_at, sk_at, pk_at, if_t, as_pick, as_call, as_alloc, as_store, as_move, as_assign, as_binOp, as_load, as_fieldAddr, as_extract, pktL, pktA, u8A, u16A, u32A, i64, boA, fr_false, List.contains_nil, beq_self_eq_true, decide_true, Bool.and_self, hk_some, hopG, rd, aopsD, heapF, frzW, frzR, constT, evT, lk, putT, GV, gdst, binF, loadF, cellsF, ovw, argsF, okCell, constA, cellA, TK.isAgg, Value.oneCell', List.length_cons, List.length_nil, List.getElem?_cons_zero, List.getElem?_cons_succ, List.drop_zero, List.drop_succ_cons, List.set_cons_zero, List.set_cons_succ, List.nil_append, List.cons_append, List.all_cons, List.all_nil, Option.map_some, Nat.reduceAdd, Nat.reduceSub, Nat.reduceEqDiff, Nat.reduceLeDiff, Nat.succ_ne_zero, ne_eq, not_false_eq_true, true_and, and_self, eq_self, Bool.false_eq_true, ↓reduceIte, Nat.zero_add, Nat.le_refl, TT3, TT4, TT37, TT61, TT92]
    refine ACall.intro lives29_a ?_
    simp only [ac_ret, at_normal, ae_ret, ao_nil, ao_cons, pk_at, if_t, as_pick, as_assign, boA, beq_self_eq_true, rd, evT, lk, putT, resF, resL, Option.map_some, Option.bind_some, Nat.reduceSub, Nat.reduceEqDiff, and_true, and_self, eq_self, ↓reduceIte]
end Go.Proofs.Ytafajmnlknmfiaa
