/- The reference of frag: Few, end, and what Join is made of. -/
import Derived.Test.YthjojkkapboonaaFH
namespace Go.Proofs.Ythjojkkapboonaa
set_option linter.unusedSimpArgs false
set_option linter.unusedVariables false
open Go.RowKit

def fewQ (p : PktN) : PktN := { p with off := p.off % 16384, opts := p.opts.take 50, data := p.data.take 300 }
def fewP (l : List PktN) : List PktN := (l.take 20).map fewQ
def fwI (l : List PktN) (k : Nat) : AE := match k with
  | 0 => ⟨[(6, .v (i64 0)), (0, .v (.sl 11 (pktsL l))), (1, .v (i64 20)), (5, .z)], []⟩
  | k + 1 => ⟨[(6, .v (i64 ((k + 1 : Nat) : Int))), (0, .v (.sl 11 (pktsL l))), (1, .v (i64 20)), (5, .r 1 87 11 (.sl 11 (pktsL ((l.take (k + 1)).map fewQ))))], [(true, pktL (fewQ (l.getD 0 pktZ))), (true, [])]⟩
structure FwK (l : List PktN) where
  k : Nat
  hk : k ≤ l.length
  h20 : k ≤ 20
set_option maxRecDepth 100000 in
set_option maxHeartbeats 2000000 in
theorem refFew43_n (l : List PktN) (hl : l.length ≤ 9223372036854775807) (hok : ∀ p ∈ l, p.ok) : ASpec Try.prog 41 [.sl 11 (pktsL l), i64 20] (pktsV (fewP l)) := by
  have hpd := pkts_div l
  have hpl := pktsL_len l
  refine ASpec.of_body TT_ok Try.mixed _ [.tmp 4] ([], []) Try.func41 (by kernel_rfl) rfl rfl (by simp only [Try.ntmps41, List.length_cons, List.length_nil]; omega) rfl (by kernel_rfl) ?_
  simp only [argE_cons, argE_nil, ac_seq, ac_block, ac_region, ac_loop, at_normal, ao_nil, ao_cons, as_assign, i64, fr_false, List.contains_nil, beq_self_eq_true, aopsD, constT, evT, putT, constA, cellA, Nat.reduceAdd, Nat.reduceSub, Nat.reduceLeDiff, Bool.false_eq_true, ↓reduceIte, Nat.zero_add]
  refine .inr ⟨FwK l, fun x => fwI l x.k, fun x => 20 - x.k, ⟨0, by omega, by omega⟩, ⟨rfl, le4 rfl rfl rfl rfl trivial trivial trivial trivial⟩, ?_⟩
  rintro ⟨k, hk, h20⟩
  have w1 : IntKind.i64.wrap ((k : Int) + 1) = ((k + 1 : Nat) : Int) := by rw [i64_in (by omega) (by omega)]; omega
  have h0k : (0 : Int) ≤ (k : Int) := by omega
  by_cases hkl : k < l.length ∧ k < 20
  · obtain ⟨hkl, hk20⟩ := hkl
    obtain ⟨r, hr⟩ : ∃ r, r = l.getD k pktZ := ⟨_, rfl⟩
    have hrm : r ∈ l := by rw [hr]; simp [List.getD, hkl]
    have hoff := (hok r hrm).off
    have hat := pkts_at l k hkl
    rw [← hr] at hat
    have c0 : decide ((k : Int) < (l.length : Int)) = true := by simpa using hkl
    have c1 : decide ((k : Int) < 20) = true := decide_eq_true (by omega)
    have hkI : (k : Int) < (l.length : Int) := by omega
    have hd3 : (k + 1) * 11 ≤ (pktsL l).length := by omega
    have w2 : r.off.tmod 16384 = r.off % 16384 := tmodN hoff.1
    have w3 : IntKind.u16.wrap (r.off % 16384) = r.off % 16384 := u16_in (by omega) (by omega)
    have htk : (l.take (k + 1)).map fewQ = (l.take k).map fewQ ++ [fewQ r] := by rw [List.take_succ_eq_append_getElem hkl, List.map_append, hr]; simp [List.getD, hkl]
    cases k with
    | zero =>
      have hpd0 : (0 : Int) < (l.length : Int) := by omega
      have c00 : decide ((0 : Int) < (l.length : Int)) = true := decide_eq_true hpd0
      have w10 : IntKind.i64.wrap 1 = 1 := i64_in (by omega) (by omega)
      simp only [Nat.zero_mul, Nat.zero_add, List.drop_zero] at hat hd3
      simp only [fwI, hpd, c00, hat, hd3, ac_skip, ac_seq, ac_block, ac_cond, ac_region, at_normal, ao_nil, ao_cons, ao_guard_t, st_at, pk_at, if_t, as_pick, as_call, as_move, as_binOp, as_load, as_indexAddr, as_len, pktL, u8A, u16A, u32A, i64, boA, fr_false, List.contains_nil, beq_self_eq_true, decide_true, hk_some, hopG, hopF, rd, aopsD, frzW, frzR, evT, lk, putT, GV, gdst, lenF, binF, loadF, argsF, TK.isAgg, List.length_cons, List.length_nil, List.drop_zero, List.take_succ_cons, List.take_nil, Option.map_some, Nat.reduceAdd, Nat.reduceMul, Nat.reduceSub, Nat.reduceEqDiff, Nat.reduceLeDiff, Nat.succ_ne_zero, true_and, and_self, eq_self, reduceCtorEq, Bool.false_eq_true, ↓reduceIte, Int.toNat_zero, Int.reduceLT, Int.reduceLE, Nat.zero_mul, Nat.zero_add, Nat.zero_lt_succ, Nat.le_refl, TT3, TT84, TT87]
      refine ACall.intro (refFew06_a r) ?_
      simp only [w2, w10, ac_seq, ac_region, at_normal, ab_normal, ao_nil, ao_cons, as_alloc, as_store, as_move, as_assign, as_binOp, as_load, as_fieldAddr, as_buildSlice, pktL, pktA, u8A, u16A, u32A, boA, fr_false, List.contains_nil, beq_self_eq_true, Bool.and_self, Int.reduceEq, hk_some, hopG, rd, aopsD, heapF, as_append, appF, frzW, frzR, constT, evT, lk, putT, binF, loadF, cellsF, ovw, fillF, makeSF, partsF, okCell, constA, cellA, TK.isAgg, Value.oneCell', List.length_cons, List.length_nil, List.map_cons, List.map_nil, List.getElem?_cons_zero, List.getElem?_cons_succ, List.drop_zero, List.drop_succ_cons, List.take_succ_cons, List.take_nil, List.set_cons_zero, List.set_cons_succ, List.nil_append, List.cons_append, List.replicate_succ, List.replicate_zero, List.flatten_cons, List.flatten_nil, List.append_nil, List.all_cons, List.all_nil, Option.map_some, Nat.reduceAdd, Nat.reduceMul, Nat.reduceSub, Nat.reduceEqDiff, Nat.reduceLeDiff, Nat.succ_ne_zero, ne_eq, not_false_eq_true, true_and, and_self, eq_self, reduceCtorEq, Bool.false_eq_true, ↓reduceIte, Int.reduceAdd, Nat.zero_mul, Nat.zero_add, Nat.zero_lt_succ, Nat.le_refl, TT3, TT23, TT84, TT87]
      exact ⟨⟨1, by omega, by omega⟩, ⟨congrArg (fun z => [(true, pktL (fewQ z)), (true, [])]) hr, le4 rfl rfl rfl (congrArg (fun z => TV.r 1 87 11 (.sl 11 z)) (show pktL (fewQ r) = pktsL ((l.take (0 + 1)).map fewQ) by rw [htk, pkts_snoc]; rfl)) trivial trivial trivial (by show (1 : Nat) < 2; decide)⟩, by show 20 - 1 < 20 - 0; omega⟩
    | succ k =>
      simp only [fwI, hpd, c1, Int.toNat_natCast, hat, hd3, h0k, hkI, ac_skip, ac_seq, ac_block, ac_cond, ac_region, at_normal, ao_nil, ao_cons, ao_guard_t, st_at, pk_at, if_t, as_pick, as_call, as_move, as_binOp, as_load, as_indexAddr, as_len, pktL, u8A, u16A, u32A, i64, boA, fr_false, List.contains_nil, beq_self_eq_true, decide_true, hk_some, hopG, hopF, rd, aopsD, frzW, frzR, evT, lk, putT, GV, gdst, lenF, binF, loadF, argsF, TK.isAgg, List.length_cons, List.length_nil, List.take_succ_cons, List.take_nil, Option.map_some, Nat.reduceAdd, Nat.reduceSub, Nat.reduceEqDiff, Nat.reduceLeDiff, Nat.succ_ne_zero, true_and, and_self, eq_self, reduceCtorEq, Bool.false_eq_true, ↓reduceIte, Nat.zero_add, Nat.zero_lt_succ, Nat.le_refl, TT3, TT84, TT87]
      refine ACall.intro (refFew06_a r) ?_
      simp only [w2, w1, ac_seq, ac_region, at_normal, ab_normal, ao_nil, ao_cons, as_alloc, as_store, as_move, as_assign, as_binOp, as_load, as_fieldAddr, as_buildSlice, pktL, pktA, u8A, u16A, u32A, boA, fr_false, List.contains_nil, beq_self_eq_true, Bool.and_self, Int.reduceEq, hk_some, hopG, rd, aopsD, heapF, as_append, appF, catA, dropT, dropV, frzW, frzR, constT, evT, lk, putT, binF, loadF, cellsF, ovw, fillF, makeSF, partsF, okCell, constA, cellA, TK.isAgg, Value.oneCell', List.length_cons, List.length_nil, List.map_cons, List.map_nil, List.getElem?_cons_zero, List.getElem?_cons_succ, List.drop_zero, List.drop_succ_cons, List.take_succ_cons, List.take_nil, List.set_cons_zero, List.set_cons_succ, List.nil_append, List.cons_append, List.replicate_succ, List.replicate_zero, List.flatten_cons, List.flatten_nil, List.append_nil, List.all_cons, List.all_nil, Option.map_some, Nat.reduceAdd, Nat.reduceMul, Nat.reduceSub, Nat.reduceEqDiff, Nat.reduceLeDiff, Nat.succ_ne_zero, ne_eq, not_false_eq_true, true_and, and_self, eq_self, reduceCtorEq, Bool.false_eq_true, ↓reduceIte, Nat.zero_mul, Nat.zero_add, Nat.zero_lt_succ, Nat.le_refl, TT3, TT23, TT84, TT87]
      exact ⟨by rw [pktsL_len, List.length_map, List.length_take]; omega, ⟨k + 1 + 1, by omega, by omega⟩, ⟨rfl, le4 rfl rfl rfl (congrArg (fun z => TV.r 1 87 11 (.sl 11 z)) (show pktsL ((l.take (k + 1)).map fewQ) ++ pktL (fewQ r) = pktsL ((l.take (k + 1 + 1)).map fewQ) by rw [htk, pkts_snoc])) trivial trivial trivial (by show (1 : Nat) < 2; decide)⟩, by show 20 - (k + 1 + 1) < 20 - (k + 1); omega⟩
  · have hfin : fewP l = (l.take k).map fewQ := by
      unfold fewP
      by_cases h : k = 20
      · rw [h]
      · rw [List.take_of_length_le (by omega), List.take_of_length_le (by omega)]
    cases c0 : decide ((k : Int) < (l.length : Int))
    · rw [dF] at c0
      cases k with
      | zero =>
        have c00 : decide ((0 : Int) < (l.length : Int)) = false := decide_eq_false c0
        simp only [fwI, hpd, c00, ac_exit, ac_ret, ac_seq, ac_cond, ac_region, at_normal, at_exit, ab_exit, ae_ret, ao_nil, ao_cons, ao_guard_t, sk_at, pk_at, if_f, as_pick, as_move, as_assign, as_binOp, as_len, pktL, u8A, u16A, u32A, i64, boA, fr_false, List.contains_nil, beq_self_eq_true, hk_some, hopG, hopF, rd, aopsD, constT, evT, lk, putT, GV, gdst, lenF, binF, resF, resL, constA, cellA, Option.map_some, Option.bind_some, Nat.reduceSub, Nat.reduceEqDiff, Nat.reduceLeDiff, Nat.succ_ne_zero, true_and, and_true, eq_self, reduceCtorEq, Bool.false_eq_true, ↓reduceIte, Nat.zero_lt_succ, TT3, TT84]
        rw [hfin]
        rfl
      | succ k =>
        have c00 : decide (((k + 1 : Nat) : Int) < (l.length : Int)) = false := decide_eq_false c0
        simp only [fwI, hpd, c00, ac_exit, ac_ret, ac_seq, ac_cond, ac_region, at_normal, at_exit, ab_exit, ae_ret, ao_nil, ao_cons, ao_guard_t, sk_at, pk_at, if_f, as_pick, as_move, as_assign, as_binOp, as_len, pktL, u8A, u16A, u32A, i64, boA, fr_false, fr_nil, fr_cons, List.contains_nil, beq_self_eq_true, hk_some, hopG, hopF, rd, aopsD, constT, evT, lk, putT, GV, gdst, lenF, binF, resF, resL, constA, cellA, List.getElem?_cons_zero, List.getElem?_cons_succ, Option.map_some, Option.bind_some, Nat.reduceSub, Nat.reduceEqDiff, Nat.reduceLeDiff, Nat.succ_ne_zero, true_and, and_true, eq_self, reduceCtorEq, Bool.false_eq_true, ↓reduceIte, Nat.zero_lt_succ, TT3, TT84]
        rw [hfin, pktsV, if_neg (by rw [List.length_map, List.length_take]; omega)]
    · rw [dT] at c0
      obtain ⟨m, rfl⟩ : ∃ m, k = m + 1 := ⟨k - 1, by omega⟩
      have c00 : decide (((m + 1 : Nat) : Int) < (l.length : Int)) = true := decide_eq_true c0
      have c01 : decide (((m + 1 : Nat) : Int) < 20) = false := decide_eq_false (by omega)
      simp only [fwI, hpd, c00, c01, ac_exit, ac_ret, ac_seq, ac_cond, ac_region, at_normal, at_exit, ab_exit, ae_ret, ao_nil, ao_cons, ao_guard_t, st_at, pk_at, if_t, if_f, as_pick, as_move, as_assign, as_binOp, as_len, pktL, u8A, u16A, u32A, i64, boA, fr_false, fr_nil, fr_cons, List.contains_nil, beq_self_eq_true, hk_some, hopG, hopF, rd, aopsD, evT, lk, putT, GV, gdst, lenF, binF, resF, resL, List.getElem?_cons_zero, List.getElem?_cons_succ, Option.map_some, Option.bind_some, Nat.reduceSub, Nat.reduceEqDiff, Nat.reduceLeDiff, Nat.succ_ne_zero, true_and, and_true, eq_self, reduceCtorEq, Bool.false_eq_true, ↓reduceIte, Nat.zero_lt_succ, TT3, TT84]
      rw [hfin, pktsV, if_neg (by rw [List.length_map, List.length_take]; omega)]
theorem refFew43_a (l : List PktN) (hl : l.length ≤ 9223372036854775807) (hok : ∀ p ∈ l, p.ok) : ASpec Try.prog 41 [.sl 11 (pktsL l), i64 20] (.sl 11 (pktsL (fewP l))) :=
  (refFew43_n l hl hok).conv fun M w v h => pktsV_rep _ h
theorem fewP_ok {l : List PktN} (hok : ∀ p ∈ l, p.ok) : pksOk (fewP l) := by
  refine ⟨by simp [fewP]; omega, fun p hp => ?_⟩
  simp only [fewP, List.mem_map] at hp
  obtain ⟨q, hq, rfl⟩ := hp
  have h := hok q (List.mem_of_mem_take hq)
  refine ⟨⟨h.tos, h.id, ?_, h.ttl, h.proto, h.src, h.dst⟩, ?_, ?_⟩
  · have := h.off
    show 0 ≤ q.off % 16384 ∧ q.off % 16384 ≤ 65535
    omega
  · show (q.opts.take 50).length ≤ 100000
    simp; omega
  · show (q.data.take 300).length ≤ 100000
    simp; omega
set_option maxRecDepth 100000 in
theorem refEnd43_a (p : PktN) (hp : 0 ≤ p.off ∧ p.off ≤ 65535) (hd : p.data.length ≤ 1000000) : ASpec Try.prog 72 [pktA p] (i64 (p.off * 8 + p.data.length)) := by
  refine ASpec.of_body TT_ok Try.mixed _ [.tmp 2] ([], []) Try.func72 (by kernel_rfl) rfl rfl (by simp only [Try.ntmps72, List.length_cons, List.length_nil]; omega) rfl (by kernel_rfl) ?_
  simp only [i64_in (n := p.off) (by omega) (by omega), i64_in (n := p.off * 8) (by omega) (by omega), i64_in (n := p.off * 8 + (p.data.length : Int)) (by omega) (by omega), argE_cons, argE_nil, ac_ret, ac_seq, ac_region, at_normal, ae_ret, ao_nil, ao_cons, as_box, as_assign, as_binOp, as_convert, as_load, as_fieldAddr, as_len, pktL, pktA, u8A, u16A, u32A, i64, boA, fr_false, List.contains_nil, beq_self_eq_true, hk_some, hopG, hopF, rd, aopsD, heapF, constT, evT, lk, putT, lenF, binF, convF, loadF, cellsF, resF, resL, constA, cellA, TK.isAgg, List.length_nil, List.getElem?_cons_zero, List.getElem?_cons_succ, List.drop_zero, List.drop_succ_cons, List.nil_append, Option.map_some, Option.bind_some, Nat.reduceSub, Nat.reduceEqDiff, Nat.reduceLeDiff, Nat.succ_ne_zero, ne_eq, not_false_eq_true, and_true, and_self, eq_self, Bool.false_eq_true, ↓reduceIte, Nat.zero_add, TT3, TT23, TT38, TT87]
/-- What the reference knows behind the pieces: where the last ends, and whether any is odd. -/
def stF : List PktN → Int → Bool → Int × Bool
  | [], a, b => (a, b)
  | p :: l, a, b => if p.mf = true then stF l a (b || badM p) else stF l (toP p) (b || decide (0 ≤ a ∧ ¬ a = toP p))
theorem stF_true : ∀ (l : List PktN) (a : Int), (stF l a true).2 = true
  | [], a => rfl
  | p :: l, a => by
    rw [stF]
    split
    · rw [Bool.true_or]; exact stF_true l _
    · rw [Bool.true_or]; exact stF_true l _
theorem stF_good : ∀ (l : List PktN) (a : Int), (stF l a false).2 = false → l.any badM = false ∧ lastF l a = some (stF l a false).1
  | [], a, h => ⟨rfl, rfl⟩
  | p :: l, a, h => by
    rw [stF] at h ⊢
    rw [lastF]
    cases hmf : p.mf
    · simp only [hmf, Bool.false_eq_true, if_false, Bool.false_or] at h ⊢
      have hb : badM p = false := by rw [badM, hmf, Bool.false_and]
      cases hc : decide (0 ≤ a ∧ ¬ a = toP p)
      · rw [hc] at h
        obtain ⟨h1, h2⟩ := stF_good l (toP p) h
        rw [dF] at hc
        refine ⟨by rw [List.any_cons, hb, h1]; rfl, ?_⟩
        rw [if_neg (fun e => hc ⟨e.1, fun e2 => e.2 e2.symm⟩)]
        exact h2
      · rw [hc, stF_true] at h
        exact absurd h (by simp)
    · simp only [hmf, if_true, Bool.false_or] at h ⊢
      cases hb : badM p
      · rw [hb] at h
        obtain ⟨h1, h2⟩ := stF_good l a h
        exact ⟨by rw [List.any_cons, hb, h1]; rfl, h2⟩
      · rw [hb, stF_true] at h
        exact absurd h (by simp)
theorem stF_bad : ∀ (l : List PktN) (a : Int), (stF l a false).2 = true → l.any badM = true ∨ lastF l a = none
  | [], a, h => absurd h (by simp [stF])
  | p :: l, a, h => by
    rw [stF] at h
    rw [lastF]
    cases hmf : p.mf
    · rw [hmf, if_neg (by simp), Bool.false_or] at h
      rw [if_neg (by simp)]
      cases hc : decide (0 ≤ a ∧ ¬ a = toP p)
      · rw [hc] at h
        rcases stF_bad l (toP p) h with h1 | h1
        · exact .inl (by rw [List.any_cons, h1, Bool.or_true])
        · right
          split
          · rfl
          · exact h1
      · rw [dT] at hc
        exact .inr (if_pos ⟨hc.1, fun e => hc.2 e.symm⟩)
    · rw [hmf, if_pos rfl, Bool.false_or] at h
      rw [if_pos rfl]
      cases hb : badM p
      · rw [hb] at h
        rcases stF_bad l a h with h1 | h1
        · exact .inl (by rw [List.any_cons, h1, Bool.or_true])
        · exact .inr h1
      · exact .inl (by rw [List.any_cons, hb, Bool.true_or])
theorem endP_st (l : List PktN) : endP l = if ((stF l (-1) false).2 || l.any (fun p => decide (0 ≤ (stF l (-1) false).1 ∧ (stF l (-1) false).1 < toP p))) = true then (0, 3) else if (stF l (-1) false).1 < 0 then (0, 8) else ((stF l (-1) false).1, 0) := by
  cases h : (stF l (-1) false).2
  · obtain ⟨h1, h2⟩ := stF_good l _ h
    rw [endP, h1, if_neg (by simp), h2, Bool.false_or]
  · rw [Bool.true_or, if_pos rfl, endP]
    rcases stF_bad l _ h with h1 | h1
    · rw [if_pos h1]
    · split
      · rfl
      · rw [h1]
end Go.Proofs.Ythjojkkapboonaa
