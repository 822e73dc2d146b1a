/- frag.Split. -/
import Derived.Test.YthjojkkapboonaaFB
namespace Go.Proofs.Ythjojkkapboonaa
set_option linter.unusedSimpArgs false
set_option linter.unusedVariables false
open Go.RowKit

def pieceAt (p : PktN) (M k : Nat) : PktN := { p with off := p.off + ((k / 8 : Nat) : Int), mf := p.mf || decide (((k + min M (p.data.length - k) : Nat) : Int) < (p.data.length : Int)), data := (p.data.drop k).take M }
def splL (p : PktN) (M : Nat) : Nat → Nat → List PktN → List PktN × Int
  | 0, _, acc => (acc, 0)
  | f + 1, k, acc => if p.data.length ≤ k then (acc, 0) else if 8192 ≤ p.off + ((k / 8 : Nat) : Int) then ([], 2) else splL p M f (k + M) (acc ++ [pieceAt p M k])
def mostOf (p : PktN) (mtu : Int) : Nat := ((mtu - (20 + p.opts.length)) / 8 * 8).toNat
def splitP (p : PktN) (mtu : Int) : List PktN × Int :=
  if pktMay p = false then ([], 2) else if 20 + (p.opts.length : Int) + p.data.length ≤ mtu then ([p], 0) else if mtu < 28 + (p.opts.length : Int) then ([], 2) else if p.df = true then ([], 14)
  else splL p (mostOf p mtu) p.data.length 0 []
/-- What is known at each round of Split. -/
structure SpK (p : PktN) (mtu : Int) where
  acc : List PktN
  k : Nat
  f : Nat
  hf : p.data.length ≤ k + f
  h : splitP p mtu = splL p (mostOf p mtu) f k acc
  hk : k ≤ p.data.length + mostOf p mtu
  hl : acc.length * 8 ≤ k
def spI (p : PktN) (mtu : Int) (acc : List PktN) (k : Nat) : AE := match acc with
  | [] => ⟨[(9, .v (i64 k)), (7, .v (i64 (mostOf p mtu : Int))), (8, .z), (2, .p 0 0)], [(true, pktL p)]⟩
  | r :: acc => ⟨[(9, .v (i64 k)), (7, .v (i64 (mostOf p mtu : Int))), (8, .r 2 87 11 (.sl 11 (pktsL (r :: acc)))), (2, .p 0 0)], [(true, pktL p), (true, pktL r), (true, [])]⟩
set_option maxRecDepth 100000 in
set_option maxHeartbeats 2000000 in
theorem fgSplit_n (p : PktN) (mtu : Int) (hp : p.ok) (hm : I64ok mtu) (ho : p.opts.length ≤ 100000) (hd : p.data.length ≤ 1000000) : ASpec Try.prog 47 [pktA p, i64 mtu] (.tup [pktsV (splitP p mtu).1, i64 (splitP p mtu).2]) := by
  have w1 : IntKind.i64.wrap ((20 + (p.opts.length : Int)) + (p.data.length : Int)) = (20 + (p.opts.length : Int)) + (p.data.length : Int) := i64_in (by omega) (by omega)
  have w2 : IntKind.i64.wrap ((20 + (p.opts.length : Int)) + 8) = (20 + (p.opts.length : Int)) + 8 := i64_in (by omega) (by omega)
  refine ASpec.of_body TT_ok Try.mixed _ [.tmp 4, .tmp 5] ([], [(20, 4000)]) Try.func47 (by kernel_rfl) rfl rfl (by simp only [Try.ntmps47, List.length_cons, List.length_nil]; omega) rfl (by kernel_rfl) ?_
  simp only [argE_cons, argE_nil, ac_seq, ac_region, at_normal, ao_nil, ao_cons, as_call, as_box, as_assign, as_load, pktL, pktA, u8A, u16A, u32A, i64, boA, fr_false, List.contains_nil, beq_self_eq_true, hk_some, hopG, rd, aopsD, heapF, frzW, frzR, constT, evT, lk, putT, loadF, cellsF, argsF, constA, cellA, TK.isAgg, List.length_cons, List.length_nil, List.getElem?_cons_zero, List.drop_zero, List.take_succ_cons, List.take_nil, List.nil_append, Option.map_some, Nat.reduceAdd, Nat.reduceSub, Nat.reduceEqDiff, Nat.reduceLeDiff, true_and, eq_self, Bool.false_eq_true, ↓reduceIte, Nat.zero_add, Nat.le_refl, TT87]
  refine ACall.intro (ipSize_a p ho) ?_
  simp only [ac_seq, ac_block, ac_region, at_normal, ao_nil, ao_cons, as_call, as_assign, as_load, i64, fr_false, List.contains_nil, beq_self_eq_true, hk_some, hopG, rd, aopsD, frzW, frzR, evT, lk, putT, loadF, argsF, TK.isAgg, List.length_cons, List.length_nil, List.getElem?_cons_zero, List.drop_zero, List.take_succ_cons, List.take_nil, Option.map_some, Nat.reduceAdd, Nat.reduceSub, Nat.reduceEqDiff, Nat.reduceLeDiff, true_and, eq_self, Bool.false_eq_true, ↓reduceIte, Nat.zero_add, Nat.le_refl, TT87]
  refine ACall.intro (ipCheck_a p ho hd) ?_
  cases c1 : pktMay p
  · have P : splitP p mtu = ([], 2) := if_pos c1
    simp only [ac_ret, ac_seq, ac_cond, ac_region, at_normal, at_ret, ab_ret, ae_ret, ao_nil, ao_cons, if_t, as_assign, as_binOp, i64, fr_false, List.contains_nil, beq_self_eq_true, decide_false, Int.reduceEq, hk_some, hopG, rd, aopsD, constT, evT, lk, putT, binF, resF, resL, constA, cellA, Option.map_some, Option.bind_some, Nat.reduceSub, Nat.reduceEqDiff, Nat.reduceLeDiff, true_and, and_true, eq_self, Bool.false_eq_true, Bool.not_false, ↓reduceIte, TT56]
    rw [P]
    rfl
  · simp only [w1, ac_seq, ac_cond, ac_region, at_normal, ao_nil, ao_cons, if_f, as_move, as_assign, as_binOp, as_load, as_fieldAddr, as_len, i64, fr_false, List.contains_nil, beq_self_eq_true, decide_true, hk_some, hopG, hopF, rd, aopsD, constT, evT, lk, putT, lenF, binF, loadF, constA, cellA, TK.isAgg, List.getElem?_cons_zero, List.getElem?_cons_succ, List.drop_zero, List.drop_succ_cons, Option.map_some, Nat.reduceSub, Nat.reduceEqDiff, Nat.reduceLeDiff, Nat.succ_ne_zero, ne_eq, not_false_eq_true, true_and, eq_self, reduceCtorEq, Bool.false_eq_true, Bool.not_true, ↓reduceIte, Nat.zero_add, TT3, TT38, TT56, TT87]
    cases c2 : decide ((20 + (p.opts.length : Int)) + (p.data.length : Int) ≤ mtu)
    · rw [dF] at c2
      simp only [w2, ac_seq, ac_cond, ac_region, at_normal, ao_nil, ao_cons, if_f, as_move, as_assign, as_binOp, fr_false, List.contains_nil, beq_self_eq_true, hk_some, hopG, rd, aopsD, constT, evT, lk, putT, binF, constA, cellA, Option.map_some, Nat.reduceSub, Nat.reduceEqDiff, Nat.reduceLeDiff, true_and, eq_self, reduceCtorEq, Bool.false_eq_true, ↓reduceIte, TT3]
      have hMay : p.opts.length ≤ 40 ∧ p.off < 8192 ∧ p.data.length ≤ 65515 := by simp [pktMay] at c1; omega
      cases c3 : decide (mtu < 20 + (p.opts.length : Int) + 8)
      · rw [dF] at c3
        simp only [ac_seq, ac_cond, ac_region, at_normal, ao_nil, ao_cons, if_f, as_assign, as_load, as_fieldAddr, fr_false, List.contains_nil, beq_self_eq_true, hk_some, hopG, rd, aopsD, evT, lk, putT, loadF, TK.isAgg, List.getElem?_cons_zero, List.getElem?_cons_succ, List.drop_zero, List.drop_succ_cons, Option.map_some, Nat.reduceSub, Nat.reduceEqDiff, Nat.reduceLeDiff, Nat.succ_ne_zero, ne_eq, not_false_eq_true, true_and, eq_self, Bool.false_eq_true, ↓reduceIte, Nat.zero_add, TT4, TT87]
        refine AIf.intro (fun c4 => ?_) (fun c4 => ?_)
        rotate_left
        · have P : splitP p mtu = splL p (mostOf p mtu) p.data.length 0 [] := by unfold splitP; rw [if_neg (by simp [c1]), if_neg (by omega), if_neg (by omega), if_neg (by simp [c4])]
          have hM8 : 8 ≤ mostOf p mtu := by unfold mostOf; omega
          have hMu : mostOf p mtu ≤ 70000 := by unfold mostOf; omega
          have w3 : IntKind.i64.wrap (mtu - (20 + (p.opts.length : Int))) = mtu - (20 + (p.opts.length : Int)) := i64_in (by omega) (by omega)
          have w4 : (mtu - (20 + (p.opts.length : Int))).tdiv 8 = (mtu - (20 + (p.opts.length : Int))) / 8 := tdivN (by omega)
          have w5 : IntKind.i64.wrap ((mtu - (20 + (p.opts.length : Int))) / 8) = (mtu - (20 + (p.opts.length : Int))) / 8 := i64_in (by omega) (by omega)
          have w6 : IntKind.i64.wrap ((mtu - (20 + (p.opts.length : Int))) / 8 * 8) = (mostOf p mtu : Int) := by rw [i64_in (by omega) (by omega)]; unfold mostOf; omega
          simp only [w3, w4, w5, w6, ac_skip, ac_seq, ac_block, ac_region, ac_loop, at_normal, ab_normal, ao_nil, ao_cons, as_move, as_assign, as_binOp, fr_false, List.contains_nil, beq_self_eq_true, Int.reduceEq, hk_some, hopG, rd, aopsD, constT, evT, lk, putT, binF, constA, cellA, Option.map_some, Nat.reduceSub, Nat.reduceEqDiff, Nat.reduceLeDiff, ne_eq, not_false_eq_true, true_and, and_self, eq_self, reduceCtorEq, Bool.false_eq_true, ↓reduceIte, TT3]
          refine .inr ⟨SpK p mtu, fun x => spI p mtu x.acc x.k, fun x => p.data.length + mostOf p mtu - x.k, ⟨[], 0, p.data.length, by omega, P, by omega, by simp⟩, ⟨rfl, le4 rfl rfl rfl rfl trivial trivial trivial (by show (0 : Nat) < 1; decide)⟩, ?_⟩
          rintro ⟨acc, k, f, hf, hs, hk, hl⟩
          have hof := hp.off
          have hex : ∃ n, n = min (mostOf p mtu) (p.data.length - k) := ⟨_, rfl⟩
          obtain ⟨n, hn⟩ := hex
          have w7 : IntKind.i64.wrap p.off = p.off := i64_in (by omega) (by omega)
          have w8 : ((k : Int)).tdiv 8 = ((k / 8 : Nat) : Int) := by rw [tdivN (by omega)]; omega
          have w9 : IntKind.i64.wrap ((k / 8 : Nat) : Int) = ((k / 8 : Nat) : Int) := i64_in (by omega) (by omega)
          have w10 : IntKind.i64.wrap (p.off + ((k / 8 : Nat) : Int)) = p.off + ((k / 8 : Nat) : Int) := i64_in (by omega) (by omega)
          have w11 : IntKind.i64.wrap ((k : Int) + (mostOf p mtu : Int)) = ((k + mostOf p mtu : Nat) : Int) := by rw [i64_in (by omega) (by omega)]; omega
          have htf : (true == false) = false := rfl
          cases acc with
          | nil =>
            simp only [spI, ac_seq, ac_cond, ac_region, at_normal, ao_nil, ao_cons, as_move, as_binOp, as_load, as_fieldAddr, as_len, pktL, u8A, u16A, u32A, i64, boA, fr_false, List.contains_nil, beq_self_eq_true, hk_some, hopG, hopF, rd, aopsD, evT, lk, putT, lenF, binF, loadF, TK.isAgg, List.getElem?_cons_zero, List.getElem?_cons_succ, List.drop_zero, List.drop_succ_cons, Option.map_some, Nat.reduceSub, Nat.reduceEqDiff, Nat.reduceLeDiff, Nat.succ_ne_zero, ne_eq, not_false_eq_true, true_and, eq_self, Bool.false_eq_true, ↓reduceIte, Nat.zero_add, TT3, TT38, TT87]
            cases c5 : decide ((k : Int) < (p.data.length : Int))
            · rw [dF] at c5
              simp only [ac_exit, ac_ret, ac_seq, ac_region, at_normal, at_exit, ab_exit, ae_ret, ao_nil, ao_cons, if_f, as_move, as_assign, fr_false, List.contains_nil, beq_self_eq_true, rd, aopsD, constT, evT, lk, putT, resF, resL, constA, cellA, Option.map_some, Option.bind_some, Nat.reduceSub, Nat.reduceEqDiff, Nat.reduceLeDiff, true_and, and_true, eq_self, Bool.false_eq_true, ↓reduceIte]
              have hd : splitP p mtu = ([], 0) := by
                rw [hs]
                cases f with
                | zero => rfl
                | succ f => exact if_pos (by omega)
              rw [hd]
              rfl
            · rw [dT] at c5
              have w12 : IntKind.i64.wrap ((p.data.length : Int) - (k : Int)) = ((p.data.length - k : Nat) : Int) := by rw [i64_in (by omega) (by omega)]; omega
              have w13 : (if ((p.data.length - k : Nat) : Int) < (mostOf p mtu : Int) then ((p.data.length - k : Nat) : Int) else (mostOf p mtu : Int)) = (n : Int) := by split <;> omega
              have w14 : IntKind.i64.wrap ((k : Int) + (n : Int)) = ((k + n : Nat) : Int) := by rw [i64_in (by omega) (by omega)]; omega
              have hth : thereB p.data.length k n = true := thereB_iff.2 (by omega)
              have hcut : cutB p.data k n = (p.data.drop k).take (mostOf p mtu) := by
                rw [cutB, if_pos hth, Int.toNat_natCast, Int.toNat_natCast, hn, ← List.length_drop, ← List.take_eq_take_min]
              obtain ⟨f, rfl⟩ : ∃ g, f = g + 1 := ⟨f - 1, by omega⟩
              have hs2 : splitP p mtu = if 8192 ≤ p.off + ((k / 8 : Nat) : Int) then ([], 2) else splL p (mostOf p mtu) f (k + mostOf p mtu) ([] ++ [pieceAt p (mostOf p mtu) k]) := by
                rw [hs, splL, if_neg (by omega)]
              simp only [w7, w8, w9, w10, ac_skip, ac_seq, ac_block, ac_cond, ac_region, at_normal, ao_nil, ao_cons, if_t, as_alloc, as_store, as_move, as_assign, as_binOp, as_convert, as_load, as_fieldAddr, fr_false, List.contains_nil, beq_self_eq_true, Bool.and_self, Int.reduceEq, hk_some, hopG, rd, aopsD, heapF, frzW, frzR, constT, evT, lk, putT, binF, convF, loadF, cellsF, ovw, okCell, constA, cellA, TK.isAgg, Value.oneCell', List.length_cons, List.length_nil, List.getElem?_cons_zero, List.getElem?_cons_succ, List.drop_zero, List.drop_succ_cons, List.take_succ_cons, List.take_nil, List.set_cons_zero, List.set_cons_succ, List.nil_append, List.cons_append, List.all_cons, List.all_nil, Option.map_some, Nat.reduceAdd, Nat.reduceSub, Nat.reduceEqDiff, Nat.reduceLeDiff, Nat.succ_ne_zero, ne_eq, not_false_eq_true, true_and, and_self, eq_self, Bool.false_eq_true, ↓reduceIte, Nat.zero_add, Nat.le_refl, TT3, TT23, TT87]
              cases c6 : decide (8192 ≤ p.off + ((k / 8 : Nat) : Int))
              · rw [dF] at c6
                rw [if_neg c6] at hs2
                have w15 : IntKind.u16.wrap (p.off + ((k / 8 : Nat) : Int)) = p.off + ((k / 8 : Nat) : Int) := u16_in (by omega) (by omega)
                simp only [w12, w13, ac_skip, ac_seq, ac_region, at_normal, ao_nil, ao_cons, if_f, as_move, as_assign, as_binOp, as_load, as_fieldAddr, as_len, as_min, fr_false, List.contains_nil, beq_self_eq_true, hk_some, hopG, hopF, rd, aopsD, tlN, evT, lk, putT, lenF, binF, loadF, TK.isAgg, List.getElem?_cons_zero, List.getElem?_cons_succ, List.drop_zero, List.drop_succ_cons, Option.map_some, Nat.reduceSub, Nat.reduceEqDiff, Nat.reduceLeDiff, Nat.succ_ne_zero, ne_eq, not_false_eq_true, true_and, eq_self, Bool.false_eq_true, ↓reduceIte, Nat.zero_add, Nat.le_refl, TT3, TT38, TT87]
                cases hmf : p.mf
                · have hpc : pieceAt p (mostOf p mtu) k = { p with off := p.off + ((k / 8 : Nat) : Int), mf := decide (((k + n : Nat) : Int) < (p.data.length : Int)), data := (p.data.drop k).take (mostOf p mtu) } := by rw [pieceAt, hn, hmf, Bool.false_or]
                  refine ⟨(.first 0 (.first 1 (.first 2 (.first 13 (.node 3 (.first 4 (.first 5 (.first 6 (.first 7 (.first 8 (.node 9 (.node 10 (.first 11 (.first 12 (.node 14 (.first 15 (.node 16 .nil .nil)) .nil))) (.node 14 (.node 10 (.first 11 (.first 12 (.first 15 (.node 16 .nil .nil)))) .nil) .nil)) (.node 14 (.node 9 (.node 10 (.first 11 (.first 12 (.first 15 (.node 16 .nil .nil)))) .nil) .nil) .nil))))))) .nil))))), by kernel_rfl, ?_⟩
                  repeat' (first
                    | with_reducible refine And.intro ?_ ?_
                    | refine ACall.intro (join1_a p.opts (by omega)) ?_
                    | refine ACall.intro (cut_a p.data k n (by omega) (by simp only [small]; omega)) ?_
                    | (simp only [hcut, hth, w14, w15, w11, ac_seq, ac_region, at_normal, ab_normal, ao_nil, ao_cons, st_at, pk_at, if_t, if_f, as_pick, as_call, as_store, as_move, as_assign, as_binOp, as_convert, as_load, as_fieldAddr, as_extract, as_buildSlice, af_nil, af_nil_f, af_node, af_first, an_step, af_step, an_step_g, af_step_g, freeF, isOne, as_len, boA, fr_false, List.contains_nil, beq_self_eq_true, Bool.and_self, hk_some, hopG, hopF, rd, aopsD, heapF, as_append, appF, frzW, frzR, evT, lk, putT, GV, gdst, lenF, binF, convF, loadF, cellsF, ovw, fillF, makeSF, partsF, argsF, okCell, TK.isAgg, Value.oneCell', List.length_cons, List.length_nil, List.map_cons, List.map_nil, List.getElem?_cons_zero, List.getElem?_cons_succ, List.drop_zero, List.drop_succ_cons, List.take_succ_cons, List.take_nil, List.set_cons_zero, List.set_cons_succ, List.nil_append, List.cons_append, List.replicate_succ, List.replicate_zero, List.flatten_cons, List.flatten_nil, List.append_nil, List.all_cons, List.all_nil, Option.map_some, Nat.reduceAdd, Nat.reduceMul, Nat.reduceSub, Nat.reduceEqDiff, Nat.reduceLeDiff, Nat.succ_ne_zero, ne_eq, not_false_eq_true, true_and, and_true, and_self, eq_self, Bool.false_eq_true, ↓reduceIte, Nat.zero_mul, Nat.mul_one, Nat.zero_add, Nat.zero_lt_succ, Nat.le_refl, TT3, TT4, TT23, TT38, TT84, TT87, TT143]))
                  all_goals exact ⟨⟨[pieceAt p (mostOf p mtu) k], k + mostOf p mtu, f, by omega, hs2, by omega, by simp; omega⟩, ⟨congrArg (fun z => [(true, pktL { p with mf := false }), (true, pktL z), (true, [])]) hpc.symm, le4 rfl rfl (congrArg (fun z => TV.r 2 87 11 (.sl 11 z)) (show pktL _ = pktsL [pieceAt p (mostOf p mtu) k] by rw [hpc]; rfl)) rfl trivial trivial (by show (2 : Nat) < 3; decide) (by show (0 : Nat) < 3; decide)⟩, by show p.data.length + mostOf p mtu - (k + mostOf p mtu) < p.data.length + mostOf p mtu - k; omega⟩
                · have hpc : pieceAt p (mostOf p mtu) k = { p with off := p.off + ((k / 8 : Nat) : Int), mf := true, data := (p.data.drop k).take (mostOf p mtu) } := by rw [pieceAt, hmf, Bool.true_or]
                  refine ⟨(.first 0 (.first 1 (.first 2 (.first 13 (.node 3 (.first 4 (.first 5 (.first 6 (.first 7 (.first 8 (.node 9 (.node 10 (.first 11 (.first 12 (.node 14 (.first 15 (.node 16 .nil .nil)) .nil))) (.node 14 (.node 10 (.first 11 (.first 12 (.first 15 (.node 16 .nil .nil)))) .nil) .nil)) (.node 14 (.node 9 (.node 10 (.first 11 (.first 12 (.first 15 (.node 16 .nil .nil)))) .nil) .nil) .nil))))))) .nil))))), by kernel_rfl, ?_⟩
                  repeat' (first
                    | with_reducible refine And.intro ?_ ?_
                    | refine ACall.intro (join1_a p.opts (by omega)) ?_
                    | refine ACall.intro (cut_a p.data k n (by omega) (by simp only [small]; omega)) ?_
                    | (simp only [hcut, hth, w15, w11, htf, ac_seq, ac_region, at_normal, ab_normal, ao_nil, ao_cons, sk_at, pk_at, if_t, if_f, as_pick, as_call, as_store, as_move, as_assign, as_binOp, as_convert, as_load, as_fieldAddr, as_extract, as_buildSlice, af_nil, af_nil_f, af_node, af_first, an_step, af_step, an_step_g, af_step_g, freeF, isOne, boA, fr_false, List.contains_nil, beq_self_eq_true, Bool.and_self, hk_some, hopG, rd, aopsD, heapF, as_append, appF, frzW, frzR, constT, evT, lk, putT, GV, gdst, binF, convF, loadF, cellsF, ovw, fillF, makeSF, partsF, argsF, okCell, constA, cellA, TK.isAgg, Value.oneCell', List.length_cons, List.length_nil, List.map_cons, List.map_nil, List.getElem?_cons_zero, List.getElem?_cons_succ, List.drop_zero, List.drop_succ_cons, List.take_succ_cons, List.take_nil, List.set_cons_zero, List.set_cons_succ, List.nil_append, List.cons_append, List.replicate_succ, List.replicate_zero, List.flatten_cons, List.flatten_nil, List.append_nil, List.all_cons, List.all_nil, Option.map_some, Nat.reduceAdd, Nat.reduceMul, Nat.reduceSub, Nat.reduceEqDiff, Nat.reduceLeDiff, Nat.succ_ne_zero, ne_eq, not_false_eq_true, true_and, and_true, and_self, eq_self, Bool.false_eq_true, ↓reduceIte, Nat.zero_mul, Nat.mul_one, Nat.zero_add, Nat.zero_lt_succ, Nat.le_refl, TT3, TT4, TT23, TT38, TT84, TT87, TT143]))
                  all_goals exact ⟨⟨[pieceAt p (mostOf p mtu) k], k + mostOf p mtu, f, by omega, hs2, by omega, by simp; omega⟩, ⟨congrArg (fun z => [(true, pktL { p with mf := true }), (true, pktL z), (true, [])]) hpc.symm, le4 rfl rfl (congrArg (fun z => TV.r 2 87 11 (.sl 11 z)) (show pktL _ = pktsL [pieceAt p (mostOf p mtu) k] by rw [hpc]; rfl)) rfl trivial trivial (by show (2 : Nat) < 3; decide) (by show (0 : Nat) < 3; decide)⟩, by show p.data.length + mostOf p mtu - (k + mostOf p mtu) < p.data.length + mostOf p mtu - k; omega⟩
              · rw [dT] at c6
                rw [if_pos c6] at hs2
                simp only [ac_ret, ac_seq, ac_region, at_normal, at_ret, ab_ret, ae_ret, ao_nil, ao_cons, if_t, as_assign, fr_false, List.contains_nil, beq_self_eq_true, rd, aopsD, constT, evT, lk, putT, resF, resL, constA, cellA, Option.map_some, Option.bind_some, Nat.reduceSub, Nat.reduceEqDiff, Nat.reduceLeDiff, true_and, and_true, eq_self, Bool.false_eq_true, ↓reduceIte]
                rw [hs2]
                rfl
          | cons r acc =>
            simp only [spI, ac_seq, ac_cond, ac_region, at_normal, ao_nil, ao_cons, as_move, as_binOp, as_load, as_fieldAddr, as_len, pktL, u8A, u16A, u32A, i64, boA, fr_false, List.contains_nil, beq_self_eq_true, hk_some, hopG, hopF, rd, aopsD, evT, lk, putT, lenF, binF, loadF, TK.isAgg, List.getElem?_cons_zero, List.getElem?_cons_succ, List.drop_zero, List.drop_succ_cons, Option.map_some, Nat.reduceSub, Nat.reduceEqDiff, Nat.reduceLeDiff, Nat.succ_ne_zero, ne_eq, not_false_eq_true, true_and, eq_self, Bool.false_eq_true, ↓reduceIte, Nat.zero_add, TT3, TT38, TT87]
            cases c5 : decide ((k : Int) < (p.data.length : Int))
            · rw [dF] at c5
              simp only [ac_exit, ac_ret, ac_seq, ac_region, at_normal, at_exit, ab_exit, ae_ret, ao_nil, ao_cons, if_f, as_move, as_assign, fr_false, fr_nil, fr_cons, List.contains_nil, beq_self_eq_true, rd, aopsD, constT, evT, lk, putT, resF, resL, constA, cellA, List.getElem?_cons_zero, List.getElem?_cons_succ, Option.map_some, Option.bind_some, Nat.reduceSub, Nat.reduceEqDiff, Nat.reduceLeDiff, true_and, and_true, eq_self, Bool.false_eq_true, ↓reduceIte]
              have hd : splitP p mtu = ((r :: acc), 0) := by
                rw [hs]
                cases f with
                | zero => rfl
                | succ f => exact if_pos (by omega)
              rw [hd]
              rfl
            · rw [dT] at c5
              have w12 : IntKind.i64.wrap ((p.data.length : Int) - (k : Int)) = ((p.data.length - k : Nat) : Int) := by rw [i64_in (by omega) (by omega)]; omega
              have w13 : (if ((p.data.length - k : Nat) : Int) < (mostOf p mtu : Int) then ((p.data.length - k : Nat) : Int) else (mostOf p mtu : Int)) = (n : Int) := by split <;> omega
              have w14 : IntKind.i64.wrap ((k : Int) + (n : Int)) = ((k + n : Nat) : Int) := by rw [i64_in (by omega) (by omega)]; omega
              have hth : thereB p.data.length k n = true := thereB_iff.2 (by omega)
              have hcut : cutB p.data k n = (p.data.drop k).take (mostOf p mtu) := by
                rw [cutB, if_pos hth, Int.toNat_natCast, Int.toNat_natCast, hn, ← List.length_drop, ← List.take_eq_take_min]
              obtain ⟨f, rfl⟩ : ∃ g, f = g + 1 := ⟨f - 1, by omega⟩
              have hs2 : splitP p mtu = if 8192 ≤ p.off + ((k / 8 : Nat) : Int) then ([], 2) else splL p (mostOf p mtu) f (k + mostOf p mtu) ((r :: acc) ++ [pieceAt p (mostOf p mtu) k]) := by
                rw [hs, splL, if_neg (by omega)]
              simp only [w7, w8, w9, w10, ac_skip, ac_seq, ac_block, ac_cond, ac_region, at_normal, ao_nil, ao_cons, if_t, as_alloc, as_store, as_move, as_assign, as_binOp, as_convert, as_load, as_fieldAddr, fr_false, List.contains_nil, beq_self_eq_true, Bool.and_self, Int.reduceEq, hk_some, hopG, rd, aopsD, heapF, frzW, frzR, constT, evT, lk, putT, binF, convF, loadF, cellsF, ovw, okCell, constA, cellA, TK.isAgg, Value.oneCell', List.length_cons, List.length_nil, List.getElem?_cons_zero, List.getElem?_cons_succ, List.drop_zero, List.drop_succ_cons, List.take_succ_cons, List.take_nil, List.set_cons_zero, List.set_cons_succ, List.nil_append, List.cons_append, List.all_cons, List.all_nil, Option.map_some, Nat.reduceAdd, Nat.reduceSub, Nat.reduceEqDiff, Nat.reduceLeDiff, Nat.succ_ne_zero, ne_eq, not_false_eq_true, true_and, and_self, eq_self, Bool.false_eq_true, ↓reduceIte, Nat.zero_add, Nat.le_refl, TT3, TT23, TT87]
              cases c6 : decide (8192 ≤ p.off + ((k / 8 : Nat) : Int))
              · rw [dF] at c6
                rw [if_neg c6] at hs2
                have w15 : IntKind.u16.wrap (p.off + ((k / 8 : Nat) : Int)) = p.off + ((k / 8 : Nat) : Int) := u16_in (by omega) (by omega)
                simp only [w12, w13, ac_skip, ac_seq, ac_region, at_normal, ao_nil, ao_cons, if_f, as_move, as_assign, as_binOp, as_load, as_fieldAddr, as_len, as_min, fr_false, List.contains_nil, beq_self_eq_true, hk_some, hopG, hopF, rd, aopsD, tlN, evT, lk, putT, lenF, binF, loadF, TK.isAgg, List.getElem?_cons_zero, List.getElem?_cons_succ, List.drop_zero, List.drop_succ_cons, Option.map_some, Nat.reduceSub, Nat.reduceEqDiff, Nat.reduceLeDiff, Nat.succ_ne_zero, ne_eq, not_false_eq_true, true_and, eq_self, Bool.false_eq_true, ↓reduceIte, Nat.zero_add, Nat.le_refl, TT3, TT38, TT87]
                cases hmf : p.mf
                · have hpc : pieceAt p (mostOf p mtu) k = { p with off := p.off + ((k / 8 : Nat) : Int), mf := decide (((k + n : Nat) : Int) < (p.data.length : Int)), data := (p.data.drop k).take (mostOf p mtu) } := by rw [pieceAt, hn, hmf, Bool.false_or]
                  refine ⟨(.first 0 (.first 1 (.first 2 (.first 13 (.node 3 (.first 4 (.first 5 (.first 6 (.first 7 (.first 8 (.node 9 (.node 10 (.first 11 (.first 12 (.node 14 (.first 15 (.node 16 .nil .nil)) .nil))) (.node 14 (.node 10 (.first 11 (.first 12 (.first 15 (.node 16 .nil .nil)))) .nil) .nil)) (.node 14 (.node 9 (.node 10 (.first 11 (.first 12 (.first 15 (.node 16 .nil .nil)))) .nil) .nil) .nil))))))) .nil))))), by kernel_rfl, ?_⟩
                  repeat' (first
                    | with_reducible refine And.intro ?_ ?_
                    | refine ACall.intro (join1_a p.opts (by omega)) ?_
                    | refine ACall.intro (cut_a p.data k n (by omega) (by simp only [small]; omega)) ?_
                    | (simp only [hcut, hth, w14, w15, w11, ac_seq, ac_region, at_normal, ab_normal, ao_nil, ao_cons, st_at, pk_at, if_t, if_f, as_pick, as_call, as_store, as_move, as_assign, as_binOp, as_convert, as_load, as_fieldAddr, as_extract, as_buildSlice, af_nil, af_nil_f, af_node, af_first, an_step, af_step, an_step_g, af_step_g, freeF, isOne, as_len, boA, fr_false, List.contains_nil, beq_self_eq_true, Bool.and_self, hk_some, hopG, hopF, rd, aopsD, heapF, as_append, appF, catA, dropT, dropV, frzW, frzR, evT, lk, putT, GV, gdst, lenF, binF, convF, loadF, cellsF, ovw, fillF, makeSF, partsF, argsF, okCell, TK.isAgg, Value.oneCell', List.length_cons, List.length_nil, List.map_cons, List.map_nil, List.getElem?_cons_zero, List.getElem?_cons_succ, List.drop_zero, List.drop_succ_cons, List.take_succ_cons, List.take_nil, List.set_cons_zero, List.set_cons_succ, List.replicate_succ, List.replicate_zero, List.flatten_cons, List.flatten_nil, List.append_nil, List.all_cons, List.all_nil, Option.map_some, Nat.reduceAdd, Nat.reduceMul, Nat.reduceSub, Nat.reduceEqDiff, Nat.reduceLeDiff, Nat.succ_ne_zero, ne_eq, not_false_eq_true, true_and, and_true, and_self, eq_self, reduceCtorEq, Bool.false_eq_true, ↓reduceIte, Nat.zero_mul, Nat.mul_one, Nat.zero_add, Nat.zero_lt_succ, Nat.le_refl, TT3, TT4, TT23, TT38, TT84, TT87, TT143]))
                  all_goals first | (rw [pktsL_len]; simp only [List.length_cons] at hl ⊢; omega) | exact ⟨⟨r :: (acc ++ [pieceAt p (mostOf p mtu) k]), k + mostOf p mtu, f, by omega, hs2, by omega, by simp only [List.length_cons, List.length_append, List.length_nil] at hl ⊢; omega⟩, ⟨rfl, le4 rfl rfl (congrArg (fun z => TV.r 2 87 11 (.sl 11 z)) (show pktsL (r :: acc) ++ pktL _ = pktsL ((r :: acc) ++ [pieceAt p (mostOf p mtu) k]) by rw [hpc, pkts_snoc])) rfl trivial trivial (by show (2 : Nat) < 3; decide) (by show (0 : Nat) < 3; decide)⟩, by show p.data.length + mostOf p mtu - (k + mostOf p mtu) < p.data.length + mostOf p mtu - k; omega⟩
                · have hpc : pieceAt p (mostOf p mtu) k = { p with off := p.off + ((k / 8 : Nat) : Int), mf := true, data := (p.data.drop k).take (mostOf p mtu) } := by rw [pieceAt, hmf, Bool.true_or]
                  refine ⟨(.first 0 (.first 1 (.first 2 (.first 13 (.node 3 (.first 4 (.first 5 (.first 6 (.first 7 (.first 8 (.node 9 (.node 10 (.first 11 (.first 12 (.node 14 (.first 15 (.node 16 .nil .nil)) .nil))) (.node 14 (.node 10 (.first 11 (.first 12 (.first 15 (.node 16 .nil .nil)))) .nil) .nil)) (.node 14 (.node 9 (.node 10 (.first 11 (.first 12 (.first 15 (.node 16 .nil .nil)))) .nil) .nil) .nil))))))) .nil))))), by kernel_rfl, ?_⟩
                  repeat' (first
                    | with_reducible refine And.intro ?_ ?_
                    | refine ACall.intro (join1_a p.opts (by omega)) ?_
                    | refine ACall.intro (cut_a p.data k n (by omega) (by simp only [small]; omega)) ?_
                    | (simp only [hcut, hth, w15, w11, htf, ac_seq, ac_region, at_normal, ab_normal, ao_nil, ao_cons, sk_at, pk_at, if_t, if_f, as_pick, as_call, as_store, as_move, as_assign, as_binOp, as_convert, as_load, as_fieldAddr, as_extract, as_buildSlice, af_nil, af_nil_f, af_node, af_first, an_step, af_step, an_step_g, af_step_g, freeF, isOne, boA, fr_false, List.contains_nil, beq_self_eq_true, Bool.and_self, hk_some, hopG, rd, aopsD, heapF, as_append, appF, catA, dropT, dropV, frzW, frzR, constT, evT, lk, putT, GV, gdst, binF, convF, loadF, cellsF, ovw, fillF, makeSF, partsF, argsF, okCell, constA, cellA, TK.isAgg, Value.oneCell', List.length_cons, List.length_nil, List.map_cons, List.map_nil, List.getElem?_cons_zero, List.getElem?_cons_succ, List.drop_zero, List.drop_succ_cons, List.take_succ_cons, List.take_nil, List.set_cons_zero, List.set_cons_succ, List.replicate_succ, List.replicate_zero, List.flatten_cons, List.flatten_nil, List.append_nil, List.all_cons, List.all_nil, Option.map_some, Nat.reduceAdd, Nat.reduceMul, Nat.reduceSub, Nat.reduceEqDiff, Nat.reduceLeDiff, Nat.succ_ne_zero, ne_eq, not_false_eq_true, true_and, and_true, and_self, eq_self, reduceCtorEq, Bool.false_eq_true, ↓reduceIte, Nat.zero_mul, Nat.mul_one, Nat.zero_add, Nat.zero_lt_succ, Nat.le_refl, TT3, TT4, TT23, TT38, TT84, TT87, TT143]))
                  all_goals first | (rw [pktsL_len]; simp only [List.length_cons] at hl ⊢; omega) | exact ⟨⟨r :: (acc ++ [pieceAt p (mostOf p mtu) k]), k + mostOf p mtu, f, by omega, hs2, by omega, by simp only [List.length_cons, List.length_append, List.length_nil] at hl ⊢; omega⟩, ⟨rfl, le4 rfl rfl (congrArg (fun z => TV.r 2 87 11 (.sl 11 z)) (show pktsL (r :: acc) ++ pktL _ = pktsL ((r :: acc) ++ [pieceAt p (mostOf p mtu) k]) by rw [hpc, pkts_snoc])) rfl trivial trivial (by show (2 : Nat) < 3; decide) (by show (0 : Nat) < 3; decide)⟩, by show p.data.length + mostOf p mtu - (k + mostOf p mtu) < p.data.length + mostOf p mtu - k; omega⟩
              · rw [dT] at c6
                rw [if_pos c6] at hs2
                simp only [ac_ret, ac_seq, ac_region, at_normal, at_ret, ab_ret, ae_ret, ao_nil, ao_cons, if_t, as_assign, fr_false, List.contains_nil, beq_self_eq_true, rd, aopsD, constT, evT, lk, putT, resF, resL, constA, cellA, Option.map_some, Option.bind_some, Nat.reduceSub, Nat.reduceEqDiff, Nat.reduceLeDiff, true_and, and_true, eq_self, Bool.false_eq_true, ↓reduceIte]
                rw [hs2]
                rfl
        · have P : splitP p mtu = ([], 14) := by unfold splitP; rw [if_neg (by simp [c1]), if_neg (by omega), if_neg (by omega), if_pos c4]
          simp only [ac_ret, ac_seq, ac_region, at_normal, at_ret, ab_ret, ae_ret, ao_nil, ao_cons, as_assign, fr_false, List.contains_nil, beq_self_eq_true, rd, aopsD, constT, evT, lk, putT, resF, resL, constA, cellA, Option.map_some, Option.bind_some, Nat.reduceSub, Nat.reduceEqDiff, Nat.reduceLeDiff, true_and, and_true, eq_self, Bool.false_eq_true, ↓reduceIte]
          rw [P]
          rfl
      · rw [dT] at c3
        have P : splitP p mtu = ([], 2) := by unfold splitP; rw [if_neg (by simp [c1]), if_neg (by omega), if_pos (by omega)]
        simp only [ac_ret, ac_seq, ac_region, at_normal, at_ret, ab_ret, ae_ret, ao_nil, ao_cons, if_t, as_assign, fr_false, List.contains_nil, beq_self_eq_true, rd, aopsD, constT, evT, lk, putT, resF, resL, constA, cellA, Option.map_some, Option.bind_some, Nat.reduceSub, Nat.reduceEqDiff, Nat.reduceLeDiff, true_and, and_true, eq_self, Bool.false_eq_true, ↓reduceIte]
        rw [P]
        rfl
    · rw [dT] at c2
      have P : splitP p mtu = ([p], 0) := by unfold splitP; rw [if_neg (by simp [c1]), if_pos c2]
      simp only [ac_seq, ac_region, ao_cons, if_t, as_call, as_load, fr_false, List.contains_nil, beq_self_eq_true, hk_some, hopG, rd, aopsD, frzW, frzR, evT, lk, putT, loadF, argsF, TK.isAgg, List.length_cons, List.length_nil, List.getElem?_cons_zero, List.drop_zero, List.take_succ_cons, List.take_nil, Option.map_some, Nat.reduceAdd, Nat.reduceSub, Nat.reduceEqDiff, Nat.reduceLeDiff, true_and, eq_self, Bool.false_eq_true, ↓reduceIte, Nat.zero_add, Nat.le_refl, TT87]
      refine ACall.intro (fgOwn_a p ho hd) ?_
      simp only [ac_ret, at_normal, at_ret, ab_ret, ae_ret, ao_nil, ao_cons, as_assign, as_buildSlice, pktL, pktA, u8A, u16A, u32A, boA, beq_self_eq_true, hk_some, hopG, rd, frzW, frzR, constT, evT, lk, putT, cellsF, ovw, fillF, makeSF, partsF, resF, resL, constA, cellA, List.length_cons, List.length_nil, List.map_cons, List.map_nil, List.set_cons_zero, List.set_cons_succ, List.replicate_succ, List.replicate_zero, List.flatten_cons, List.flatten_nil, List.append_nil, Option.map_some, Option.bind_some, Nat.reduceAdd, Nat.reduceMul, Nat.reduceSub, Nat.reduceEqDiff, Nat.reduceLeDiff, true_and, and_true, and_self, eq_self, ↓reduceIte, Nat.zero_mul, Nat.zero_add, Nat.zero_lt_succ, Nat.le_refl, TT84, TT87]
      rw [P]
      rfl
theorem fgSplit_a (p : PktN) (mtu : Int) (hp : p.ok) (hm : I64ok mtu) (ho : p.opts.length ≤ 100000) (hd : p.data.length ≤ 1000000) : ASpec Try.prog 47 [pktA p, i64 mtu] (.tup [.sl 11 (pktsL (splitP p mtu).1), i64 (splitP p mtu).2]) :=
  (fgSplit_n p mtu hp hm ho hd).conv fun M w v h => by
    simp only [RepV] at h ⊢
    obtain ⟨us, rfl, h⟩ := h
    refine ⟨us, rfl, ?_⟩
    simp only [RepL] at h ⊢
    obtain ⟨v, vs, rfl, h1, h2⟩ := h
    exact ⟨v, vs, rfl, pktsV_rep _ h1, h2⟩
end Go.Proofs.Ythjojkkapboonaa
