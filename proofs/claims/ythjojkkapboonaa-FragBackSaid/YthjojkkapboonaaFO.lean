/- The reference's Order. -/
import Derived.Test.YthjojkkapboonaaBQ
import Derived.Test.YthjojkkapboonaaFB
namespace Go.Proofs.Ythjojkkapboonaa
set_option linter.unusedSimpArgs false
set_option linter.unusedVariables false
open Go.RowKit

def numL (l : List Int) : List AV := l.flatMap fun n => [i64 n]
theorem numL_map : ∀ (l : List Int), numL l = l.map fun n => i64 n
  | [] => rfl
  | n :: l => by
    have := numL_map l
    simp only [numL] at this
    simp only [numL, List.flatMap_cons, List.map_cons, this]
    rfl
theorem numL_len (l : List Int) : (numL l).length = l.length := by rw [numL_map, List.length_map]
theorem numL_drop (l : List Int) (k : Nat) (h : k < l.length) : (numL l).drop k = i64 (l.getD k 0) :: (numL l).drop (k + 1) := by
  rw [numL_map, List.drop_eq_getElem_cons (by simpa using h)]
  simp [List.getD, h]
theorem inF_bd (n hi : Int) (h : 0 ≤ hi) : 0 ≤ inF n 0 hi ∧ inF n 0 hi ≤ hi := by
  unfold inF
  split
  · omega
  · split <;> omega
def stepO (l : List PktN) (n : Int) : List PktN := if 1 < l.length then l.take (inF n 0 ((l.length : Int) - 1)).toNat ++ l.drop ((inF n 0 ((l.length : Int) - 1)).toNat + 1) ++ [l.getD (inF n 0 ((l.length : Int) - 1)).toNat pktZ] else l
def ordP (l : List PktN) (bs : List Int) : List PktN := (bs.take 40).foldl stepO l
theorem stepO_len (l : List PktN) (n : Int) : (stepO l n).length = l.length := by
  unfold stepO
  split
  · have := inF_bd n ((l.length : Int) - 1) (by omega)
    simp
    omega
  · rfl
theorem stepO_mem (l : List PktN) (n : Int) (x : PktN) : x ∈ stepO l n ↔ x ∈ l := by
  unfold stepO
  split
  · have := inF_bd n ((l.length : Int) - 1) (by omega)
    have hk : (inF n 0 ((l.length : Int) - 1)).toNat < l.length := by omega
    generalize (inF n 0 ((l.length : Int) - 1)).toNat = k at *
    have e : l = l.take k ++ (l.getD k pktZ :: l.drop (k + 1)) := by
      have h1 := List.drop_eq_getElem_cons hk
      rw [show l.getD k pktZ = l[k] by simp [List.getD, hk], ← h1, List.take_append_drop]
    constructor
    · intro h
      rw [e]
      simp only [List.mem_append, List.mem_cons, List.not_mem_nil, or_false] at h ⊢
      rcases h with (h | h) | h
      · exact .inl h
      · exact .inr (.inr h)
      · exact .inr (.inl h)
    · intro h
      rw [e] at h
      simp only [List.mem_append, List.mem_cons, List.not_mem_nil, or_false] at h ⊢
      rcases h with h | h | h
      · exact .inl (.inl h)
      · exact .inr h
      · exact .inl (.inr h)
  · exact Iff.rfl
theorem fold_len : ∀ (bs : List Int) (l : List PktN), (bs.foldl stepO l).length = l.length
  | [], l => rfl
  | b :: bs, l => by rw [List.foldl_cons, fold_len bs, stepO_len]
theorem fold_mem : ∀ (bs : List Int) (l : List PktN) (x : PktN), x ∈ bs.foldl stepO l ↔ x ∈ l
  | [], l, x => Iff.rfl
  | b :: bs, l, x => by rw [List.foldl_cons, fold_mem bs, stepO_mem]
theorem fold_one : ∀ (bs : List Int) (l : List PktN), ¬ 1 < l.length → bs.foldl stepO l = l
  | [], l, h => rfl
  | b :: bs, l, h => by rw [List.foldl_cons, show stepO l b = l from if_neg h, fold_one bs l h]
structure OrK (bs : List Int) where
  k : Nat
  hk : k ≤ bs.length
  h40 : k ≤ 40
def orI (l : List PktN) (bs : List Int) (k : Nat) : AE := ⟨[(6, .v (i64 k)), (1, .v (.sl 1 (numL bs))), (5, .v (.sl 11 (pktsL ((bs.take k).foldl stepO l))))], []⟩
set_option maxRecDepth 100000 in
set_option maxHeartbeats 2000000 in
theorem refOrder_a (l : List PktN) (bs : List Int) (hl : l.length ≤ 5000) : ASpec Try.prog 48 [.sl 11 (pktsL l), .sl 1 (numL bs)] (.sl 11 (pktsL (ordP l bs))) := by
  have hok := pkts_ok l
  have hpl := pktsL_len l
  have hb : (pktsL l).length ≤ 1000000 := by omega
  refine ASpec.of_bodyX TT_ok Try.mixed _ [.tmp 4] ([], [(3, 6000), (5, 6000)]) Try.func48 (by kernel_rfl) rfl rfl (by simp only [Try.ntmps48, List.length_cons, List.length_nil]; omega) rfl (by kernel_rfl) ?_
  simp only [hok, hb, argE_cons, argE_nil, at_normal, ao_nil, ao_cons, as_move, as_assign, as_buildSlice0, an_none, noneA, okNone, fr_false, fr_nil, fr_cons, List.contains_nil, beq_self_eq_true, rd, aopsD, as_append, appF, catA, dropT, dropV, tlN, constT, evT, lk, putT, constA, cellA, List.length_cons, List.length_nil, List.getElem?_cons_zero, List.nil_append, Option.map_some, Nat.reduceAdd, Nat.reduceSub, Nat.reduceEqDiff, Nat.reduceLeDiff, Nat.succ_ne_zero, true_and, and_self, eq_self, reduceCtorEq, ↓reduceIte, Nat.zero_add, Nat.zero_lt_succ, TT84, TT87, ax_seq, ax_block, ax_region_f, ax_loop, cvT, cvV, aregX]
  refine .inr ⟨OrK bs, fun x => orI l bs x.k, fun x => 40 - x.k, ⟨0, by omega, by omega⟩, ⟨rfl, le3 rfl rfl rfl trivial trivial trivial⟩, ?_⟩
  rintro ⟨k, hk, h40⟩
  obtain ⟨o, ho⟩ : ∃ o, o = (bs.take k).foldl stepO l := ⟨_, rfl⟩
  have hol : o.length = l.length := by rw [ho, fold_len]
  have hpd := pkts_div o
  have hpl2 := pktsL_len o
  have hnl := numL_len bs
  have hndiv : (numL bs).length / 1 = bs.length := by rw [hnl, Nat.div_one]
  have h0k : (0 : Int) ≤ (k : Int) := by omega
  simp only [orI, ← ho, hnl, Nat.div_one, ao_cons, ao_guard_t, as_move, as_binOp, as_len, i64, fr_false, List.contains_nil, beq_self_eq_true, hk_some, hopG, hopF, rd, aopsD, tlN, evT, lk, putT, GV, gdst, lenF, binF, Option.map_some, Nat.reduceSub, Nat.reduceEqDiff, Nat.reduceLeDiff, true_and, eq_self, reduceCtorEq, ↓reduceIte, Nat.zero_lt_succ, TT3, TT94, ax_seq, ax_region_f, aregX]
  by_cases c1 : k < bs.length
  · have d1 : decide ((k : Int) < (bs.length : Int)) = true := by simpa using c1
    simp only [d1, ao_cons, ao_guard_t, st_at, pk_at, if_t, as_pick, as_move, as_binOp, beq_self_eq_true, hk_some, hopG, rd, constT, evT, lk, putT, GV, gdst, binF, constA, cellA, Option.map_some, Nat.reduceSub, Nat.reduceEqDiff, true_and, eq_self, ↓reduceIte, TT3]
    by_cases c2 : k < 40
    · have d2 : decide ((k : Int) < 40) = true := decide_eq_true (by omega)
      simp only [d2, hpd, at_normal, ao_nil, ao_cons, ao_guard_t, st_at, pk_at, if_t, as_pick, as_move, as_binOp, as_len, beq_self_eq_true, hk_some, hopG, hopF, rd, constT, evT, lk, putT, GV, gdst, lenF, binF, constA, cellA, Option.map_some, Nat.reduceSub, Nat.reduceEqDiff, true_and, eq_self, ↓reduceIte, Nat.zero_lt_succ, TT3, TT84, ax_cond]
      by_cases c3 : 1 < o.length
      · have d3 : decide ((1 : Int) < (o.length : Int)) = true := decide_eq_true (by omega)
        have hkI : (k : Int) < (bs.length : Int) := by omega
        have hk1 : k + 1 ≤ bs.length := by omega
        have hnd := numL_drop bs k c1
        obtain ⟨b, hb2⟩ : ∃ b, b = bs.getD k 0 := ⟨_, rfl⟩
        rw [← hb2] at hnd
        have hbd := inF_bd b ((o.length : Int) - 1) (by omega)
        obtain ⟨m, hm⟩ := Int.eq_ofNat_of_zero_le hbd.1
        have hml : m < o.length := by omega
        have hat := pkts_at o m hml
        obtain ⟨x, hx⟩ : ∃ x, x = o.getD m pktZ := ⟨_, rfl⟩
        rw [← hx] at hat
        have htk : (bs.take (k + 1)).foldl stepO l = stepO o b := by
          rw [List.take_succ_eq_append_getElem c1, List.foldl_append, ← ho, hb2]
          simp [List.getD, c1]
        have hst : stepO o b = o.take m ++ o.drop (m + 1) ++ [x] := by rw [stepO, if_pos c3, hm, Int.toNat_natCast, ← hx]
        have w1 : IntKind.i64.wrap ((k : Int) + 1) = ((k + 1 : Nat) : Int) := by rw [i64_in (by omega) (by omega)]; omega
        have w2 : IntKind.i64.wrap ((o.length : Int) - 1) = (o.length : Int) - 1 := i64_in (by omega) (by omega)
        have w3 : IntKind.i64.wrap ((m : Int) + 1) = ((m + 1 : Nat) : Int) := by rw [i64_in (by omega) (by omega)]; omega
        have hd3 : (m + 1) * 11 ≤ (pktsL o).length := by omega
        have h0m : (0 : Int) ≤ (m : Int) := by omega
        have t1 : (pktsL o).take (m * 11) = pktsL (o.take m) := pkts_take o m
        have t2 : ((pktsL o).drop ((m + 1) * 11)).take ((o.length - (m + 1)) * 11) = pktsL (o.drop (m + 1)) := by
          rw [pkts_drop]
          exact List.take_of_length_le (by rw [pktsL_len, List.length_drop]; omega)
        have ok1 := pkts_ok (o.take m)
        have ok2 := pkts_ok (o.drop (m + 1))
        have l1 : (pktsL (o.take m)).length = m * 11 := by rw [pktsL_len, List.length_take]; omega
        have l2 : (pktsL (o.drop (m + 1))).length = (o.length - (m + 1)) * 11 := by rw [pktsL_len, List.length_drop]
        have b1 : m * 11 ≤ 1000000 := by omega
        have b2 : m * 11 + (o.length - (m + 1)) * 11 ≤ 1000000 := by omega
        have i1 : (m : Int) ≤ (o.length : Int) := by omega
        have i2 : ((m + 1 : Nat) : Int) ≤ (o.length : Int) := by omega
        have i3 : (0 : Int) ≤ ((m + 1 : Nat) : Int) := by omega
        have i4 : ((o.length : Int) - ((m + 1 : Nat) : Int)).toNat = o.length - (m + 1) := by omega
        simp only [d3, hpd, hnl, h0k, hk1, hnd, w2, Int.toNat_natCast, at_normal, ao_cons, if_t, as_call, as_move, as_binOp, as_load, as_indexAddr, as_len, i64, fr_false, List.contains_nil, beq_self_eq_true, hk_some, hopG, hopF, rd, aopsD, frzW, frzR, tlN, constT, evT, lk, putT, lenF, binF, loadF, argsF, constA, cellA, TK.isAgg, List.take_zero, List.take_succ_cons, Option.map_some, Nat.reduceSub, Nat.reduceEqDiff, Nat.reduceLeDiff, true_and, and_self, eq_self, reduceCtorEq, Bool.false_eq_true, ↓reduceIte, Nat.mul_one, Nat.zero_lt_succ, TT3, TT84, TT94, ax_skip, ax_seq, ax_block, ax_region_f, aregX]
        refine ACall.intro (in_a b 0 ((o.length : Int) - 1)) ?_
        rw [hm]
        simp only [hpd, w3, h0m, hat, hd3, t1, t2, ok1, ok2, l1, l2, b1, b2, i1, i2, i3, i4, Int.sub_zero, Int.toNat_natCast, w1, at_normal, ab_normal, ao_nil, ao_cons, as_alloc, as_store, as_move, as_assign, as_binOp, as_load, as_indexAddr, as_buildSlice, as_buildSlice0, an_none, noneA, okNone, as_slice, pktL, u8A, u16A, u32A, i64, boA, fr_false, fr_nil, fr_cons, List.contains_nil, beq_self_eq_true, Bool.and_self, hk_some, hopG, rd, aopsD, heapF, as_append, appF, catA, dropT, dropV, frzW, frzR, tlN, constT, evT, lk, putT, binF, loadF, cellsF, ovw, fillF, makeSF, bndF, cutF, partsF, okCell, constA, cellA, TK.isAgg, Value.oneCell', List.length_cons, List.length_nil, List.map_cons, List.map_nil, List.getElem?_cons_zero, List.getElem?_cons_succ, List.drop_zero, List.take_succ_cons, List.take_nil, List.set_cons_zero, List.set_cons_succ, List.nil_append, List.cons_append, List.replicate_succ, List.replicate_zero, List.flatten_cons, List.flatten_nil, List.append_nil, List.all_cons, List.all_nil, Option.map_some, Option.map_none, Option.bind_some, Nat.reduceAdd, Nat.reduceMul, Nat.reduceSub, Nat.reduceEqDiff, Nat.reduceLeDiff, true_and, and_true, and_self, eq_self, reduceCtorEq, ↓reduceIte, Int.toNat_zero, Int.reduceLE, Nat.zero_mul, Nat.zero_add, Nat.zero_lt_succ, Nat.le_refl, TT3, TT84, TT87, ax_seq, ax_region_f, cvT, cvV, aregX]
        have e : pktsL (o.take m) ++ pktsL (o.drop (m + 1)) ++ pktL x = pktsL ((bs.take (k + 1)).foldl stepO l) := by rw [htk, hst, pkts_snoc, pkts_app]
        refine ⟨by omega, by rw [List.length_append, l1, l2]; omega, ?_⟩
        exact ⟨⟨k + 1, by omega, by omega⟩, ⟨rfl, le3 rfl rfl (congrArg (fun z => TV.v (.sl 11 z)) e) trivial trivial trivial⟩, by show 40 - (k + 1) < 40 - k; omega⟩
      · have d3 : decide ((1 : Int) < (o.length : Int)) = false := decide_eq_false (by omega)
        have hf : ordP l bs = o := by rw [ordP, fold_one _ _ (by omega), ho, fold_one _ _ (by omega)]
        simp only [d3, at_normal, at_exit, ab_exit, ae_ret, ao_nil, ao_cons, if_f, as_move, as_assign, fr_false, List.contains_nil, beq_self_eq_true, rd, aopsD, tlN, evT, lk, putT, resF, resL, Option.map_some, Option.bind_some, Nat.reduceSub, Nat.reduceEqDiff, Nat.reduceLeDiff, true_and, and_true, eq_self, reduceCtorEq, ↓reduceIte, ax_exit, ax_ret, ax_seq, ax_region_f, aregX]
        rw [hf]
    · have d2 : decide ((k : Int) < 40) = false := decide_eq_false (by omega)
      have hf : ordP l bs = o := by rw [ordP, ho, show k = 40 by omega]
      simp only [d2, at_normal, at_exit, ab_exit, ae_ret, ao_nil, ao_cons, ao_guard_t, sk_at, pk_at, if_f, as_pick, as_move, as_assign, fr_false, List.contains_nil, beq_self_eq_true, rd, aopsD, tlN, constT, evT, lk, putT, GV, gdst, resF, resL, constA, cellA, Option.map_some, Option.bind_some, Nat.reduceSub, Nat.reduceEqDiff, Nat.reduceLeDiff, true_and, and_true, eq_self, reduceCtorEq, ↓reduceIte, ax_exit, ax_ret, ax_seq, ax_cond, ax_region_f, aregX]
      rw [hf]
  · have d1 : decide ((k : Int) < (bs.length : Int)) = false := by simpa using c1
    have hf : ordP l bs = o := by rw [ordP, ho, List.take_of_length_le (by omega), List.take_of_length_le (by omega)]
    simp only [d1, at_normal, at_exit, ab_exit, ae_ret, ao_nil, ao_cons, ao_guard_t, sk_at, pk_at, if_f, as_pick, as_move, as_assign, fr_false, List.contains_nil, beq_self_eq_true, rd, aopsD, tlN, constT, evT, lk, putT, GV, gdst, resF, resL, constA, cellA, Option.map_some, Option.bind_some, Nat.reduceSub, Nat.reduceEqDiff, Nat.reduceLeDiff, true_and, and_true, eq_self, reduceCtorEq, ↓reduceIte, ax_exit, ax_ret, ax_seq, ax_cond, ax_region_f, aregX]
    rw [hf]
end Go.Proofs.Ythjojkkapboonaa
