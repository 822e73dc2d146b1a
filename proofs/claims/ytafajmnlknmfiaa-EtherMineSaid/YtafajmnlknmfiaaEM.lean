/- Whom a frame is for. -/
import Derived.Test.YtafajmnlknmfiaaCL
namespace Go.Proofs.Ytafajmnlknmfiaa
set_option linter.unusedSimpArgs false
set_option linter.unusedVariables false
open Go.RowKit

def pfx (f : Nat → Bool) : Nat → Bool
  | 0 => true
  | n + 1 => pfx f n && f n
theorem pfx_s (f : Nat → Bool) (k : Nat) (b : Bool) (h : b = pfx f k) : (b && f k) = pfx f (k + 1) := by rw [h]; rfl
theorem p2_1 : PtOk 2 (.p 1 0) := (show (1 : Nat) < 2 by decide)
theorem p2_0 : PtOk 2 (.p 0 0) := (show (0 : Nat) < 2 by decide)
theorem pfx6 (x y : Nat → Int) : pfx (fun i => decide (x i = y i)) 6 = mEq x y := by
  simp only [pfx, mEq, Bool.true_and, Bool.decide_and, Bool.and_assoc]
structure EmK (d m : Nat → Int) where
  k : Int
  a : Bool
  n : Bool
  e : Bool
  w : Bool
  hk : 0 ≤ k ∧ k ≤ 6
  ha : a = pfx (fun i => decide (m i = 255)) k.toNat
  hn : n = pfx (fun i => decide (m i = 0)) k.toNat
  he : e = pfx (fun i => decide (d i = m i)) k.toNat
  hw : w = pfx (fun i => decide (d i = 255)) k.toNat
def emI (d s : Nat → Int) (t : Int) (l : List UInt8) (m : Nat → Int) (k : Int) (a n e w : Bool) : AE :=
  ⟨[(9, .v (i64 k)), (8, .v (boA w)), (7, .v (boA e)), (6, .v (boA n)), (5, .v (boA a)), (4, .v (boA false)), (3, .p 1 0), (2, .p 0 0)],
   [(true, [u8A (d 0), u8A (d 1), u8A (d 2), u8A (d 3), u8A (d 4), u8A (d 5), u8A (s 0), u8A (s 1), u8A (s 2), u8A (s 3), u8A (s 4), u8A (s 5), u16A t, .bs l]), (true, [u8A (m 0), u8A (m 1), u8A (m 2), u8A (m 3), u8A (m 4), u8A (m 5)])]⟩
theorem le8 {E : AE} {L : Nat} {v0 v1 v2 v3 v4 v5 v6 v7 : TV} (h0 : lk E.t 9 = v0) (h1 : lk E.t 8 = v1) (h2 : lk E.t 7 = v2) (h3 : lk E.t 6 = v3) (h4 : lk E.t 5 = v4) (h5 : lk E.t 4 = v5) (h6 : lk E.t 3 = v6) (h7 : lk E.t 2 = v7)
    (p0 : PtOk L v0) (p1 : PtOk L v1) (p2 : PtOk L v2) (p3 : PtOk L v3) (p4 : PtOk L v4) (p5 : PtOk L v5) (p6 : PtOk L v6) (p7 : PtOk L v7) :
    ∀ p ∈ [(9, v0), (8, v1), (7, v2), (6, v3), (5, v4), (4, v5), (3, v6), (2, v7)], lk E.t p.1 = p.2 ∧ PtOk L p.2 := by
  intro p hp
  simp only [List.mem_cons, List.not_mem_nil, or_false] at hp
  rcases hp with rfl | rfl | rfl | rfl | rfl | rfl | rfl | rfl
  · exact ⟨h0, p0⟩
  · exact ⟨h1, p1⟩
  · exact ⟨h2, p2⟩
  · exact ⟨h3, p3⟩
  · exact ⟨h4, p4⟩
  · exact ⟨h5, p5⟩
  · exact ⟨h6, p6⟩
  · exact ⟨h7, p7⟩
set_option maxHeartbeats 4000000 in
set_option maxRecDepth 100000 in
theorem etherMine_a (d s : Nat → Int) (t : Int) (l : List UInt8) (m : Nat → Int) (hd : macOk d) (hm : macOk m) : ASpec Try.prog 5 [frameA d s t l, macA m] (boA true) := by
  refine ASpec.of_body TT_ok Try.mixed _ [.tmp 4] ([], []) Try.func5 (by kernel_rfl) rfl rfl (by simp only [Try.ntmps5, List.length_cons, List.length_nil]; omega) rfl (by kernel_rfl) ?_
  simp only [argE_cons, argE_nil, ac_seq, ac_block, ac_region, ac_loop, at_normal, ao_nil, ao_cons, as_box, as_assign, macL, macA, frameA, u8A, u16A, boA, fr_false, List.contains_nil, beq_self_eq_true, rd, aopsD, heapF, constT, evT, lk, putT, cellsF, constA, cellA, List.length_cons, List.length_nil, List.nil_append, List.cons_append, Option.map_some, Nat.reduceAdd, Nat.reduceSub, Nat.reduceEqDiff, Nat.reduceLeDiff, true_and, eq_self, reduceCtorEq, Bool.false_eq_true, ↓reduceIte, Nat.zero_add]
  refine .inr ⟨EmK d m, fun x => emI d s t l m x.k x.a x.n x.e x.w, fun x => (6 - x.k).toNat, ⟨0, true, true, true, true, by decide, rfl, rfl, rfl, rfl⟩, ⟨rfl, le8 rfl rfl rfl rfl rfl rfl rfl rfl trivial trivial trivial trivial trivial trivial p2_1 p2_0⟩, ?_⟩
  rintro ⟨k, a, n, e, w, hk, ha, hn, he, hw⟩
  rcases (show k = 0 ∨ k = 1 ∨ k = 2 ∨ k = 3 ∨ k = 4 ∨ k = 5 ∨ k = 6 by omega) with hk' | hk' | hk' | hk' | hk' | hk' | hk'
  · subst hk'
    cases a <;> cases n <;> cases e <;> cases w
    all_goals
      simp only [emI, ac_skip, ac_seq, ac_block, ac_cond, ac_region, at_normal, ab_normal, ao_nil, ao_cons, ao_guard_t, st_at, sk_at, pk_at, if_t, if_f, as_pick, as_move, as_assign, as_binOp, as_load, as_fieldAddr, as_indexAddr, u8A, u16A, i64, boA, fr_false, List.contains_nil, Nat.reduceBEq, beq_self_eq_true, Int.cast_ofNat_Int, decide_true, hk_some, hopG, rd, aopsD, tlN, constT, evT, lk, putT, GV, gdst, binF, loadF, constA, cellA, TK.isAgg, List.length_cons, List.length_nil, List.getElem?_cons_zero, List.getElem?_cons_succ, List.drop_zero, Option.map_some, Nat.reduceAdd, Nat.reduceSub, Nat.reduceEqDiff, Nat.reduceLeDiff, Nat.succ_ne_zero, ne_eq, not_false_eq_true, true_and, and_self, eq_self, Bool.false_eq_true, ↓reduceIte, Int.toNat_zero, Int.reduceToNat, Int.reduceLT, Int.reduceLE, Int.reduceAdd, Int.reduceSub, Nat.mul_one, Nat.zero_add, Nat.add_zero, TT3, TT5, TT29, TT56]
      exact ⟨⟨1, _, _, _, _, by decide, pfx_s _ 0 _ ha, pfx_s _ 0 _ hn, pfx_s _ 0 _ he, pfx_s _ 0 _ hw⟩, ⟨rfl, le8 rfl rfl rfl rfl rfl rfl rfl rfl trivial trivial trivial trivial trivial trivial p2_1 p2_0⟩, (show (6 - (1 : Int)).toNat < (6 - (0 : Int)).toNat by decide)⟩
  · subst hk'
    cases a <;> cases n <;> cases e <;> cases w
    all_goals
      simp only [emI, ac_skip, ac_seq, ac_block, ac_cond, ac_region, at_normal, ab_normal, ao_nil, ao_cons, ao_guard_t, st_at, sk_at, pk_at, if_t, if_f, as_pick, as_move, as_assign, as_binOp, as_load, as_fieldAddr, as_indexAddr, u8A, u16A, i64, boA, fr_false, List.contains_nil, Nat.reduceBEq, beq_self_eq_true, Int.cast_ofNat_Int, decide_true, hk_some, hopG, rd, aopsD, tlN, constT, evT, lk, putT, GV, gdst, binF, loadF, constA, cellA, TK.isAgg, List.length_cons, List.length_nil, List.getElem?_cons_zero, List.getElem?_cons_succ, List.drop_zero, List.drop_succ_cons, Option.map_some, Nat.reduceAdd, Nat.reduceSub, Nat.reduceEqDiff, Nat.reduceLeDiff, Nat.succ_ne_zero, ne_eq, not_false_eq_true, true_and, and_self, eq_self, Bool.false_eq_true, ↓reduceIte, Int.reduceToNat, Int.reduceLT, Int.reduceLE, Int.reduceAdd, Int.reduceSub, Nat.mul_one, Nat.zero_add, Nat.add_zero, TT3, TT5, TT29, TT56]
      exact ⟨⟨2, _, _, _, _, by decide, pfx_s _ 1 _ ha, pfx_s _ 1 _ hn, pfx_s _ 1 _ he, pfx_s _ 1 _ hw⟩, ⟨rfl, le8 rfl rfl rfl rfl rfl rfl rfl rfl trivial trivial trivial trivial trivial trivial p2_1 p2_0⟩, (show (6 - (2 : Int)).toNat < (6 - (1 : Int)).toNat by decide)⟩
  · subst hk'
    cases a <;> cases n <;> cases e <;> cases w
    all_goals
      simp only [emI, ac_skip, ac_seq, ac_block, ac_cond, ac_region, at_normal, ab_normal, ao_nil, ao_cons, ao_guard_t, st_at, sk_at, pk_at, if_t, if_f, as_pick, as_move, as_assign, as_binOp, as_load, as_fieldAddr, as_indexAddr, u8A, u16A, i64, boA, fr_false, List.contains_nil, Nat.reduceBEq, beq_self_eq_true, Int.cast_ofNat_Int, decide_true, hk_some, hopG, rd, aopsD, tlN, constT, evT, lk, putT, GV, gdst, binF, loadF, constA, cellA, TK.isAgg, List.length_cons, List.length_nil, List.getElem?_cons_zero, List.getElem?_cons_succ, List.drop_zero, List.drop_succ_cons, Option.map_some, Nat.reduceAdd, Nat.reduceSub, Nat.reduceEqDiff, Nat.reduceLeDiff, Nat.succ_ne_zero, ne_eq, not_false_eq_true, true_and, and_self, eq_self, Bool.false_eq_true, ↓reduceIte, Int.reduceToNat, Int.reduceLT, Int.reduceLE, Int.reduceAdd, Int.reduceSub, Nat.mul_one, Nat.zero_add, Nat.add_zero, TT3, TT5, TT29, TT56]
      exact ⟨⟨3, _, _, _, _, by decide, pfx_s _ 2 _ ha, pfx_s _ 2 _ hn, pfx_s _ 2 _ he, pfx_s _ 2 _ hw⟩, ⟨rfl, le8 rfl rfl rfl rfl rfl rfl rfl rfl trivial trivial trivial trivial trivial trivial p2_1 p2_0⟩, (show (6 - (3 : Int)).toNat < (6 - (2 : Int)).toNat by decide)⟩
  · subst hk'
    cases a <;> cases n <;> cases e <;> cases w
    all_goals
      simp only [emI, ac_skip, ac_seq, ac_block, ac_cond, ac_region, at_normal, ab_normal, ao_nil, ao_cons, ao_guard_t, st_at, sk_at, pk_at, if_t, if_f, as_pick, as_move, as_assign, as_binOp, as_load, as_fieldAddr, as_indexAddr, u8A, u16A, i64, boA, fr_false, List.contains_nil, Nat.reduceBEq, beq_self_eq_true, Int.cast_ofNat_Int, decide_true, hk_some, hopG, rd, aopsD, tlN, constT, evT, lk, putT, GV, gdst, binF, loadF, constA, cellA, TK.isAgg, List.length_cons, List.length_nil, List.getElem?_cons_zero, List.getElem?_cons_succ, List.drop_zero, List.drop_succ_cons, Option.map_some, Nat.reduceAdd, Nat.reduceSub, Nat.reduceEqDiff, Nat.reduceLeDiff, Nat.succ_ne_zero, ne_eq, not_false_eq_true, true_and, and_self, eq_self, Bool.false_eq_true, ↓reduceIte, Int.reduceToNat, Int.reduceLT, Int.reduceLE, Int.reduceAdd, Int.reduceSub, Nat.mul_one, Nat.zero_add, Nat.add_zero, TT3, TT5, TT29, TT56]
      exact ⟨⟨4, _, _, _, _, by decide, pfx_s _ 3 _ ha, pfx_s _ 3 _ hn, pfx_s _ 3 _ he, pfx_s _ 3 _ hw⟩, ⟨rfl, le8 rfl rfl rfl rfl rfl rfl rfl rfl trivial trivial trivial trivial trivial trivial p2_1 p2_0⟩, (show (6 - (4 : Int)).toNat < (6 - (3 : Int)).toNat by decide)⟩
  · subst hk'
    cases a <;> cases n <;> cases e <;> cases w
    all_goals
      simp only [emI, ac_skip, ac_seq, ac_block, ac_cond, ac_region, at_normal, ab_normal, ao_nil, ao_cons, ao_guard_t, st_at, sk_at, pk_at, if_t, if_f, as_pick, as_move, as_assign, as_binOp, as_load, as_fieldAddr, as_indexAddr, u8A, u16A, i64, boA, fr_false, List.contains_nil, Nat.reduceBEq, beq_self_eq_true, Int.cast_ofNat_Int, decide_true, hk_some, hopG, rd, aopsD, tlN, constT, evT, lk, putT, GV, gdst, binF, loadF, constA, cellA, TK.isAgg, List.length_cons, List.length_nil, List.getElem?_cons_zero, List.getElem?_cons_succ, List.drop_zero, List.drop_succ_cons, Option.map_some, Nat.reduceAdd, Nat.reduceSub, Nat.reduceEqDiff, Nat.reduceLeDiff, Nat.succ_ne_zero, ne_eq, not_false_eq_true, true_and, and_self, eq_self, Bool.false_eq_true, ↓reduceIte, Int.reduceToNat, Int.reduceLT, Int.reduceLE, Int.reduceAdd, Int.reduceSub, Nat.mul_one, Nat.zero_add, Nat.add_zero, TT3, TT5, TT29, TT56]
      exact ⟨⟨5, _, _, _, _, by decide, pfx_s _ 4 _ ha, pfx_s _ 4 _ hn, pfx_s _ 4 _ he, pfx_s _ 4 _ hw⟩, ⟨rfl, le8 rfl rfl rfl rfl rfl rfl rfl rfl trivial trivial trivial trivial trivial trivial p2_1 p2_0⟩, (show (6 - (5 : Int)).toNat < (6 - (4 : Int)).toNat by decide)⟩
  · subst hk'
    cases a <;> cases n <;> cases e <;> cases w
    all_goals
      simp only [emI, ac_skip, ac_seq, ac_block, ac_cond, ac_region, at_normal, ab_normal, ao_nil, ao_cons, ao_guard_t, st_at, sk_at, pk_at, if_t, if_f, as_pick, as_move, as_assign, as_binOp, as_load, as_fieldAddr, as_indexAddr, u8A, u16A, i64, boA, fr_false, List.contains_nil, Nat.reduceBEq, beq_self_eq_true, Int.cast_ofNat_Int, decide_true, hk_some, hopG, rd, aopsD, tlN, constT, evT, lk, putT, GV, gdst, binF, loadF, constA, cellA, TK.isAgg, List.length_cons, List.length_nil, List.getElem?_cons_zero, List.getElem?_cons_succ, List.drop_zero, List.drop_succ_cons, Option.map_some, Nat.reduceAdd, Nat.reduceSub, Nat.reduceEqDiff, Nat.reduceLeDiff, Nat.succ_ne_zero, ne_eq, not_false_eq_true, true_and, and_self, eq_self, Bool.false_eq_true, ↓reduceIte, Int.reduceToNat, Int.reduceLT, Int.reduceLE, Int.reduceAdd, Int.reduceSub, Nat.mul_one, Nat.zero_add, Nat.add_zero, TT3, TT5, TT29, TT56]
      exact ⟨⟨6, _, _, _, _, by decide, pfx_s _ 5 _ ha, pfx_s _ 5 _ hn, pfx_s _ 5 _ he, pfx_s _ 5 _ hw⟩, ⟨rfl, le8 rfl rfl rfl rfl rfl rfl rfl rfl trivial trivial trivial trivial trivial trivial p2_1 p2_0⟩, (show (6 - (6 : Int)).toNat < (6 - (5 : Int)).toNat by decide)⟩
  · subst hk'
    have e1 : a = mEq m m255 := ha.trans (pfx6 m m255)
    have e2 : n = mEq m m0 := hn.trans (pfx6 m m0)
    have e3 : e = mEq d m := he.trans (pfx6 d m)
    have e4 : w = mEq d m255 := hw.trans (pfx6 d m255)
    subst e1 e2 e3 e4
    have e5 : (m 0).tmod 2 = m 0 % 2 := tmodN (hm 0 (by omega)).1
    have e6 : decide (m 0 % 2 = 0) = !decide (m 0 % 2 = 1) := by
      cases c : decide (m 0 % 2 = 1)
      · exact decide_eq_true (by have := dF.1 c; omega)
      · exact decide_eq_false (by have := dT.1 c; omega)
    simp only [emI, ac_exit, ac_seq, ac_cond, ac_region, at_normal, at_exit, ab_exit, ao_nil, ao_cons, if_f, as_call, as_move, as_binOp, as_load, u8A, u16A, i64, boA, fr_false, List.contains_nil, Nat.reduceBEq, beq_self_eq_true, decide_false, hk_some, hopG, rd, aopsD, frzW, tlN, constT, evT, lk, putT, binF, loadF, argsF, constA, cellA, TK.isAgg, List.length_cons, List.length_nil, List.getElem?_cons_zero, List.getElem?_cons_succ, List.drop_zero, List.take_succ_cons, List.take_nil, Option.map_some, Nat.reduceAdd, Nat.reduceSub, Nat.reduceEqDiff, Nat.reduceLeDiff, true_and, and_false, eq_self, Bool.false_eq_true, ↓reduceIte, Int.toNat_zero, Int.reduceLT, Int.reduceSub, Nat.zero_add, Nat.le_refl, Nat.not_lt_zero, TT3, TT29]
    refine ACall.intro (group_a m hm) ?_
    simp only [e5, ao_cons, ao_guard_f, st_at, if_f, as_call, as_move, as_binOp, as_load, as_indexAddr, boA, Nat.reduceBEq, beq_self_eq_true, Int.cast_ofNat_Int, Int.reduceEq, hk_some, hopG, rd, frzW, constT, evT, lk, putT, GV, gdst, binF, loadF, argsF, constA, cellA, TK.isAgg, List.length_cons, List.length_nil, List.getElem?_cons_zero, List.getElem?_cons_succ, List.drop_zero, List.take_succ_cons, List.take_nil, Option.map_some, Nat.reduceAdd, Nat.reduceSub, Nat.reduceEqDiff, ne_eq, not_false_eq_true, true_and, and_self, eq_self, Bool.false_eq_true, Bool.not_true, ↓reduceIte, Int.toNat_zero, Int.reduceLT, Int.reduceLE, Nat.mul_one, Nat.zero_add, Nat.add_zero, Nat.le_refl, TT4, TT5, TT29]
    cases c1 : decide (m 0 % 2 = 1)
    · refine ACall.intro (unicast_a m hm) ?_
      cases c2 : mEq m m0
      · simp only [e5, e6, c1, ao_cons, ao_guard_t, ao_guard_f, st_at, pk_at, if_t, if_f, as_pick, as_call, as_move, as_binOp, as_unOp, as_load, as_indexAddr, boA, Nat.reduceBEq, beq_self_eq_true, Int.cast_ofNat_Int, Bool.and_self, Int.reduceEq, hk_some, hopG, rd, frzW, constT, evT, lk, putT, GV, gdst, binF, unF, loadF, argsF, constA, cellA, TK.isAgg, List.length_cons, List.length_nil, List.getElem?_cons_zero, List.getElem?_cons_succ, List.drop_zero, List.take_succ_cons, List.take_nil, Option.map_some, Nat.reduceAdd, Nat.reduceSub, Nat.reduceEqDiff, ne_eq, not_false_eq_true, true_and, and_self, eq_self, Bool.false_eq_true, Bool.not_true, Bool.not_false, ↓reduceIte, Int.toNat_zero, Int.reduceLT, Int.reduceLE, Nat.mul_one, Nat.zero_add, Nat.add_zero, Nat.le_refl, TT4, TT5, TT29]
        refine ACall.intro all_a ?_
        cases c3 : mEq m m255
        · simp only [mEq_list, c3, ac_skip, ac_seq, ac_cond, ac_region, at_normal, ao_nil, ao_cons, ao_guard_f, st_at, pk_at, if_f, as_pick, as_call, as_move, as_binOp, as_load, macL, macA, u8A, fr_false, List.contains_nil, Nat.reduceBEq, beq_self_eq_true, hk_some, hopG, rd, aopsD, frzW, frzR, evT, lk, putT, GV, gdst, binF, loadF, argsF, intsOf, TK.isAgg, List.length_cons, List.length_nil, List.getElem?_cons_zero, List.getElem?_cons_succ, List.drop_zero, List.take_succ_cons, List.take_nil, Option.map_some, Option.bind_some, Nat.reduceAdd, Nat.reduceSub, Nat.reduceEqDiff, Nat.reduceLeDiff, true_and, and_true, eq_self, Bool.false_eq_true, Bool.not_true, ↓reduceIte, Nat.zero_add, Nat.le_refl, TT4, TT29, TT56]
          refine ACall.intro (mine_a d s m t l) ?_
          cases c4 : mEq d m <;> cases c5 : mEq d m255
          all_goals
            simp only [ao_cons, ao_guard_t, ao_guard_f, st_at, sk_at, pk_at, if_t, if_f, as_pick, as_call, as_move, as_binOp, boA, Bool.or_false, beq_self_eq_true, Bool.or_true, hk_some, hopG, rd, frzW, frzR, constT, evT, lk, putT, GV, gdst, binF, argsF, constA, cellA, Option.map_some, Nat.reduceSub, Nat.reduceEqDiff, true_and, eq_self, ↓reduceIte, TT4]
            refine ACall.intro lives04_a ?_
            simp only [ac_ret, at_normal, ae_ret, ao_nil, ao_cons, pk_at, if_t, as_pick, as_assign, boA, beq_self_eq_true, rd, evT, lk, putT, resF, resL, Option.map_some, Option.bind_some, Nat.reduceSub, Nat.reduceEqDiff, and_true, and_self, eq_self, ↓reduceIte]
        · simp only [mEq_list, c3, ac_skip, ac_seq, ac_cond, ac_region, at_normal, ao_nil, ao_cons, ao_guard_f, st_at, pk_at, if_f, as_pick, as_call, as_move, as_binOp, as_load, macL, macA, u8A, fr_false, List.contains_nil, Nat.reduceBEq, beq_self_eq_true, hk_some, hopG, rd, aopsD, frzW, frzR, evT, lk, putT, GV, gdst, binF, loadF, argsF, intsOf, TK.isAgg, List.length_cons, List.length_nil, List.getElem?_cons_zero, List.getElem?_cons_succ, List.drop_zero, List.take_succ_cons, List.take_nil, Option.map_some, Option.bind_some, Nat.reduceAdd, Nat.reduceSub, Nat.reduceEqDiff, Nat.reduceLeDiff, true_and, and_true, eq_self, Bool.false_eq_true, Bool.not_true, ↓reduceIte, Nat.zero_add, Nat.le_refl, TT4, TT29, TT56]
          refine ACall.intro (mine_a d s m t l) ?_
          cases c4 : mEq d m <;> cases c5 : mEq d m255
          all_goals
            simp only [ao_cons, ao_guard_t, ao_guard_f, st_at, sk_at, pk_at, if_t, if_f, as_pick, as_call, as_move, as_binOp, boA, Bool.or_false, beq_self_eq_true, Bool.or_true, hk_some, hopG, rd, frzW, frzR, constT, evT, lk, putT, GV, gdst, binF, argsF, constA, cellA, Option.map_some, Nat.reduceSub, Nat.reduceEqDiff, true_and, eq_self, ↓reduceIte, TT4]
            refine ACall.intro lives04_a ?_
            simp only [ac_ret, at_normal, ae_ret, ao_nil, ao_cons, pk_at, if_t, as_pick, as_assign, boA, beq_self_eq_true, rd, evT, lk, putT, resF, resL, Option.map_some, Option.bind_some, Nat.reduceSub, Nat.reduceEqDiff, and_true, and_self, eq_self, ↓reduceIte]
      · simp only [e5, e6, c1, ao_cons, ao_guard_t, ao_guard_f, st_at, pk_at, if_t, if_f, as_pick, as_call, as_move, as_binOp, as_unOp, as_load, as_indexAddr, boA, Nat.reduceBEq, beq_self_eq_true, Int.cast_ofNat_Int, Bool.and_false, Int.reduceEq, hk_some, hopG, rd, frzW, constT, evT, lk, putT, GV, gdst, binF, unF, loadF, argsF, constA, cellA, TK.isAgg, List.length_cons, List.length_nil, List.getElem?_cons_zero, List.getElem?_cons_succ, List.drop_zero, List.take_succ_cons, List.take_nil, Option.map_some, Nat.reduceAdd, Nat.reduceSub, Nat.reduceEqDiff, ne_eq, not_false_eq_true, true_and, and_self, eq_self, Bool.false_eq_true, Bool.not_true, Bool.not_false, ↓reduceIte, Int.toNat_zero, Int.reduceLT, Int.reduceLE, Nat.mul_one, Nat.zero_add, Nat.add_zero, Nat.le_refl, TT4, TT5, TT29]
        refine ACall.intro all_a ?_
        cases c3 : mEq m m255
        · simp only [mEq_list, c3, ac_skip, ac_seq, ac_cond, ac_region, at_normal, ao_nil, ao_cons, ao_guard_f, st_at, pk_at, if_f, as_pick, as_call, as_move, as_binOp, as_load, macL, macA, u8A, fr_false, List.contains_nil, Nat.reduceBEq, beq_self_eq_true, hk_some, hopG, rd, aopsD, frzW, frzR, evT, lk, putT, GV, gdst, binF, loadF, argsF, intsOf, TK.isAgg, List.length_cons, List.length_nil, List.getElem?_cons_zero, List.getElem?_cons_succ, List.drop_zero, List.take_succ_cons, List.take_nil, Option.map_some, Option.bind_some, Nat.reduceAdd, Nat.reduceSub, Nat.reduceEqDiff, Nat.reduceLeDiff, true_and, and_true, eq_self, Bool.false_eq_true, Bool.not_true, ↓reduceIte, Nat.zero_add, Nat.le_refl, TT4, TT29, TT56]
          refine ACall.intro (mine_a d s m t l) ?_
          cases c4 : mEq d m <;> cases c5 : mEq d m255
          all_goals
            simp only [ao_cons, ao_guard_t, ao_guard_f, st_at, sk_at, pk_at, if_t, if_f, as_pick, as_call, as_move, as_binOp, boA, Bool.or_false, beq_self_eq_true, Bool.or_true, hk_some, hopG, rd, frzW, frzR, constT, evT, lk, putT, GV, gdst, binF, argsF, constA, cellA, Option.map_some, Nat.reduceSub, Nat.reduceEqDiff, true_and, eq_self, ↓reduceIte, TT4]
            refine ACall.intro lives04_a ?_
            simp only [ac_ret, at_normal, ae_ret, ao_nil, ao_cons, pk_at, if_t, as_pick, as_assign, boA, beq_self_eq_true, rd, evT, lk, putT, resF, resL, Option.map_some, Option.bind_some, Nat.reduceSub, Nat.reduceEqDiff, and_true, and_self, eq_self, ↓reduceIte]
        · simp only [mEq_list, c3, ac_skip, ac_seq, ac_cond, ac_region, at_normal, ao_nil, ao_cons, ao_guard_f, st_at, pk_at, if_f, as_pick, as_call, as_move, as_binOp, as_load, macL, macA, u8A, fr_false, List.contains_nil, Nat.reduceBEq, beq_self_eq_true, hk_some, hopG, rd, aopsD, frzW, frzR, evT, lk, putT, GV, gdst, binF, loadF, argsF, intsOf, TK.isAgg, List.length_cons, List.length_nil, List.getElem?_cons_zero, List.getElem?_cons_succ, List.drop_zero, List.take_succ_cons, List.take_nil, Option.map_some, Option.bind_some, Nat.reduceAdd, Nat.reduceSub, Nat.reduceEqDiff, Nat.reduceLeDiff, true_and, and_true, eq_self, Bool.false_eq_true, Bool.not_true, ↓reduceIte, Nat.zero_add, Nat.le_refl, TT4, TT29, TT56]
          refine ACall.intro (mine_a d s m t l) ?_
          cases c4 : mEq d m <;> cases c5 : mEq d m255
          all_goals
            simp only [ao_cons, ao_guard_t, ao_guard_f, st_at, sk_at, pk_at, if_t, if_f, as_pick, as_call, as_move, as_binOp, boA, Bool.or_false, beq_self_eq_true, Bool.or_true, hk_some, hopG, rd, frzW, frzR, constT, evT, lk, putT, GV, gdst, binF, argsF, constA, cellA, Option.map_some, Nat.reduceSub, Nat.reduceEqDiff, true_and, eq_self, ↓reduceIte, TT4]
            refine ACall.intro lives04_a ?_
            simp only [ac_ret, at_normal, ae_ret, ao_nil, ao_cons, pk_at, if_t, as_pick, as_assign, boA, beq_self_eq_true, rd, evT, lk, putT, resF, resL, Option.map_some, Option.bind_some, Nat.reduceSub, Nat.reduceEqDiff, and_true, and_self, eq_self, ↓reduceIte]
    · refine ACall.intro (unicast_a m hm) ?_
      simp only [e5, e6, c1, ao_cons, ao_guard_t, ao_guard_f, st_at, sk_at, pk_at, if_f, as_pick, as_call, as_move, as_binOp, as_load, as_indexAddr, boA, Nat.reduceBEq, beq_self_eq_true, Int.cast_ofNat_Int, Bool.false_and, Int.reduceEq, hk_some, hopG, rd, frzW, constT, evT, lk, putT, GV, gdst, binF, loadF, argsF, constA, cellA, TK.isAgg, List.length_cons, List.length_nil, List.getElem?_cons_zero, List.getElem?_cons_succ, List.drop_zero, List.take_succ_cons, List.take_nil, Option.map_some, Nat.reduceAdd, Nat.reduceSub, Nat.reduceEqDiff, ne_eq, not_false_eq_true, true_and, and_self, eq_self, Bool.false_eq_true, Bool.not_true, ↓reduceIte, Int.toNat_zero, Int.reduceLT, Int.reduceLE, Nat.mul_one, Nat.zero_add, Nat.add_zero, Nat.le_refl, TT4, TT5, TT29]
      refine ACall.intro all_a ?_
      cases c3 : mEq m m255
      · simp only [mEq_list, c3, ac_skip, ac_seq, ac_cond, ac_region, at_normal, ao_nil, ao_cons, ao_guard_f, st_at, pk_at, if_f, as_pick, as_call, as_move, as_binOp, as_load, macL, macA, u8A, fr_false, List.contains_nil, Nat.reduceBEq, beq_self_eq_true, hk_some, hopG, rd, aopsD, frzW, frzR, evT, lk, putT, GV, gdst, binF, loadF, argsF, intsOf, TK.isAgg, List.length_cons, List.length_nil, List.getElem?_cons_zero, List.getElem?_cons_succ, List.drop_zero, List.take_succ_cons, List.take_nil, Option.map_some, Option.bind_some, Nat.reduceAdd, Nat.reduceSub, Nat.reduceEqDiff, Nat.reduceLeDiff, true_and, and_true, eq_self, Bool.false_eq_true, Bool.not_true, ↓reduceIte, Nat.zero_add, Nat.le_refl, TT4, TT29, TT56]
        refine ACall.intro (mine_a d s m t l) ?_
        cases c4 : mEq d m <;> cases c5 : mEq d m255
        all_goals
          simp only [ao_cons, ao_guard_t, ao_guard_f, st_at, sk_at, pk_at, if_t, if_f, as_pick, as_call, as_move, as_binOp, boA, Bool.or_false, beq_self_eq_true, Bool.or_true, hk_some, hopG, rd, frzW, frzR, constT, evT, lk, putT, GV, gdst, binF, argsF, constA, cellA, Option.map_some, Nat.reduceSub, Nat.reduceEqDiff, true_and, eq_self, ↓reduceIte, TT4]
          refine ACall.intro lives04_a ?_
          simp only [ac_ret, at_normal, ae_ret, ao_nil, ao_cons, pk_at, if_t, as_pick, as_assign, boA, beq_self_eq_true, rd, evT, lk, putT, resF, resL, Option.map_some, Option.bind_some, Nat.reduceSub, Nat.reduceEqDiff, and_true, and_self, eq_self, ↓reduceIte]
      · simp only [mEq_list, c3, ac_skip, ac_seq, ac_cond, ac_region, at_normal, ao_nil, ao_cons, ao_guard_f, st_at, pk_at, if_f, as_pick, as_call, as_move, as_binOp, as_load, macL, macA, u8A, fr_false, List.contains_nil, Nat.reduceBEq, beq_self_eq_true, hk_some, hopG, rd, aopsD, frzW, frzR, evT, lk, putT, GV, gdst, binF, loadF, argsF, intsOf, TK.isAgg, List.length_cons, List.length_nil, List.getElem?_cons_zero, List.getElem?_cons_succ, List.drop_zero, List.take_succ_cons, List.take_nil, Option.map_some, Option.bind_some, Nat.reduceAdd, Nat.reduceSub, Nat.reduceEqDiff, Nat.reduceLeDiff, true_and, and_true, eq_self, Bool.false_eq_true, Bool.not_true, ↓reduceIte, Nat.zero_add, Nat.le_refl, TT4, TT29, TT56]
        refine ACall.intro (mine_a d s m t l) ?_
        cases c4 : mEq d m <;> cases c5 : mEq d m255
        all_goals
          simp only [ao_cons, ao_guard_t, ao_guard_f, st_at, sk_at, pk_at, if_t, if_f, as_pick, as_call, as_move, as_binOp, boA, Bool.or_false, beq_self_eq_true, Bool.or_true, hk_some, hopG, rd, frzW, frzR, constT, evT, lk, putT, GV, gdst, binF, argsF, constA, cellA, Option.map_some, Nat.reduceSub, Nat.reduceEqDiff, true_and, eq_self, ↓reduceIte, TT4]
          refine ACall.intro lives04_a ?_
          simp only [ac_ret, at_normal, ae_ret, ao_nil, ao_cons, pk_at, if_t, as_pick, as_assign, boA, beq_self_eq_true, rd, evT, lk, putT, resF, resL, Option.map_some, Option.bind_some, Nat.reduceSub, Nat.reduceEqDiff, and_true, and_self, eq_self, ↓reduceIte]
end Go.Proofs.Ytafajmnlknmfiaa
