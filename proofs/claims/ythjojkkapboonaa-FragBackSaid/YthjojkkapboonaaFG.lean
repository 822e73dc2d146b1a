/- frag.lay, through its own text. -/
import Derived.Test.YthjojkkapboonaaFE
namespace Go.Proofs.Ythjojkkapboonaa
set_option linter.unusedSimpArgs false
set_option linter.unusedVariables false
open Go.RowKit

structure LayK (l : List PktN) where
  k : Nat
  hk : k ≤ l.length
structure LayI (r : PktN) where
  i : Nat
  hi : i ≤ r.data.length
theorem leL6 {E : AE} {L : Nat} {t0 t1 t2 t3 t4 t5 : Nat} {v0 v1 v2 v3 v4 v5 : TV} (h0 : lk E.t t0 = v0) (h1 : lk E.t t1 = v1) (h2 : lk E.t t2 = v2) (h3 : lk E.t t3 = v3) (h4 : lk E.t t4 = v4) (h5 : lk E.t t5 = v5) (p0 : PtOk L v0) (p1 : PtOk L v1) (p2 : PtOk L v2) (p3 : PtOk L v3) (p4 : PtOk L v4) (p5 : PtOk L v5) :
    ∀ p ∈ [(t0, v0), (t1, v1), (t2, v2), (t3, v3), (t4, v4), (t5, v5)], lk E.t p.1 = p.2 ∧ PtOk L p.2 := by
  intro p hp
  simp only [List.mem_cons, List.not_mem_nil, or_false] at hp
  rcases hp with rfl | rfl | rfl | rfl | rfl | rfl
  · exact ⟨h0, p0⟩
  · exact ⟨h1, p1⟩
  · exact ⟨h2, p2⟩
  · exact ⟨h3, p3⟩
  · exact ⟨h4, p4⟩
  · exact ⟨h5, p5⟩
theorem leL10 {E : AE} {L : Nat} {t0 t1 t2 t3 t4 t5 t6 t7 t8 t9 : Nat} {v0 v1 v2 v3 v4 v5 v6 v7 v8 v9 : TV} (h0 : lk E.t t0 = v0) (h1 : lk E.t t1 = v1) (h2 : lk E.t t2 = v2) (h3 : lk E.t t3 = v3) (h4 : lk E.t t4 = v4) (h5 : lk E.t t5 = v5) (h6 : lk E.t t6 = v6) (h7 : lk E.t t7 = v7) (h8 : lk E.t t8 = v8) (h9 : lk E.t t9 = v9) (p0 : PtOk L v0) (p1 : PtOk L v1) (p2 : PtOk L v2) (p3 : PtOk L v3) (p4 : PtOk L v4) (p5 : PtOk L v5) (p6 : PtOk L v6) (p7 : PtOk L v7) (p8 : PtOk L v8) (p9 : PtOk L v9) :
    ∀ p ∈ [(t0, v0), (t1, v1), (t2, v2), (t3, v3), (t4, v4), (t5, v5), (t6, v6), (t7, v7), (t8, v8), (t9, v9)], lk E.t p.1 = p.2 ∧ PtOk L p.2 := by
  intro p hp
  simp only [List.mem_cons, List.not_mem_nil, or_false] at hp
  rcases hp with rfl | rfl | rfl | rfl | rfl | rfl | rfl | rfl | rfl | rfl
  · exact ⟨h0, p0⟩
  · exact ⟨h1, p1⟩
  · exact ⟨h2, p2⟩
  · exact ⟨h3, p3⟩
  · exact ⟨h4, p4⟩
  · exact ⟨h5, p5⟩
  · exact ⟨h6, p6⟩
  · exact ⟨h7, p7⟩
  · exact ⟨h8, p8⟩
  · exact ⟨h9, p9⟩
def laI0 (l : List PktN) (n : Nat) (k : Nat) (F : Nat → Option UInt8) : AE := ⟨[(21, .v (i64 k)), (20, .v (i64 l.length)), (19, .v (.sl 11 (pktsL l))), (6, .s 0 0 n), (7, .s 1 0 n), (8, .v (i64 (cnt n F)))], [(true, bytesL (lst n F)), (true, boolsL (lsb n F))]⟩
def lbI0 (l : List PktN) (r : PktN) (n k i : Nat) (F : Nat → Option UInt8) : AE := ⟨[(28, .v (i64 i)), (27, .v (i64 r.data.length)), (26, .v (.bs r.data)), (10, .p 2 0), (21, .v (i64 k)), (20, .v (i64 l.length)), (19, .v (.sl 11 (pktsL l))), (6, .s 0 0 n), (7, .s 1 0 n), (8, .v (i64 (cnt n F)))],
  [(true, bytesL (lst n F)), (true, boolsL (lsb n F)), (true, pktL r)]⟩
def laI1 (l : List PktN) (n : Nat) (k : Nat) (F : Nat → Option UInt8) : AE := ⟨[(21, .v (i64 k)), (20, .v (i64 l.length)), (19, .v (.sl 11 (pktsL l))), (6, .s 1 0 n), (7, .s 0 0 n), (8, .v (i64 (cnt n F)))], [(true, boolsL (lsb n F)), (true, bytesL (lst n F))]⟩
def lbI1 (l : List PktN) (r : PktN) (n k i : Nat) (F : Nat → Option UInt8) : AE := ⟨[(28, .v (i64 i)), (27, .v (i64 r.data.length)), (26, .v (.bs r.data)), (10, .p 2 0), (21, .v (i64 k)), (20, .v (i64 l.length)), (19, .v (.sl 11 (pktsL l))), (6, .s 1 0 n), (7, .s 0 0 n), (8, .v (i64 (cnt n F)))],
  [(true, boolsL (lsb n F)), (true, bytesL (lst n F)), (true, pktL r)]⟩
set_option maxRecDepth 100000 in
set_option maxHeartbeats 4000000 in
theorem fgLay_a (l : List PktN) (n : Nat) (hl : pksOk l) (hn : n ≤ 1000000) (hto : ∀ p ∈ l, toP p ≤ n) : ASpec Try.prog 69 [.sl 11 (pktsL l), i64 n] (.tup [.bs (lst n (cov l)), boA (decide (cnt n (cov l) = 0))]) := by
  have hpd := pkts_div l
  have hpl := pktsL_len l
  have hl1 := hl.1
  have q0 : (0 : Int) ≤ (n : Int) := by omega
  have q1 : ((n : Int) ≤ 1000000) := by omega
  have z0 : bytesL (List.replicate n 0) = bytesL (lst n (cov (l.take 0))) := by rw [List.take_zero, cov_nil]; congr 1; apply List.ext_getElem <;> simp [lst]
  have z1 : List.replicate n (AV.one (.bool false)) = boolsL (lsb n (cov (l.take 0))) := by rw [List.take_zero, cov_nil]; apply List.ext_getElem <;> simp [lsb, boolsL]
  refine ASpec.of_body TT_ok Try.mixed _ [.tmp 4, .tmp 5] ([], [(1, 4000)]) Try.func69 (by kernel_rfl) rfl rfl (by simp only [Try.ntmps69, List.length_cons, List.length_nil]; omega) rfl (by kernel_rfl) ?_
  simp only [argE_cons, argE_nil, ac_seq, ac_region, at_normal, ao_nil, ao_cons, as_assign, i64, boA, fr_false, List.contains_nil, beq_self_eq_true, aopsD, tlN, constT, evT, putT, constA, cellA, Nat.reduceAdd, Nat.reduceSub, Nat.reduceLeDiff, eq_self, Bool.false_eq_true, ↓reduceIte, Nat.zero_add, Nat.le_refl]
  refine ⟨(.first 0 (.first 2 (.node 1 (.first 4 (.node 3 (.first 5 .nil) .nil)) (.node 3 (.node 1 (.first 4 (.first 5 .nil)) .nil) .nil)))), by kernel_rfl, ?_⟩
  repeat' (first
    | with_reducible refine And.intro ?_ ?_
    | (simp only [hpd, q0, q1, Int.toNat_natCast, ac_seq, ac_block, ac_region, ac_loop, at_normal, ao_nil, ao_cons, as_move, as_assign, as_makeSlice, an_tmp, af_nil, af_nil_f, af_node, af_first, an_step, af_step, freeF, as_len, fr_false, List.contains_nil, beq_self_eq_true, hk_some, hopG, hopF, rd, aopsD, constT, evT, lk, putT, lenF, constA, cellA, List.length_cons, List.length_nil, List.getElem?_cons_zero, List.getElem?_cons_succ, List.nil_append, List.cons_append, Nat.reduceSub, Nat.reduceEqDiff, Nat.reduceLeDiff, Nat.succ_ne_zero, true_and, and_true, and_self, eq_self, reduceCtorEq, Bool.false_eq_true, ↓reduceIte, Nat.zero_add, Nat.zero_lt_succ, TT4, TT5, TT38, TT84, TT129]))
  · refine .inr ⟨LayK l, fun x => laI0 l n x.k (cov (l.take x.k)), fun x => l.length - x.k, ⟨0, by omega⟩, ⟨by rw [z0, z1]; rfl, leL6 rfl rfl rfl rfl rfl (by rw [List.take_zero, cov_nil, cnt_none]; rfl) trivial trivial trivial (by show (0 : Nat) < 2; decide) (by show (1 : Nat) < 2; decide) trivial⟩, ?_⟩
    rintro ⟨k, hk⟩
    by_cases hkl : k < l.length
    · obtain ⟨r, hr⟩ : ∃ r, r = l.getD k pktZ := ⟨_, rfl⟩
      have hrm : r ∈ l := by rw [hr]; simp [List.getD, hkl]
      obtain ⟨hro, hrp, hrd⟩ := hl.2 r hrm
      have hat := pkts_at l k hkl
      rw [← hr] at hat
      have hoff := hro.off
      have hrt : r.off * 8 + r.data.length ≤ n := hto r hrm
      have c0 : decide ((k : Int) < (l.length : Int)) = true := by simpa using hkl
      have hd3 : (k + 1) * 11 ≤ (pktsL l).length := by omega
      have w1 : IntKind.i64.wrap ((k : Int) + 1) = ((k + 1 : Nat) : Int) := by rw [i64_in (by omega) (by omega)]; omega
      have h0k : (0 : Int) ≤ (k : Int) := by omega
      simp only [laI0, c0, Int.toNat_natCast, hat, hd3, h0k, ac_skip, ac_seq, ac_block, ac_cond, ac_region, ac_loop, at_normal, ao_nil, ao_cons, if_t, as_alloc, as_store, as_move, as_binOp, as_load, as_fieldAddr, as_indexAddr, as_len, pktL, u8A, u16A, u32A, i64, boA, fr_false, List.contains_nil, beq_self_eq_true, Bool.and_self, hk_some, hopG, hopF, rd, aopsD, heapF, frzW, frzR, constT, evT, lk, putT, lenF, binF, loadF, cellsF, ovw, okCell, constA, cellA, TK.isAgg, Value.oneCell', List.length_cons, List.length_nil, List.getElem?_cons_zero, List.getElem?_cons_succ, List.drop_zero, List.drop_succ_cons, List.take_succ_cons, List.take_nil, List.set_cons_zero, List.set_cons_succ, List.nil_append, List.cons_append, List.all_cons, List.all_nil, Option.map_some, Nat.reduceAdd, Nat.reduceSub, Nat.reduceEqDiff, Nat.reduceLeDiff, Nat.succ_ne_zero, ne_eq, not_false_eq_true, true_and, and_self, eq_self, Bool.false_eq_true, ↓reduceIte, Nat.zero_add, Nat.zero_lt_succ, Nat.le_refl, TT3, TT38, TT84, TT87]
      refine .inr ⟨LayI r, fun x => lbI0 l r n k x.i (covI l k x.i), fun x => r.data.length - x.i, ⟨0, by omega⟩, ⟨congrArg (fun z => [(true, bytesL (lst n z)), (true, boolsL (lsb n z)), (true, pktL r)]) (covI_0 l k).symm, leL10 rfl rfl rfl rfl rfl rfl rfl rfl rfl (congrArg (fun z => TV.v (i64 (cnt n z : Int))) (covI_0 l k).symm) trivial trivial trivial (by show (2 : Nat) < 3; decide) trivial trivial trivial (by show (0 : Nat) < 3; decide) (by show (1 : Nat) < 3; decide) trivial⟩, ?_⟩
      rintro ⟨i, hi⟩
      by_cases hil : i < r.data.length
      · have d0 : decide ((i : Int) < (r.data.length : Int)) = true := by simpa using hil
        have hal : r.off.toNat * 8 + i < n := by omega
        have v1 : IntKind.i64.wrap ((i : Int) + 1) = ((i + 1 : Nat) : Int) := by rw [i64_in (by omega) (by omega)]; omega
        have v2 : IntKind.i64.wrap (r.off * 8 + (i : Int)) = ((r.off.toNat * 8 + i : Nat) : Int) := by rw [i64_in (by omega) (by omega)]; omega
        have h0i : (0 : Int) ≤ (i : Int) := by omega
        have hil2 : (i : Int) < (r.data.length : Int) := by omega
        simp only [lbI0, Int.toNat_natCast, h0i, hil2, ac_skip, ac_seq, ac_block, ac_cond, ac_region, at_normal, ao_nil, ao_cons, if_t, as_call, as_move, as_assign, as_binOp, as_load, as_indexAddr, pktL, u8A, u16A, u32A, i64, boA, fr_false, List.contains_nil, beq_self_eq_true, decide_true, hk_some, hopG, rd, aopsD, frzW, frzR, evT, lk, putT, binF, loadF, argsF, TK.isAgg, List.length_cons, List.length_nil, List.getElem?_cons_zero, List.getElem?_cons_succ, List.drop_zero, List.take_succ_cons, List.take_nil, Option.map_some, Nat.reduceAdd, Nat.reduceSub, Nat.reduceEqDiff, Nat.reduceLeDiff, true_and, and_self, eq_self, Bool.false_eq_true, ↓reduceIte, Nat.zero_add, Nat.le_refl, TT3, TT5, TT38, TT87]
        refine ACall.intro (fgFrom_a r hoff) ?_
        have g0 : (0 : Int) ≤ ((r.off.toNat * 8 + i : Nat) : Int) := by omega
        have g1 : ((r.off.toNat * 8 + i : Nat) : Int) < (n : Int) := by omega
        have hfd := boolsL_drop (lsb n (covI l k i)) (r.off.toNat * 8 + i) (by rw [lsb_len]; exact hal)
        rw [lsb_get n _ _ hal] at hfd
        have g2 : r.off.toNat * 8 + i + 1 ≤ (boolsL (lsb n (covI l k i))).length := by rw [boolsL_len, lsb_len]; omega
        have g3 : r.off.toNat * 8 + i + 1 ≤ (bytesL (lst n (covI l k i))).length := by rw [bytesL_len, lst_len]; omega
        simp only [v2, g0, g1, hfd, Int.toNat_natCast, Nat.zero_add, ac_seq, ac_cond, ac_region, at_normal, ao_nil, ao_cons, as_move, as_assign, as_binOp, as_unOp, as_load, as_indexAddr, i64, fr_false, List.contains_nil, beq_self_eq_true, hk_some, hopG, rd, aopsD, evT, lk, putT, binF, unF, loadF, TK.isAgg, List.getElem?_cons_zero, List.getElem?_cons_succ, Option.map_some, Nat.reduceSub, Nat.reduceEqDiff, Nat.reduceLeDiff, true_and, and_self, eq_self, Bool.false_eq_true, ↓reduceIte, Nat.zero_add, TT3, TT4, TT129]
        cases hm : (covI l k i (r.off.toNat * 8 + i)).isSome
        · have hnew := covI_new l k i (by rw [← hr]; exact hil) (by rw [← hr]; exact hm)
          rw [← hr] at hnew
          have hs1 := boolsL_set (lsb n (covI l k i)) (r.off.toNat * 8 + i) true
          rw [lsb_set n _ _ (r.data.getD i 0), ← hnew] at hs1
          have hs2 := bytesL_set (lst n (covI l k i)) (r.off.toNat * 8 + i) ((r.data.getD i 0).toNat : Int) (by omega) (by have := (r.data.getD i 0).toNat_lt; omega)
          rw [show u8 ((r.data.getD i 0).toNat : Int) = r.data.getD i 0 by apply UInt8.toNat_inj.1; have := u8_toNat ((r.data.getD i 0).toNat : Int); have := (r.data.getD i 0).toNat_lt; omega, lst_set, ← hnew] at hs2
          have hcu := cnt_upd (covI l k i) (r.off.toNat * 8 + i) (r.data.getD i 0) hm n
          rw [← hnew, if_pos hal] at hcu
          have hcl := cnt_le (covI l k i) n
          have v3 : IntKind.i64.wrap ((cnt n (covI l k i) : Int) - 1) = (cnt n (covI l k (i + 1)) : Int) := by rw [i64_in (by omega) (by omega)]; omega
          simp only [v1, v3, g0, g1, g2, hs1, hs2, Int.toNat_natCast, Nat.zero_add, ac_seq, ac_region, at_normal, ab_normal, ao_nil, ao_cons, if_t, as_store, as_move, as_assign, as_binOp, as_indexAddr, bytesL_len, fr_false, List.contains_nil, beq_self_eq_true, Bool.and_self, hk_some, hopG, rd, aopsD, heapF, frzW, frzR, constT, evT, lk, putT, binF, cellsF, ovw, okCell, constA, cellA, Value.oneCell', List.length_cons, List.length_nil, List.getElem?_cons_zero, List.getElem?_cons_succ, List.set_cons_zero, List.set_cons_succ, List.all_cons, List.all_nil, Option.map_some, Nat.reduceSub, Nat.reduceEqDiff, Nat.reduceLeDiff, true_and, and_true, and_self, eq_self, Bool.false_eq_true, Bool.not_false, ↓reduceIte, Nat.zero_add, TT3, TT4, TT5, TT38, TT129]
          exact ⟨by rw [lst_len]; omega, ⟨i + 1, by omega⟩, ⟨rfl, leL10 rfl rfl rfl rfl rfl rfl rfl rfl rfl rfl trivial trivial trivial (by show (2 : Nat) < 3; decide) trivial trivial trivial (by show (0 : Nat) < 3; decide) (by show (1 : Nat) < 3; decide) trivial⟩, by show r.data.length - (i + 1) < r.data.length - i; omega⟩
        · have hmet := covI_met l k i (by rw [← hr]; exact hil) (by rw [← hr]; exact hm)
          simp only [v1, ac_skip, ac_region, at_normal, ab_normal, ao_nil, ao_cons, if_f, as_move, as_binOp, fr_false, List.contains_nil, beq_self_eq_true, hk_some, hopG, rd, aopsD, constT, evT, lk, putT, binF, constA, cellA, Option.map_some, Nat.reduceSub, Nat.reduceEqDiff, Nat.reduceLeDiff, true_and, eq_self, Bool.false_eq_true, Bool.not_true, ↓reduceIte, TT3]
          exact ⟨⟨i + 1, by omega⟩, ⟨congrArg (fun z => [(true, bytesL (lst n z)), (true, boolsL (lsb n z)), (true, pktL r)]) hmet.symm, leL10 rfl rfl rfl rfl rfl rfl rfl rfl rfl (congrArg (fun z => TV.v (i64 (cnt n z : Int))) hmet.symm) trivial trivial trivial (by show (2 : Nat) < 3; decide) trivial trivial trivial (by show (0 : Nat) < 3; decide) (by show (1 : Nat) < 3; decide) trivial⟩, by show r.data.length - (i + 1) < r.data.length - i; omega⟩
      · obtain rfl : i = r.data.length := by omega
        have d0 : decide ((r.data.length : Int) < (r.data.length : Int)) = false := by simp
        have hall := covI_all l k hkl
        rw [← hr] at hall
        simp only [lbI0, d0, w1, ac_exit, ac_seq, ac_cond, ac_region, at_normal, at_exit, ab_normal, ab_exit, ao_nil, ao_cons, if_f, as_move, as_binOp, pktL, u8A, u16A, u32A, i64, boA, fr_false, List.contains_nil, beq_self_eq_true, hk_some, hopG, rd, aopsD, constT, evT, lk, putT, binF, constA, cellA, Option.map_some, Nat.reduceSub, Nat.reduceEqDiff, Nat.reduceLeDiff, true_and, eq_self, Bool.false_eq_true, ↓reduceIte, TT3]
        exact ⟨⟨k + 1, by omega⟩, ⟨congrArg (fun z => [(true, bytesL (lst n z)), (true, boolsL (lsb n z))]) hall, leL6 rfl rfl rfl rfl rfl (congrArg (fun z => TV.v (i64 (cnt n z : Int))) hall) trivial trivial trivial (by show (0 : Nat) < 2; decide) (by show (1 : Nat) < 2; decide) trivial⟩, by show l.length - (k + 1) < l.length - k; omega⟩
    · obtain rfl : k = l.length := by omega
      have c0 : decide ((l.length : Int) < (l.length : Int)) = false := by simp
      have e0 : l.take l.length = l := List.take_length
      have e1 : (lst n (cov l)).take n = lst n (cov l) := List.take_of_length_le (by rw [lst_len]; omega)
      have e2 : decide ((cnt n (cov l) : Int) = 0) = decide (cnt n (cov l) = 0) := by congr 1; apply propext; omega
      simp only [laI0, c0, e0, e1, e2, lst_len, hn, Nat.le_refl, ac_exit, ac_ret, ac_seq, ac_cond, ac_region, at_normal, at_exit, ab_exit, ae_ret, ao_nil, ao_cons, if_f, as_move, as_assign, as_binOp, bytesL_len, asB_take, i64, fr_false, fr_nil, fr_cons, List.contains_nil, beq_self_eq_true, hk_some, hopG, rd, aopsD, constT, evT, lk, putT, binF, resF, resL, constA, cellA, List.getElem?_cons_zero, List.drop_zero, Option.map_some, Option.bind_some, Nat.reduceSub, Nat.reduceEqDiff, Nat.reduceLeDiff, and_true, and_self, eq_self, Bool.false_eq_true, ↓reduceIte, Nat.zero_add, Nat.le_refl, TT3]
  · refine .inr ⟨LayK l, fun x => laI1 l n x.k (cov (l.take x.k)), fun x => l.length - x.k, ⟨0, by omega⟩, ⟨by rw [z0, z1]; rfl, leL6 rfl rfl rfl rfl rfl (by rw [List.take_zero, cov_nil, cnt_none]; rfl) trivial trivial trivial (by show (1 : Nat) < 2; decide) (by show (0 : Nat) < 2; decide) trivial⟩, ?_⟩
    rintro ⟨k, hk⟩
    by_cases hkl : k < l.length
    · obtain ⟨r, hr⟩ : ∃ r, r = l.getD k pktZ := ⟨_, rfl⟩
      have hrm : r ∈ l := by rw [hr]; simp [List.getD, hkl]
      obtain ⟨hro, hrp, hrd⟩ := hl.2 r hrm
      have hat := pkts_at l k hkl
      rw [← hr] at hat
      have hoff := hro.off
      have hrt : r.off * 8 + r.data.length ≤ n := hto r hrm
      have c0 : decide ((k : Int) < (l.length : Int)) = true := by simpa using hkl
      have hd3 : (k + 1) * 11 ≤ (pktsL l).length := by omega
      have w1 : IntKind.i64.wrap ((k : Int) + 1) = ((k + 1 : Nat) : Int) := by rw [i64_in (by omega) (by omega)]; omega
      have h0k : (0 : Int) ≤ (k : Int) := by omega
      simp only [laI1, c0, Int.toNat_natCast, hat, hd3, h0k, ac_skip, ac_seq, ac_block, ac_cond, ac_region, ac_loop, at_normal, ao_nil, ao_cons, if_t, as_alloc, as_store, as_move, as_binOp, as_load, as_fieldAddr, as_indexAddr, as_len, pktL, u8A, u16A, u32A, i64, boA, fr_false, List.contains_nil, beq_self_eq_true, Bool.and_self, hk_some, hopG, hopF, rd, aopsD, heapF, frzW, frzR, constT, evT, lk, putT, lenF, binF, loadF, cellsF, ovw, okCell, constA, cellA, TK.isAgg, Value.oneCell', List.length_cons, List.length_nil, List.getElem?_cons_zero, List.getElem?_cons_succ, List.drop_zero, List.drop_succ_cons, List.take_succ_cons, List.take_nil, List.set_cons_zero, List.set_cons_succ, List.nil_append, List.cons_append, List.all_cons, List.all_nil, Option.map_some, Nat.reduceAdd, Nat.reduceSub, Nat.reduceEqDiff, Nat.reduceLeDiff, Nat.succ_ne_zero, ne_eq, not_false_eq_true, true_and, and_self, eq_self, Bool.false_eq_true, ↓reduceIte, Nat.zero_add, Nat.zero_lt_succ, Nat.le_refl, TT3, TT38, TT84, TT87]
      refine .inr ⟨LayI r, fun x => lbI1 l r n k x.i (covI l k x.i), fun x => r.data.length - x.i, ⟨0, by omega⟩, ⟨congrArg (fun z => [(true, boolsL (lsb n z)), (true, bytesL (lst n z)), (true, pktL r)]) (covI_0 l k).symm, leL10 rfl rfl rfl rfl rfl rfl rfl rfl rfl (congrArg (fun z => TV.v (i64 (cnt n z : Int))) (covI_0 l k).symm) trivial trivial trivial (by show (2 : Nat) < 3; decide) trivial trivial trivial (by show (1 : Nat) < 3; decide) (by show (0 : Nat) < 3; decide) trivial⟩, ?_⟩
      rintro ⟨i, hi⟩
      by_cases hil : i < r.data.length
      · have d0 : decide ((i : Int) < (r.data.length : Int)) = true := by simpa using hil
        have hal : r.off.toNat * 8 + i < n := by omega
        have v1 : IntKind.i64.wrap ((i : Int) + 1) = ((i + 1 : Nat) : Int) := by rw [i64_in (by omega) (by omega)]; omega
        have v2 : IntKind.i64.wrap (r.off * 8 + (i : Int)) = ((r.off.toNat * 8 + i : Nat) : Int) := by rw [i64_in (by omega) (by omega)]; omega
        have h0i : (0 : Int) ≤ (i : Int) := by omega
        have hil2 : (i : Int) < (r.data.length : Int) := by omega
        simp only [lbI1, Int.toNat_natCast, h0i, hil2, ac_skip, ac_seq, ac_block, ac_cond, ac_region, at_normal, ao_nil, ao_cons, if_t, as_call, as_move, as_assign, as_binOp, as_load, as_indexAddr, pktL, u8A, u16A, u32A, i64, boA, fr_false, List.contains_nil, beq_self_eq_true, decide_true, hk_some, hopG, rd, aopsD, frzW, frzR, evT, lk, putT, binF, loadF, argsF, TK.isAgg, List.length_cons, List.length_nil, List.getElem?_cons_zero, List.getElem?_cons_succ, List.drop_zero, List.take_succ_cons, List.take_nil, Option.map_some, Nat.reduceAdd, Nat.reduceSub, Nat.reduceEqDiff, Nat.reduceLeDiff, true_and, and_self, eq_self, Bool.false_eq_true, ↓reduceIte, Nat.zero_add, Nat.le_refl, TT3, TT5, TT38, TT87]
        refine ACall.intro (fgFrom_a r hoff) ?_
        have g0 : (0 : Int) ≤ ((r.off.toNat * 8 + i : Nat) : Int) := by omega
        have g1 : ((r.off.toNat * 8 + i : Nat) : Int) < (n : Int) := by omega
        have hfd := boolsL_drop (lsb n (covI l k i)) (r.off.toNat * 8 + i) (by rw [lsb_len]; exact hal)
        rw [lsb_get n _ _ hal] at hfd
        have g2 : r.off.toNat * 8 + i + 1 ≤ (boolsL (lsb n (covI l k i))).length := by rw [boolsL_len, lsb_len]; omega
        have g3 : r.off.toNat * 8 + i + 1 ≤ (bytesL (lst n (covI l k i))).length := by rw [bytesL_len, lst_len]; omega
        simp only [v2, g0, g1, hfd, Int.toNat_natCast, Nat.zero_add, ac_seq, ac_cond, ac_region, at_normal, ao_nil, ao_cons, as_move, as_assign, as_binOp, as_unOp, as_load, as_indexAddr, i64, fr_false, List.contains_nil, beq_self_eq_true, hk_some, hopG, rd, aopsD, evT, lk, putT, binF, unF, loadF, TK.isAgg, List.getElem?_cons_zero, Option.map_some, Nat.reduceSub, Nat.reduceEqDiff, Nat.reduceLeDiff, true_and, and_self, eq_self, Bool.false_eq_true, ↓reduceIte, Nat.zero_add, TT3, TT4, TT129]
        cases hm : (covI l k i (r.off.toNat * 8 + i)).isSome
        · have hnew := covI_new l k i (by rw [← hr]; exact hil) (by rw [← hr]; exact hm)
          rw [← hr] at hnew
          have hs1 := boolsL_set (lsb n (covI l k i)) (r.off.toNat * 8 + i) true
          rw [lsb_set n _ _ (r.data.getD i 0), ← hnew] at hs1
          have hs2 := bytesL_set (lst n (covI l k i)) (r.off.toNat * 8 + i) ((r.data.getD i 0).toNat : Int) (by omega) (by have := (r.data.getD i 0).toNat_lt; omega)
          rw [show u8 ((r.data.getD i 0).toNat : Int) = r.data.getD i 0 by apply UInt8.toNat_inj.1; have := u8_toNat ((r.data.getD i 0).toNat : Int); have := (r.data.getD i 0).toNat_lt; omega, lst_set, ← hnew] at hs2
          have hcu := cnt_upd (covI l k i) (r.off.toNat * 8 + i) (r.data.getD i 0) hm n
          rw [← hnew, if_pos hal] at hcu
          have hcl := cnt_le (covI l k i) n
          have v3 : IntKind.i64.wrap ((cnt n (covI l k i) : Int) - 1) = (cnt n (covI l k (i + 1)) : Int) := by rw [i64_in (by omega) (by omega)]; omega
          simp only [v1, v3, g0, g1, g2, hs1, hs2, Int.toNat_natCast, Nat.zero_add, ac_seq, ac_region, at_normal, ab_normal, ao_nil, ao_cons, if_t, as_store, as_move, as_assign, as_binOp, as_indexAddr, bytesL_len, fr_false, List.contains_nil, beq_self_eq_true, Bool.and_self, hk_some, hopG, rd, aopsD, heapF, frzW, frzR, constT, evT, lk, putT, binF, cellsF, ovw, okCell, constA, cellA, Value.oneCell', List.length_cons, List.length_nil, List.getElem?_cons_zero, List.getElem?_cons_succ, List.set_cons_zero, List.set_cons_succ, List.all_cons, List.all_nil, Option.map_some, Nat.reduceSub, Nat.reduceEqDiff, Nat.reduceLeDiff, true_and, and_true, and_self, eq_self, Bool.false_eq_true, Bool.not_false, ↓reduceIte, Nat.zero_add, TT3, TT4, TT5, TT38, TT129]
          exact ⟨by rw [lst_len]; omega, ⟨i + 1, by omega⟩, ⟨rfl, leL10 rfl rfl rfl rfl rfl rfl rfl rfl rfl rfl trivial trivial trivial (by show (2 : Nat) < 3; decide) trivial trivial trivial (by show (1 : Nat) < 3; decide) (by show (0 : Nat) < 3; decide) trivial⟩, by show r.data.length - (i + 1) < r.data.length - i; omega⟩
        · have hmet := covI_met l k i (by rw [← hr]; exact hil) (by rw [← hr]; exact hm)
          simp only [v1, ac_skip, ac_region, at_normal, ab_normal, ao_nil, ao_cons, if_f, as_move, as_binOp, fr_false, List.contains_nil, beq_self_eq_true, hk_some, hopG, rd, aopsD, constT, evT, lk, putT, binF, constA, cellA, Option.map_some, Nat.reduceSub, Nat.reduceEqDiff, Nat.reduceLeDiff, true_and, eq_self, Bool.false_eq_true, Bool.not_true, ↓reduceIte, TT3]
          exact ⟨⟨i + 1, by omega⟩, ⟨congrArg (fun z => [(true, boolsL (lsb n z)), (true, bytesL (lst n z)), (true, pktL r)]) hmet.symm, leL10 rfl rfl rfl rfl rfl rfl rfl rfl rfl (congrArg (fun z => TV.v (i64 (cnt n z : Int))) hmet.symm) trivial trivial trivial (by show (2 : Nat) < 3; decide) trivial trivial trivial (by show (1 : Nat) < 3; decide) (by show (0 : Nat) < 3; decide) trivial⟩, by show r.data.length - (i + 1) < r.data.length - i; omega⟩
      · obtain rfl : i = r.data.length := by omega
        have d0 : decide ((r.data.length : Int) < (r.data.length : Int)) = false := by simp
        have hall := covI_all l k hkl
        rw [← hr] at hall
        simp only [lbI1, d0, w1, ac_exit, ac_seq, ac_cond, ac_region, at_normal, at_exit, ab_normal, ab_exit, ao_nil, ao_cons, if_f, as_move, as_binOp, pktL, u8A, u16A, u32A, i64, boA, fr_false, List.contains_nil, beq_self_eq_true, hk_some, hopG, rd, aopsD, constT, evT, lk, putT, binF, constA, cellA, Option.map_some, Nat.reduceSub, Nat.reduceEqDiff, Nat.reduceLeDiff, true_and, eq_self, Bool.false_eq_true, ↓reduceIte, TT3]
        exact ⟨⟨k + 1, by omega⟩, ⟨congrArg (fun z => [(true, boolsL (lsb n z)), (true, bytesL (lst n z))]) hall, leL6 rfl rfl rfl rfl rfl (congrArg (fun z => TV.v (i64 (cnt n z : Int))) hall) trivial trivial trivial (by show (1 : Nat) < 2; decide) (by show (0 : Nat) < 2; decide) trivial⟩, by show l.length - (k + 1) < l.length - k; omega⟩
    · obtain rfl : k = l.length := by omega
      have c0 : decide ((l.length : Int) < (l.length : Int)) = false := by simp
      have e0 : l.take l.length = l := List.take_length
      have e1 : (lst n (cov l)).take n = lst n (cov l) := List.take_of_length_le (by rw [lst_len]; omega)
      have e2 : decide ((cnt n (cov l) : Int) = 0) = decide (cnt n (cov l) = 0) := by congr 1; apply propext; omega
      simp only [laI1, c0, e0, e1, e2, lst_len, hn, Nat.le_refl, ac_exit, ac_ret, ac_seq, ac_cond, ac_region, at_normal, at_exit, ab_exit, ae_ret, ao_nil, ao_cons, if_f, as_move, as_assign, as_binOp, bytesL_len, asB_take, i64, fr_false, fr_nil, fr_cons, List.contains_nil, beq_self_eq_true, hk_some, hopG, rd, aopsD, constT, evT, lk, putT, binF, resF, resL, constA, cellA, List.getElem?_cons_zero, List.getElem?_cons_succ, List.drop_zero, Option.map_some, Option.bind_some, Nat.reduceSub, Nat.reduceEqDiff, Nat.reduceLeDiff, and_true, and_self, eq_self, Bool.false_eq_true, ↓reduceIte, Nat.zero_add, Nat.le_refl, TT3]
end Go.Proofs.Ythjojkkapboonaa
