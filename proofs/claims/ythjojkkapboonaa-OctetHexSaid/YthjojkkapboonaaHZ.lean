/- The reference's Unhex and Hex. -/
import Derived.Test.YthjojkkapboonaaHY
namespace Go.Proofs.Ythjojkkapboonaa
set_option linter.unusedSimpArgs false
set_option linter.unusedVariables false
open Go.RowKit

theorem figV : ∀ (f : _root_.Fin 16) (x : _root_.Fin 256), decide (((UInt8.ofNat x.val).toNat : Int) = ((fig ((f.val : Nat) : Int)).toNat : Int)) = decide (val (UInt8.ofNat x.val) = ((f.val : Nat) : Int)) := by decide +kernel
theorem fig_val (x : UInt8) (f : Nat) (h : f < 16) : decide ((x.toNat : Int) = ((fig (f : Int)).toNat : Int)) = decide (val x = (f : Int)) := by
  have := figV ⟨f, h⟩ ⟨x.toNat, x.toNat_lt⟩
  simpa using this
theorem figure_a (n : Nat) (h : n < 16) : ASpec Try.prog 56 [u8A n] (u8A ((fig (n : Int)).toNat : Int)) := by
  refine .mk (okF _ Try.func56 (by kernel_rfl) rfl) fun M w vs hM h1 => ?_
  obtain ⟨_, vs, rfl, h2, h1⟩ := h1.cons_iff
  obtain rfl := h1.nil_iff
  rw [RepV.one_iff] at h2
  subst h2
  refine (figure_any (n : Int) w (by omega) (by omega)).mono ?_
  rintro e w' ⟨rfl, rfl⟩
  exact ⟨_, rfl, RepV.one_iff.2 rfl, Grow.refl _⟩
theorem refHex_a (l : List UInt8) (hl : l.length ≤ 1000000) : ASpec Try.prog 28 [.bs l] (.one (.string (bstr (hexL l)))) := by
  refine .mk (okF _ Try.func28 (by kernel_rfl) rfl) fun M w vs hM h => ?_
  obtain ⟨v, vs, rfl, h1, h⟩ := h.cons_iff
  obtain rfl := h.nil_iff
  refine (refHex_any v l w h1.isB (by omega)).mono ?_
  rintro e w' ⟨rfl, g⟩
  exact ⟨_, rfl, RepV.one_iff.2 rfl, g⟩
theorem lives01_a : ASpec Try.prog 29 [] (boA true) := by
  refine .mk (okF _ Try.func29 (by kernel_rfl) rfl) fun M w vs hM h => ?_
  obtain rfl := h.nil_iff
  refine (lives01_any w).mono ?_
  rintro e w' ⟨rfl, g⟩
  exact ⟨_, rfl, RepV.one_iff.2 rfl, g⟩
/-- The figure that was met so far: 16: none. -/
def metV (x : UInt8) (f : Nat) : Int := if 0 ≤ val x ∧ val x < f then val x else 16
theorem metV_0 (x : UInt8) : metV x 0 = 16 := by
  unfold metV
  rw [if_neg (by omega)]
theorem metV_t (x : UInt8) (f : Nat) (h : val x = f) : metV x (f + 1) = f := by
  unfold metV
  rw [if_pos (by omega), h]
theorem metV_f (x : UInt8) (f : Nat) (h : ¬ val x = f) : metV x (f + 1) = metV x f := by
  unfold metV
  by_cases h1 : 0 ≤ val x ∧ val x < f
  · rw [if_pos h1, if_pos (by omega)]
  · rw [if_neg h1, if_neg (by omega)]
theorem metV_16 (x : UInt8) : metV x 16 = if 0 ≤ val x then val x else 16 := by
  have := val_bd x
  unfold metV
  by_cases h1 : 0 ≤ val x
  · rw [if_pos (by omega), if_pos h1]
  · rw [if_neg (by omega), if_neg h1]
def pairB (l : List UInt8) (a : Nat) : UInt8 := u8 (val (l.getD (2 * a) 0) * 16 + val (l.getD (2 * a + 1) 0))
def outR (l : List UInt8) (j : Nat) : List UInt8 := (List.range j).map (pairB l)
theorem outR_succ (l : List UInt8) (j : Nat) : outR l (j + 1) = outR l j ++ [pairB l j] := by simp [outR, List.range_succ]
theorem outR_end (l : List UInt8) (he : l.length % 2 = 0) : outR l (l.length / 2) = outAt l l.length := by
  apply List.ext_getElem
  · simp [outR, outAt]
  · intro i h1 h2
    simp only [outR, List.length_map, List.length_range] at h1
    simp only [outR, outAt, List.getElem_map, List.getElem_range]
    unfold outC pairB
    rw [if_pos (by omega)]
structure RuK (l : List UInt8) where
  j : Nat
  hj : 2 * j ≤ l.length
  ok : ∀ x ∈ l.take (2 * j), 0 ≤ val x
def ruI (s : ByteArray) (l : List UInt8) (j : Nat) : AE := ⟨[(5, .v (i64 (2 * j : Nat))), (0, .v (.one (.string s))), (4, .r 0 5 1 (.bs (outR l j)))], [(true, [])]⟩
def ruJ (s : ByteArray) (l : List UInt8) (j : Nat) (x y : UInt8) (f : Nat) : AE := ⟨[(8, .v (i64 f)), (6, .v (i64 (metV x f))), (7, .v (i64 (metV y f))), (5, .v (i64 (2 * j : Nat))), (0, .v (.one (.string s))), (4, .r 0 5 1 (.bs (outR l j)))], [(true, [])]⟩
theorem leB3 {E : AE} {L : Nat} {t0 t1 t2 : Nat} {v0 v1 v2 : TV} (h0 : lk E.t t0 = v0) (h1 : lk E.t t1 = v1) (h2 : lk E.t t2 = v2) (p0 : PtOk L v0) (p1 : PtOk L v1) (p2 : PtOk L v2) :
    ∀ p ∈ [(t0, v0), (t1, v1), (t2, v2)], lk E.t p.1 = p.2 ∧ PtOk L p.2 := by
  intro p hp
  simp only [List.mem_cons, List.not_mem_nil, or_false] at hp
  rcases hp with rfl | rfl | rfl
  · exact ⟨h0, p0⟩
  · exact ⟨h1, p1⟩
  · exact ⟨h2, p2⟩
theorem leB6 {E : AE} {L : Nat} {t0 t1 t2 t3 t4 t5 : Nat} {v0 v1 v2 v3 v4 v5 : TV} (h0 : lk E.t t0 = v0) (h1 : lk E.t t1 = v1) (h2 : lk E.t t2 = v2) (h3 : lk E.t t3 = v3) (h4 : lk E.t t4 = v4) (h5 : lk E.t t5 = v5) (p0 : PtOk L v0) (p1 : PtOk L v1) (p2 : PtOk L v2) (p3 : PtOk L v3) (p4 : PtOk L v4) (p5 : PtOk L v5) :
    ∀ p ∈ [(t0, v0), (t1, v1), (t2, v2), (t3, v3), (t4, v4), (t5, v5)], lk E.t p.1 = p.2 ∧ PtOk L p.2 := by
  intro p hp
  simp only [List.mem_cons, List.not_mem_nil, or_false] at hp
  rcases hp with rfl | rfl | rfl | rfl | rfl | rfl
  · exact ⟨h0, p0⟩
  · exact ⟨h1, p1⟩
  · exact ⟨h2, p2⟩
  · exact ⟨h3, p3⟩
  · exact ⟨h4, p4⟩
  · exact ⟨h5, p5⟩
set_option maxRecDepth 100000 in
set_option maxHeartbeats 4000000 in
theorem refUnhex_a (s : ByteArray) (hl : s.size ≤ 1000000) : ASpec Try.prog 26 [.one (.string s)] (.tup [.bs (unhexP s.toList).1, i64 (unhexP s.toList).2]) := by
  obtain ⟨l, hls⟩ : ∃ l, l = s.toList := ⟨_, rfl⟩
  have hsz : s.size = l.length := by rw [hls, size_toList]
  rw [← hls]
  have hls' : s.toList = l := hls.symm
  have hm : ((l.length : Int)).tmod 2 = ((l.length % 2 : Nat) : Int) := by rw [tmodN (by omega)]; omega
  have p0 : (0 : Nat) < 1 := by decide
  refine ASpec.of_body TT_ok Try.mixed _ [.tmp 2, .tmp 3] ([], []) Try.func26 (by kernel_rfl) rfl rfl (by simp only [Try.ntmps26, List.length_cons, List.length_nil]; omega) rfl (by kernel_rfl) ?_
  simp only [argE_cons, argE_nil, ac_seq, ac_block, ac_region, ac_loop, at_normal, ao_nil, ao_cons, as_assign, as_buildSlice0, an_none, noneA, okNone, i64, fr_false, List.contains_nil, beq_self_eq_true, aopsD, constT, evT, lk, putT, constA, cellA, List.length_cons, List.length_nil, List.nil_append, Nat.reduceSub, Nat.reduceLeDiff, true_and, and_self, eq_self, Bool.false_eq_true, ↓reduceIte, Nat.zero_add, TT5, TT38]
  refine .inr ⟨RuK l, fun x => ruI s l x.j, fun x => l.length - 2 * x.j, ⟨0, by omega, by simp⟩, ⟨rfl, leB3 rfl rfl rfl trivial trivial p0⟩, ?_⟩
  rintro ⟨j, hj, hok⟩
  have w1 : IntKind.i64.wrap (((2 * j : Nat) : Int) + 1) = ((2 * j + 1 : Nat) : Int) := by rw [i64_in (by omega) (by omega)]; omega
  have w2 : IntKind.i64.wrap (((2 * j : Nat) : Int) + 2) = ((2 * (j + 1) : Nat) : Int) := by rw [i64_in (by omega) (by omega)]; omega
  by_cases hjl : 2 * j + 1 < l.length
  · have c0 : decide (((2 * j + 1 : Nat) : Int) < (l.length : Int)) = true := decide_eq_true (by omega)
    obtain ⟨x, hx⟩ : ∃ x, x = l.getD (2 * j) 0 := ⟨_, rfl⟩
    obtain ⟨y, hy⟩ : ∃ y, y = l.getD (2 * j + 1) 0 := ⟨_, rfl⟩
    have hxm : x ∈ l := by rw [hx]; simp [List.getD, show 2 * j < l.length by omega]
    have hym : y ∈ l := by rw [hy]; simp [List.getD, hjl]
    have k0 : (0 : Int) ≤ ((2 * j : Nat) : Int) := by omega
    have k1 : (0 : Int) ≤ ((2 * j + 1 : Nat) : Int) := by omega
    have k2 : ((2 * j : Nat) : Int) < (l.length : Int) := by omega
    have k3 : ((2 * j + 1 : Nat) : Int) < (l.length : Int) := by omega
    simp only [ruI, w1, hsz, c0, ac_skip, ac_seq, ac_block, ac_cond, ac_region, ac_loop, at_normal, ao_nil, ao_cons, if_t, as_move, as_assign, as_binOp, as_len, i64, fr_false, List.contains_nil, beq_self_eq_true, hk_some, hopG, hopF, rd, aopsD, constT, evT, lk, putT, lenF, binF, constA, cellA, Option.map_some, Nat.reduceSub, Nat.reduceEqDiff, Nat.reduceLeDiff, Nat.succ_ne_zero, true_and, eq_self, Bool.false_eq_true, ↓reduceIte, TT3, TT9]
    refine .inr ⟨{f : Nat // f ≤ 16}, fun z => ruJ s l j x y z.1, fun z => 16 - z.1, ⟨0, by omega⟩, ⟨rfl, leB6 rfl (congrArg (fun z => TV.v (i64 z)) (metV_0 x).symm) (congrArg (fun z => TV.v (i64 z)) (metV_0 y).symm) rfl rfl rfl trivial trivial trivial trivial trivial p0⟩, ?_⟩
    rintro ⟨f, hf⟩
    by_cases hf16 : f < 16
    · have c1 : decide ((f : Int) < 16) = true := decide_eq_true (by omega)
      have wf : IntKind.u8.wrap (f : Int) = (f : Int) := by rw [IntKind.wrap_u8]; omega
      have wf1 : IntKind.i64.wrap ((f : Int) + 1) = ((f + 1 : Nat) : Int) := by rw [i64_in (by omega) (by omega)]; omega
      have fx := fig_val x f hf16
      have fy := fig_val y f hf16
      simp only [ruJ, c1, wf, hsz, hls', Int.toNat_natCast, k0, k2, ← hx, ac_skip, ac_seq, ac_block, ac_cond, ac_region, at_normal, ao_nil, ao_cons, if_t, as_call, as_move, as_binOp, as_convert, as_index, i64, fr_false, List.contains_nil, Nat.reduceBEq, beq_self_eq_true, hk_some, hopG, rd, aopsD, frzW, tlN, constT, evT, lk, putT, binF, convF, argsF, constA, cellA, List.length_cons, List.length_nil, Option.map_some, Nat.reduceAdd, Nat.reduceSub, Nat.reduceEqDiff, Nat.reduceLeDiff, Nat.succ_ne_zero, true_and, and_self, eq_self, Bool.false_eq_true, ↓reduceIte, Nat.zero_add, TT3, TT5, TT9]
      refine ACall.intro (figure_a f hf16) ?_
      simp only [fx, ac_cond, at_normal, ao_nil, ao_cons, as_binOp, u8A, Nat.reduceBEq, hk_some, hopG, rd, evT, lk, putT, binF, Option.map_some, Nat.reduceSub, Nat.reduceEqDiff, true_and, eq_self, ↓reduceIte, TT5]
      cases c2 : decide (val x = (f : Int))
      · rw [dF] at c2
        have hx1 := metV_f x f c2
        simp only [w1, wf, hsz, hls', Int.toNat_natCast, k1, k3, ← hy, ac_skip, ac_seq, ac_region, at_normal, ao_cons, if_f, as_call, as_move, as_binOp, as_convert, as_index, fr_false, List.contains_nil, Nat.reduceBEq, hk_some, hopG, rd, aopsD, frzW, tlN, constT, evT, lk, putT, binF, convF, argsF, constA, cellA, List.length_cons, List.length_nil, Option.map_some, Nat.reduceAdd, Nat.reduceSub, Nat.reduceEqDiff, Nat.reduceLeDiff, Nat.succ_ne_zero, true_and, and_self, eq_self, ↓reduceIte, Nat.zero_add, TT3, TT5, TT9]
        refine ACall.intro (figure_a f hf16) ?_
        simp only [fy, ac_cond, at_normal, ao_nil, ao_cons, as_binOp, u8A, Nat.reduceBEq, hk_some, hopG, rd, evT, lk, putT, binF, Option.map_some, Nat.reduceSub, Nat.reduceEqDiff, true_and, eq_self, ↓reduceIte, TT5]
        cases c3 : decide (val y = (f : Int))
        · rw [dF] at c3
          have hy1 := metV_f y f c3
          simp only [wf1, ac_skip, ac_region, at_normal, ab_normal, ao_nil, ao_cons, if_f, as_move, as_assign, as_binOp, fr_false, List.contains_nil, beq_self_eq_true, hk_some, hopG, rd, aopsD, constT, evT, lk, putT, binF, constA, cellA, Option.map_some, Nat.reduceSub, Nat.reduceEqDiff, Nat.reduceLeDiff, true_and, eq_self, Bool.false_eq_true, ↓reduceIte, TT3]
          exact ⟨⟨f + 1, by omega⟩, ⟨rfl, leB6 rfl (congrArg (fun z => TV.v (i64 z)) hx1.symm) (congrArg (fun z => TV.v (i64 z)) hy1.symm) rfl rfl rfl trivial trivial trivial trivial trivial p0⟩, by show 16 - (f + 1) < 16 - f; omega⟩
        · rw [dT] at c3
          have hy1 := metV_t y f c3
          simp only [wf1, ac_region, at_normal, ab_normal, ao_nil, ao_cons, if_t, as_move, as_assign, as_binOp, fr_false, List.contains_nil, beq_self_eq_true, hk_some, hopG, rd, aopsD, constT, evT, lk, putT, binF, constA, cellA, Option.map_some, Nat.reduceSub, Nat.reduceEqDiff, Nat.reduceLeDiff, true_and, eq_self, Bool.false_eq_true, ↓reduceIte, TT3]
          exact ⟨⟨f + 1, by omega⟩, ⟨rfl, leB6 rfl (congrArg (fun z => TV.v (i64 z)) hx1.symm) (congrArg (fun z => TV.v (i64 z)) hy1.symm) rfl rfl rfl trivial trivial trivial trivial trivial p0⟩, by show 16 - (f + 1) < 16 - f; omega⟩
      · rw [dT] at c2
        have hx1 := metV_t x f c2
        simp only [w1, wf, hsz, hls', Int.toNat_natCast, k1, k3, ← hy, ac_seq, ac_region, at_normal, ao_nil, ao_cons, if_t, as_call, as_move, as_assign, as_binOp, as_convert, as_index, fr_false, List.contains_nil, Nat.reduceBEq, beq_self_eq_true, hk_some, hopG, rd, aopsD, frzW, tlN, constT, evT, lk, putT, binF, convF, argsF, constA, cellA, List.length_cons, List.length_nil, Option.map_some, Nat.reduceAdd, Nat.reduceSub, Nat.reduceEqDiff, Nat.reduceLeDiff, Nat.succ_ne_zero, true_and, and_self, eq_self, Bool.false_eq_true, ↓reduceIte, Nat.zero_add, TT3, TT5, TT9]
        refine ACall.intro (figure_a f hf16) ?_
        simp only [fy, ac_cond, at_normal, ao_nil, ao_cons, as_binOp, u8A, Nat.reduceBEq, hk_some, hopG, rd, evT, lk, putT, binF, Option.map_some, Nat.reduceSub, Nat.reduceEqDiff, true_and, eq_self, ↓reduceIte, TT5]
        cases c3 : decide (val y = (f : Int))
        · rw [dF] at c3
          have hy1 := metV_f y f c3
          simp only [wf1, ac_skip, ac_region, at_normal, ab_normal, ao_nil, ao_cons, if_f, as_move, as_assign, as_binOp, fr_false, List.contains_nil, beq_self_eq_true, hk_some, hopG, rd, aopsD, constT, evT, lk, putT, binF, constA, cellA, Option.map_some, Nat.reduceSub, Nat.reduceEqDiff, Nat.reduceLeDiff, true_and, eq_self, Bool.false_eq_true, ↓reduceIte, TT3]
          exact ⟨⟨f + 1, by omega⟩, ⟨rfl, leB6 rfl (congrArg (fun z => TV.v (i64 z)) hx1.symm) (congrArg (fun z => TV.v (i64 z)) hy1.symm) rfl rfl rfl trivial trivial trivial trivial trivial p0⟩, by show 16 - (f + 1) < 16 - f; omega⟩
        · rw [dT] at c3
          have hy1 := metV_t y f c3
          simp only [wf1, ac_region, at_normal, ab_normal, ao_nil, ao_cons, if_t, as_move, as_assign, as_binOp, fr_false, List.contains_nil, beq_self_eq_true, hk_some, hopG, rd, aopsD, constT, evT, lk, putT, binF, constA, cellA, Option.map_some, Nat.reduceSub, Nat.reduceEqDiff, Nat.reduceLeDiff, true_and, eq_self, Bool.false_eq_true, ↓reduceIte, TT3]
          exact ⟨⟨f + 1, by omega⟩, ⟨rfl, leB6 rfl (congrArg (fun z => TV.v (i64 z)) hx1.symm) (congrArg (fun z => TV.v (i64 z)) hy1.symm) rfl rfl rfl trivial trivial trivial trivial trivial p0⟩, by show 16 - (f + 1) < 16 - f; omega⟩
    · obtain rfl : f = 16 := by omega
      have c1 : decide ((16 : Int) < 16) = false := by decide
      have hI : ruJ s l j x y 16 = ⟨[(8, .v (i64 16)), (6, .v (i64 (metV x 16))), (7, .v (i64 (metV y 16))), (5, .v (i64 (2 * j : Nat))), (0, .v (.one (.string s))), (4, .r 0 5 1 (.bs (outR l j)))], [(true, [])]⟩ := rfl
      have bx := val_bd x
      have bY := val_bd y
      have hodd : ∀ z ∈ l, ¬ 0 ≤ val z → unhexP l = ([], 3) := fun z hz h => by
        unfold unhexP
        split
        · rfl
        · rw [if_neg]
          intro ha
          have := List.all_eq_true.1 ha z hz
          exact h (by simpa [okV] using this)
      by_cases hx0 : 0 ≤ val x
      · have mx : metV x 16 = val x := by rw [metV_16, if_pos hx0]
        have d1 : decide (val x = 16) = false := decide_eq_false (by omega)
        by_cases hy0 : 0 ≤ val y
        · have my : metV y 16 = val y := by rw [metV_16, if_pos hy0]
          have d2 : decide (val y = 16) = false := decide_eq_false (by omega)
          have v1 : IntKind.i64.wrap (val x * 16) = val x * 16 := i64_in (by omega) (by omega)
          have v2 : IntKind.i64.wrap (val x * 16 + val y) = val x * 16 + val y := i64_in (by omega) (by omega)
          have v3 : IntKind.u8.wrap (val x * 16 + val y) = val x * 16 + val y := by rw [IntKind.wrap_u8]; omega
          have v4 : 0 ≤ val x * 16 + val y := by omega
          have v5 : val x * 16 + val y ≤ 255 := by omega
          have hlo : (outR l j).length + 1 ≤ 1000000 := by simp [outR]; omega
          have hpair : outR l j ++ [u8 (val x * 16 + val y)] = outR l (j + 1) := by rw [outR_succ, hx, hy]; rfl
          simp only [hI, mx, my, d1, d2, v1, v2, v3, v4, v5, hlo, hpair, w2, ac_skip, ac_exit, ac_seq, ac_cond, ac_region, at_normal, at_exit, ab_normal, ab_exit, ao_nil, ao_cons, ao_guard_f, st_at, pk_at, if_f, as_pick, as_move, as_assign, as_binOp, as_convert, as_buildSlice, i64, fr_false, List.contains_nil, beq_self_eq_true, decide_false, hk_some, hopG, rd, aopsD, as_append, appF, catA, dropT, dropV, frzW, frzR, constT, evT, lk, putT, GV, gdst, binF, convF, cellsF, ovw, fillF, bytesOf, makeSF, partsF, constA, cellA, Value.oneCell', List.length_cons, List.length_nil, List.map_cons, List.map_nil, List.getElem?_cons_zero, List.set_cons_zero, List.replicate_succ, List.replicate_zero, List.flatten_cons, List.flatten_nil, List.append_nil, Option.map_some, Nat.reduceSub, Nat.reduceEqDiff, Nat.reduceLeDiff, true_and, and_self, and_false, eq_self, reduceCtorEq, Bool.false_eq_true, ↓reduceIte, Int.reduceLT, Nat.mul_one, Nat.zero_add, Nat.zero_lt_succ, Nat.le_refl, Nat.not_lt_zero, TT3, TT5, TT38]
          exact ⟨⟨j + 1, by omega, fun z hz => by
            rw [show 2 * (j + 1) = 2 * j + 1 + 1 by omega, List.take_succ_eq_append_getElem hjl, List.take_succ_eq_append_getElem (by omega)] at hz
            rcases List.mem_append.1 hz with hz | hz
            · rcases List.mem_append.1 hz with hz | hz
              · exact hok z hz
              · rw [List.mem_singleton.1 hz, show l[2 * j] = x by rw [hx]; simp [List.getD, show 2 * j < l.length by omega]]
                exact hx0
            · rw [List.mem_singleton.1 hz, show l[2 * j + 1] = y by rw [hy]; simp [List.getD, hjl]]
              exact hy0⟩, ⟨rfl, leB3 rfl rfl rfl trivial trivial p0⟩, by show l.length - 2 * (j + 1) < l.length - 2 * j; omega⟩
        · have my : metV y 16 = 16 := by rw [metV_16, if_neg hy0]
          simp only [hI, mx, my, d1, ac_exit, ac_ret, ac_seq, ac_cond, ac_region, at_normal, at_ret, at_exit, ab_ret, ab_exit, ae_ret, ao_nil, ao_cons, ao_guard_f, st_at, pk_at, if_t, if_f, as_pick, as_move, as_assign, as_binOp, i64, fr_false, List.contains_nil, beq_self_eq_true, decide_true, decide_false, hk_some, hopG, rd, aopsD, constT, evT, lk, putT, GV, gdst, binF, resF, resL, constA, cellA, Option.map_some, Option.bind_some, Nat.reduceSub, Nat.reduceEqDiff, Nat.reduceLeDiff, true_and, and_true, and_false, eq_self, Bool.false_eq_true, ↓reduceIte, Int.reduceLT, Nat.not_lt_zero, TT3]
          rw [hodd y hym hy0]
      · have mx : metV x 16 = 16 := by rw [metV_16, if_neg hx0]
        simp only [hI, mx, ac_exit, ac_ret, ac_seq, ac_cond, ac_region, at_normal, at_ret, at_exit, ab_ret, ab_exit, ae_ret, ao_nil, ao_cons, ao_guard_f, sk_at, pk_at, if_t, if_f, as_pick, as_move, as_assign, as_binOp, i64, fr_false, List.contains_nil, beq_self_eq_true, decide_true, decide_false, hk_some, hopG, rd, aopsD, constT, evT, lk, putT, GV, gdst, binF, resF, resL, constA, cellA, Option.map_some, Option.bind_some, Nat.reduceSub, Nat.reduceEqDiff, Nat.reduceLeDiff, true_and, and_true, and_false, eq_self, Bool.false_eq_true, ↓reduceIte, Int.reduceLT, Nat.not_lt_zero, TT3]
        rw [hodd x hxm hx0]
  · have c0 : decide (((2 * j + 1 : Nat) : Int) < (l.length : Int)) = false := decide_eq_false (by omega)
    cases c3 : decide (((l.length % 2 : Nat) : Int) = 1)
    · rw [dF] at c3
      have hjj : 2 * j = l.length := by omega
      have hall : l.all okV = true := by
        rw [List.all_eq_true]
        intro z hz
        have := hok z (by rw [hjj, List.take_length]; exact hz)
        simpa [okV] using this
      have P : unhexP l = (outAt l l.length, 0) := by rw [unhexP, if_neg (by omega), if_pos hall]
      have hout : outR l j = outAt l l.length := by rw [← outR_end l (by omega)]; congr 1; omega
      simp only [ruI, w1, hsz, c0, hm, decide_eq_false c3, ac_skip, ac_exit, ac_ret, ac_seq, ac_cond, ac_region, at_normal, at_exit, ab_exit, ae_ret, ao_nil, ao_cons, if_f, as_move, as_assign, as_binOp, as_len, i64, fr_false, fr_nil, fr_cons, List.contains_nil, beq_self_eq_true, Int.reduceEq, hk_some, hopG, hopF, rd, aopsD, constT, evT, lk, putT, lenF, binF, resF, resL, constA, cellA, List.getElem?_cons_zero, Option.map_some, Option.bind_some, Nat.reduceSub, Nat.reduceEqDiff, Nat.reduceLeDiff, Nat.succ_ne_zero, ne_eq, not_false_eq_true, true_and, and_true, and_self, eq_self, reduceCtorEq, Bool.false_eq_true, ↓reduceIte, TT3, TT9]
      rw [P, hout]
    · rw [dT] at c3
      have P : unhexP l = ([], 3) := if_pos (by omega)
      simp only [ruI, w1, hsz, c0, hm, decide_eq_true c3, ac_exit, ac_ret, ac_seq, ac_cond, ac_region, at_normal, at_ret, at_exit, ab_exit, ae_ret, ao_nil, ao_cons, if_t, if_f, as_move, as_assign, as_binOp, as_len, i64, fr_false, List.contains_nil, beq_self_eq_true, Int.reduceEq, hk_some, hopG, hopF, rd, aopsD, constT, evT, lk, putT, lenF, binF, resF, resL, constA, cellA, Option.map_some, Option.bind_some, Nat.reduceSub, Nat.reduceEqDiff, Nat.reduceLeDiff, Nat.succ_ne_zero, ne_eq, not_false_eq_true, true_and, and_true, and_self, eq_self, Bool.false_eq_true, ↓reduceIte, TT3, TT9]
      rw [P]
end Go.Proofs.Ythjojkkapboonaa
