/- pcap.Parse; the reference's Put and Parse. -/
import Derived.Test.YthjojkkapboonaaPC
namespace Go.Proofs.Ythjojkkapboonaa
set_option linter.unusedSimpArgs false
set_option linter.unusedVariables false
open Go.RowKit

theorem ASpec.conv {P : Program} {f : FuncId} {xs : List AV} {r r' : AV} (h : ASpec P f xs r) (hr : ∀ M w v, RepV M w r v → RepV M w r' v) : ASpec P f xs r' := by
  refine ⟨h.1, fun M w vs hM hvs => (h.2 M w vs hM hvs).mono ?_⟩
  rintro e w' ⟨v, he, h1, h2⟩
  exact ⟨v, he, hr _ _ _ h1, h2⟩
theorem RepV.bs_sl {M : Nat → Prop} {w : World} {v : Value} (k : Nat) (h : RepV M w (.bs []) v) : RepV M w (.sl k []) v := by
  rw [RepV.bs_iff] at h
  obtain ⟨p, len, cap, rfl, h1, h2, h3, h4, h5⟩ := h
  simp only [bytesV, List.map_nil, List.length_nil, Nat.mul_one] at h1
  subst h1
  simp only [RepV]
  exact ⟨[], ⟨p, 0, cap, rfl, by simp, h2, h3, h4, fun h => absurd h (by simp)⟩, RepL.nil⟩
/-- Records, as they come out of a function: none are no row at all. -/
def recsV (l : List RecN) : AV := if l.length = 0 then .bs [] else .sl 3 (recsL l)
theorem recsV_rep {M : Nat → Prop} {w : World} {v : Value} (l : List RecN) (h : RepV M w (recsV l) v) : RepV M w (.sl 3 (recsL l)) v := by
  unfold recsV at h
  split at h
  · rename_i h0
    rw [List.length_eq_zero_iff.1 h0]
    exact h.bs_sl 3
  · exact h
theorem le3 {E : AE} {L : Nat} {t0 t1 t2 : Nat} {v0 v1 v2 : TV} (h0 : lk E.t t0 = v0) (h1 : lk E.t t1 = v1) (h2 : lk E.t t2 = v2) (p0 : PtOk L v0) (p1 : PtOk L v1) (p2 : PtOk L v2) :
    ∀ p ∈ [(t0, v0), (t1, v1), (t2, v2)], lk E.t p.1 = p.2 ∧ PtOk L p.2 := by
  intro p hp
  simp only [List.mem_cons, List.not_mem_nil, or_false] at hp
  rcases hp with rfl | rfl | rfl
  · exact ⟨h0, p0⟩
  · exact ⟨h1, p1⟩
  · exact ⟨h2, p2⟩
theorem le2 {E : AE} {L : Nat} {t0 t1 : Nat} {v0 v1 : TV} (h0 : lk E.t t0 = v0) (h1 : lk E.t t1 = v1) (p0 : PtOk L v0) (p1 : PtOk L v1) :
    ∀ p ∈ [(t0, v0), (t1, v1)], lk E.t p.1 = p.2 ∧ PtOk L p.2 := by
  intro p hp
  simp only [List.mem_cons, List.not_mem_nil, or_false] at hp
  rcases hp with rfl | rfl
  · exact ⟨h0, p0⟩
  · exact ⟨h1, p1⟩
def put46I (l : List RecN) (k : Nat) : AE := ⟨[(5, .v (i64 k)), (0, .v (.sl 3 (recsL l))), (4, .v (.bs (topP ++ bodyB (l.take k))))], []⟩
set_option maxRecDepth 100000 in
set_option maxHeartbeats 2000000 in
theorem refPut46_a (l : List RecN) (hl : ∀ r ∈ l, r.ok) (hb : (bodyB l).length ≤ 900000) (hn : l.length ≤ 100000) : ASpec Try.prog 35 [.sl 3 (recsL l)] (.tup [.bs (putR l).1, i64 (putR l).2]) := by
  refine ASpec.of_body TT_ok Try.mixed _ [.tmp 2, .tmp 3] ([], []) Try.func35 (by kernel_rfl) rfl rfl (by simp only [Try.ntmps35, List.length_cons, List.length_nil]; omega) rfl (by kernel_rfl) ?_
  simp only [argE_cons, argE_nil, ac_seq, ac_region, at_normal, ao_nil, ao_cons, as_call, as_assign, i64, fr_false, List.contains_nil, beq_self_eq_true, aopsD, frzW, frzR, constT, evT, putT, argsF, constA, cellA, Nat.reduceSub, Nat.reduceLeDiff, Bool.false_eq_true, ↓reduceIte, Nat.zero_add]
  refine ACall.intro refTop46_a ?_
  simp only [ac_seq, ac_block, ac_region, ac_loop, at_normal, ao_nil, ao_cons, as_assign, fr_false, List.contains_nil, beq_self_eq_true, aopsD, constT, evT, lk, putT, constA, cellA, Nat.reduceSub, Nat.reduceLeDiff, eq_self, Bool.false_eq_true, ↓reduceIte]
  refine .inr ⟨PutK l, fun x => put46I l x.k, fun x => l.length - x.k, ⟨0, by omega, by simp⟩, ⟨rfl, le3 rfl rfl rfl trivial trivial trivial⟩, ?_⟩
  rintro ⟨k, hk, hok⟩
  by_cases hkl : k < l.length
  · obtain ⟨r, hr⟩ : ∃ r, r = l.getD k rec0 := ⟨_, rfl⟩
    have hrm : r ∈ l := by rw [hr]; simp [List.getD, hkl]
    have hro := hl r hrm
    have hat := recs_at l k hkl
    have hstep := body_take l k hkl
    have hle := body_take_le l (k + 1)
    have hle0 := body_take_le l k
    have htk : l.take (k + 1) = l.take k ++ [r] := by rw [hr, List.take_succ_eq_append_getElem hkl]; simp [List.getD, hkl]
    have h1l := oneB_len r
    rw [← hr] at hat hstep
    rw [hstep, List.length_append] at hle
    have htl : topP.length = 24 := by decide
    have c0 : decide ((k : Int) < (l.length : Int)) = true := by simpa using hkl
    have hd3 : (k + 1) * 3 ≤ (recsL l).length := by rw [recsL_len]; omega
    have w1 : IntKind.i64.wrap ((k : Int) + 1) = ((k + 1 : Nat) : Int) := by rw [i64_in (by omega) (by omega)]; omega
    have h0k : (0 : Int) ≤ (k : Int) := by omega
    simp only [put46I, recs_div, c0, Int.toNat_natCast, hat, hd3, h0k, ac_skip, ac_seq, ac_block, ac_cond, ac_region, at_normal, ao_nil, ao_cons, ao_guard_f, if_t, as_move, as_binOp, as_load, as_fieldAddr, as_indexAddr, as_len, u32A, i64, fr_false, List.contains_nil, beq_self_eq_true, hk_some, hopG, hopF, rd, aopsD, constT, evT, lk, putT, GV, gdst, lenF, binF, loadF, constA, cellA, TK.isAgg, List.length_cons, List.length_nil, List.getElem?_cons_zero, List.getElem?_cons_succ, List.drop_zero, List.drop_succ_cons, Option.map_some, Nat.reduceAdd, Nat.reduceSub, Nat.reduceEqDiff, Nat.reduceLT, Nat.reduceLeDiff, Nat.succ_ne_zero, ne_eq, not_false_eq_true, true_and, and_self, eq_self, Bool.false_eq_true, ↓reduceIte, Nat.zero_add, Nat.zero_lt_succ, TT3, TT22, TT66, TT72]
    cases c1 : decide ((999999 : Int) < r.usec)
    · rw [dF] at c1
      simp only [Int.toNat_natCast, hat, hd3, h0k, ac_cond, at_normal, ao_nil, ao_cons, ao_guard_f, st_at, pk_at, if_f, as_pick, as_move, as_binOp, as_load, as_fieldAddr, as_indexAddr, as_len, u32A, beq_self_eq_true, hk_some, hopG, hopF, rd, constT, evT, lk, putT, GV, gdst, lenF, binF, loadF, constA, cellA, TK.isAgg, List.length_cons, List.length_nil, List.getElem?_cons_zero, List.getElem?_cons_succ, List.drop_zero, List.drop_succ_cons, Option.map_some, Nat.reduceAdd, Nat.reduceSub, Nat.reduceEqDiff, Nat.reduceLT, Nat.succ_ne_zero, ne_eq, not_false_eq_true, true_and, and_self, eq_self, Bool.false_eq_true, ↓reduceIte, Nat.zero_add, Nat.zero_lt_succ, TT3, TT38, TT66, TT72]
      cases c2 : decide ((65535 : Int) < (r.data.length : Int))
      · rw [dF] at c2
        have hrok : okR r = true := by simp [okR]; omega
        simp only [Int.toNat_natCast, hat, hd3, h0k, ac_skip, ac_region, at_normal, ao_cons, if_f, as_call, as_move, as_load, as_indexAddr, u32A, fr_false, List.contains_nil, beq_self_eq_true, hk_some, hopG, rd, aopsD, frzW, frzR, evT, lk, putT, loadF, argsF, TK.isAgg, List.length_cons, List.length_nil, List.take_succ_cons, List.take_nil, Option.map_some, Nat.reduceAdd, Nat.reduceSub, Nat.reduceEqDiff, Nat.reduceLeDiff, Nat.succ_ne_zero, true_and, and_self, eq_self, reduceCtorEq, Bool.false_eq_true, ↓reduceIte, Nat.zero_add, Nat.zero_lt_succ, Nat.le_refl, TT66, TT72]
        refine ACall.intro (refOne46_a r hro (by omega)) ?_
        simp only [ao_cons, as_call, beq_self_eq_true, rd, frzW, frzR, evT, lk, putT, argsF, Option.map_some, Nat.reduceSub, Nat.reduceEqDiff, eq_self, ↓reduceIte]
        refine ACall.intro (add_a (topP ++ bodyB (l.take k)) (oneB r) (by simp only [List.length_append]; omega)) ?_
        rw [List.append_assoc, ← hstep]
        simp only [w1, ac_region, at_normal, ab_normal, ao_nil, ao_cons, as_move, as_assign, as_binOp, fr_false, List.contains_nil, beq_self_eq_true, hk_some, hopG, rd, aopsD, constT, evT, lk, putT, binF, constA, cellA, Option.map_some, Nat.reduceSub, Nat.reduceEqDiff, Nat.reduceLeDiff, true_and, eq_self, Bool.false_eq_true, ↓reduceIte, TT3]
        exact ⟨⟨k + 1, by omega, by rw [htk]; intro z hz; rcases List.mem_append.1 hz with hz | hz; exact hok z hz; rw [List.mem_singleton.1 hz]; exact hrok⟩, ⟨rfl, le3 rfl rfl rfl trivial trivial trivial⟩, by show l.length - (k + 1) < l.length - k; omega⟩
      · rw [dT] at c2
        simp only [ac_ret, ac_seq, ac_region, at_normal, at_ret, ab_ret, ae_ret, ao_nil, ao_cons, if_t, as_assign, fr_false, List.contains_nil, beq_self_eq_true, rd, aopsD, constT, evT, lk, putT, resF, resL, constA, cellA, Option.map_some, Option.bind_some, Nat.reduceSub, Nat.reduceEqDiff, Nat.reduceLeDiff, true_and, and_true, eq_self, Bool.false_eq_true, ↓reduceIte]
        have hbad : putR l = ([], 2) := by
          rw [putR, if_neg]
          intro ha
          have := List.all_eq_true.1 ha r hrm
          simp [okR] at this
          omega
        rw [hbad]
    · rw [dT] at c1
      simp only [ac_ret, ac_seq, ac_cond, ac_region, at_normal, at_ret, ab_ret, ae_ret, ao_nil, ao_cons, ao_guard_f, sk_at, pk_at, if_t, as_pick, as_assign, fr_false, List.contains_nil, beq_self_eq_true, rd, aopsD, constT, evT, lk, putT, GV, gdst, resF, resL, constA, cellA, Option.map_some, Option.bind_some, Nat.reduceSub, Nat.reduceEqDiff, Nat.reduceLeDiff, true_and, and_true, eq_self, Bool.false_eq_true, ↓reduceIte]
      have hbad : putR l = ([], 2) := by
        rw [putR, if_neg]
        intro ha
        have := List.all_eq_true.1 ha r hrm
        simp [okR] at this
        omega
      rw [hbad]
  · obtain rfl : k = l.length := by omega
    have c0 : decide ((l.length : Int) < (l.length : Int)) = false := by simp
    simp only [put46I, recs_div, c0, ac_exit, ac_ret, ac_seq, ac_cond, ac_region, at_normal, at_exit, ab_exit, ae_ret, ao_nil, ao_cons, if_f, as_move, as_assign, as_binOp, as_len, i64, fr_false, List.contains_nil, beq_self_eq_true, hk_some, hopG, hopF, rd, aopsD, constT, evT, lk, putT, lenF, binF, resF, resL, constA, cellA, Option.map_some, Option.bind_some, Nat.reduceSub, Nat.reduceEqDiff, Nat.reduceLeDiff, Nat.succ_ne_zero, true_and, and_true, eq_self, reduceCtorEq, Bool.false_eq_true, ↓reduceIte, Nat.zero_lt_succ, TT3, TT66]
    have hgood : putR l = (topP ++ bodyB l, 0) := by
      rw [putR, if_pos]
      rw [List.all_eq_true]
      intro z hz
      exact hok z (by rw [List.take_length]; exact hz)
    rw [hgood, List.take_length]

/-- The records that bytes are, one behind the other. -/
def recsP : Nat → List UInt8 → List RecN × Int
  | 0, _ => ([], 0)
  | f + 1, b => if b.length = 0 then ([], 0) else if ¬ (oneP b).2.2 = 0 then ([], (oneP b).2.2) else
      if ¬ (recsP f (oneP b).2.1).2 = 0 then ([], (recsP f (oneP b).2.1).2) else ((oneP b).1 :: (recsP f (oneP b).2.1).1, 0)
def parseP (b : List UInt8) : List RecN × Int := if b.length < 24 then ([], 4) else if ¬ b.take 24 = topP then ([], 3) else recsP b.length (b.drop 24)
def comb (acc : List RecN) (x : List RecN × Int) : List RecN × Int := if ¬ x.2 = 0 then ([], x.2) else (acc ++ x.1, 0)
theorem comb_nil (x : List RecN × Int) (h : ¬ x.2 = 0 → x.1 = []) : comb [] x = x := by
  obtain ⟨l, e⟩ := x
  unfold comb
  simp only at h ⊢
  by_cases he : e = 0
  · rw [if_neg (by simpa using he)]
    simp [he]
  · rw [if_pos he, h he]
theorem recsP_err : ∀ (f : Nat) (b : List UInt8), ¬ (recsP f b).2 = 0 → (recsP f b).1 = []
  | 0, _, h => rfl
  | f + 1, b, h => by
    simp only [recsP] at h ⊢
    split
    · rfl
    · split
      · rfl
      · split
        · rfl
        · rename_i h1 h2 h3
          rw [if_neg h1, if_neg h2, if_neg h3] at h
          exact absurd rfl h
theorem comb_done (acc : List RecN) (f : Nat) (b : List UInt8) (h : b.length = 0) : comb acc (recsP f b) = (acc, 0) := by
  cases f <;> simp [recsP, comb, h]
theorem comb_bad (acc : List RecN) (f : Nat) (b : List UInt8) (h : ¬ b.length = 0) (he : ¬ (oneP b).2.2 = 0) : comb acc (recsP (f + 1) b) = ([], (oneP b).2.2) := by
  simp only [recsP, if_neg h, if_pos he, comb]
theorem comb_step (acc : List RecN) (f : Nat) (b : List UInt8) (h : ¬ b.length = 0) (he : (oneP b).2.2 = 0) : comb acc (recsP (f + 1) b) = comb (acc ++ [(oneP b).1]) (recsP f (oneP b).2.1) := by
  simp only [recsP, if_neg h, if_neg (show ¬ ¬ (oneP b).2.2 = 0 by simpa using he), comb]
  by_cases h2 : (recsP f (oneP b).2.1).2 = 0
  · simp [h2]
  · simp [h2]
theorem low4_le4N (b : List UInt8) (k : Nat) (h : k + 4 ≤ b.length) : low4 (le4N b k) = (b.drop k).take 4 := by
  have e : b.drop k = b.getD k 0 :: b.getD (k + 1) 0 :: b.getD (k + 2) 0 :: b.getD (k + 3) 0 :: b.drop (k + 4) := by
    rw [List.drop_eq_getElem_cons (by omega), List.drop_eq_getElem_cons (by omega), List.drop_eq_getElem_cons (by omega), List.drop_eq_getElem_cons (by omega)]
    simp [List.getD, show k < b.length by omega, show k + 1 < b.length by omega, show k + 1 + 1 < b.length by omega, show k + 1 + 1 + 1 < b.length by omega]
  rw [e]
  have l0 := bN_bd b k
  have l1 := bN_bd b (k + 1)
  have l2 := bN_bd b (k + 2)
  have l3 := bN_bd b (k + 3)
  have u : ∀ (x : Int) (y : UInt8), x % 256 = (y.toNat : Int) → u8 x = y := fun x y hxy => by
    apply UInt8.toNat_inj.1
    have := u8_toNat x
    omega
  simp only [low4, List.take_succ_cons, List.take_zero]
  rw [u (le4N b k) (b.getD k 0) (by unfold le4N bN at *; omega), u (le4N b k / 256) (b.getD (k + 1) 0) (by unfold le4N bN at *; omega), u (le4N b k / 65536) (b.getD (k + 2) 0) (by unfold le4N bN at *; omega), u (le4N b k / 16777216) (b.getD (k + 3) 0) (by unfold le4N bN at *; omega)]
theorem oneP_rest (b : List UInt8) (he : (oneP b).2.2 = 0) : (oneP b).2.1.length + 16 ≤ b.length ∧ (oneP b).1.ok ∧ okR (oneP b).1 = true ∧ b = oneB (oneP b).1 ++ (oneP b).2.1 := by
  unfold oneP at he ⊢
  split at he
  · cases he
  split at he
  · cases he
  split at he
  · cases he
  rename_i h1 h2 h3
  rw [if_neg h1, if_neg h2, if_neg h3]
  have b0 := le4N_bd b 0
  have b4 := le4N_bd b 4
  have b8 := le4N_bd b 8
  obtain ⟨m, hm⟩ : ∃ m : Nat, le4N b 8 = (m : Int) := ⟨(le4N b 8).toNat, by omega⟩
  have h12 : le4N b 12 = (m : Int) := by omega
  have hdl : ((b.drop 16).take m).length = m := by simp; omega
  rw [hm, Int.toNat_natCast]
  refine ⟨by simp; omega, ⟨b0, b4⟩, by simp [okR]; omega, ?_⟩
  have f : ∀ n k, (b.drop n).take k ++ b.drop (n + k) = b.drop n := fun n k => by rw [← List.drop_drop]; exact List.take_append_drop _ _
  simp only [oneB]
  rw [hdl]
  have e8 : low4 (m : Int) = (b.drop 8).take 4 := by rw [← hm]; exact low4_le4N b 8 (by omega)
  have e12 : low4 (m : Int) = (b.drop 12).take 4 := by rw [← h12]; exact low4_le4N b 12 (by omega)
  rw [low4_le4N b 0 (by omega), low4_le4N b 4 (by omega)]
  have e : low4 (m : Int) ++ (low4 (m : Int) ++ (b.drop 16).take m) = (b.drop 8).take 4 ++ ((b.drop 12).take 4 ++ (b.drop 16).take m) := by rw [← e8, ← e12]
  rw [e]
  simp only [List.append_assoc]
  rw [f 16 m, f 12 4, f 8 4, f 4 4, f 0 4, List.drop_zero]
theorem oneP_err (b : List UInt8) : 0 ≤ (oneP b).2.2 ∧ (oneP b).2.2 ≤ 4 := by
  unfold oneP
  split
  · simp
  split
  · simp
  split
  · simp
  · simp
/-- What is known at each round of pcap.Parse. -/
structure ParK (b : List UInt8) where
  acc : List RecN
  cur : List UInt8
  f : Nat
  hf : cur.length ≤ f
  h : parseP b = comb acc (recsP f cur)
  hl : cur.length + acc.length * 16 ≤ b.length
def parI (acc : List RecN) (cur : List UInt8) : AE := match acc with
  | [] => ⟨[(0, .v (.bs cur)), (4, .z)], []⟩
  | r :: acc => ⟨[(0, .v (.bs cur)), (4, .r 1 65 3 (.sl 3 (recsL (r :: acc))))], [(true, recL r), (true, [])]⟩
set_option maxRecDepth 100000 in
set_option maxHeartbeats 2000000 in
theorem pcParse_n (b : List UInt8) (hl : b.length ≤ 100000) : ASpec Try.prog 37 [.bs b] (.tup [recsV (parseP b).1, i64 (parseP b).2]) := by
  refine ASpec.of_body TT_ok Try.mixed _ [.tmp 2, .tmp 3] ([], []) Try.func37 (by kernel_rfl) rfl rfl (by simp only [Try.ntmps37, List.length_cons, List.length_nil]; omega) rfl (by kernel_rfl) ?_
  simp only [argE_cons, argE_nil, ac_seq, ac_cond, ac_region, at_normal, ao_nil, ao_cons, as_move, as_assign, as_binOp, as_len, i64, fr_false, List.contains_nil, beq_self_eq_true, hk_some, hopG, hopF, rd, aopsD, constT, evT, lk, putT, lenF, binF, constA, cellA, Option.map_some, Nat.reduceSub, Nat.reduceLeDiff, Nat.succ_ne_zero, true_and, eq_self, Bool.false_eq_true, ↓reduceIte, Nat.zero_add, TT3, TT38]
  cases c1 : decide ((b.length : Int) < 24)
  · rw [dF] at c1
    have P : parseP b = if ¬ b.take 24 = topP then ([], 3) else recsP b.length (b.drop 24) := if_neg (by omega)
    have q1 : (24 : Int) ≤ (b.length : Int) := by omega
    simp only [q1, ac_skip, ac_seq, ac_region, at_normal, ao_cons, if_f, as_call, as_move, as_slice, fr_false, List.contains_nil, Nat.reduceBEq, hk_some, hopG, rd, aopsD, frzW, tlN, constT, evT, lk, putT, bndF, cutF, argsF, constA, cellA, List.length_cons, List.length_nil, List.getElem?_nil, List.drop_zero, Option.map_some, Option.map_none, Option.bind_some, Nat.reduceAdd, Nat.reduceSub, Nat.reduceLeDiff, Nat.succ_ne_zero, true_and, and_true, and_self, eq_self, ↓reduceIte, Int.toNat_zero, Int.reduceToNat, Int.reduceLE, Int.reduceSub, Nat.zero_add, TT38]
    refine ACall.intro pcTop_a ?_
    simp only [ao_cons, as_call, Nat.reduceBEq, rd, frzW, evT, lk, putT, argsF, Option.map_some, Nat.reduceSub, Nat.reduceEqDiff, eq_self, ↓reduceIte]
    refine ACall.intro (same_a (b.take 24) topP) ?_
    cases c2 : (b.take 24 == topP)
    · rw [if_pos (by simpa using c2)] at P
      simp only [ac_ret, ac_seq, ac_cond, ac_region, at_normal, at_ret, ae_ret, ao_nil, ao_cons, if_t, as_assign, as_unOp, boA, fr_false, List.contains_nil, Nat.reduceBEq, beq_self_eq_true, hk_some, hopG, rd, aopsD, constT, evT, lk, putT, unF, resF, resL, constA, cellA, Option.map_some, Option.bind_some, Nat.reduceSub, Nat.reduceEqDiff, Nat.reduceLeDiff, true_and, and_true, eq_self, Bool.false_eq_true, Bool.not_false, ↓reduceIte]
      rw [P]
      rfl
    · have hx : (b.drop 24).take ((b.length : Int) - 24).toNat = b.drop 24 := List.take_of_length_le (by simp; omega)
      rw [if_neg (by simpa using c2)] at P
      simp only [q1, hx, Int.le_refl, ac_skip, ac_seq, ac_block, ac_cond, ac_region, ac_loop, at_normal, ao_nil, ao_cons, if_f, as_move, as_assign, as_unOp, as_slice, boA, fr_false, List.contains_nil, Nat.reduceBEq, beq_self_eq_true, hk_some, hopG, rd, aopsD, constT, evT, lk, putT, unF, bndF, cutF, constA, cellA, List.getElem?_nil, Option.map_some, Option.map_none, Option.bind_some, Nat.reduceSub, Nat.reduceLeDiff, Nat.succ_ne_zero, true_and, and_true, and_self, eq_self, Bool.false_eq_true, Bool.not_true, ↓reduceIte, Int.reduceToNat, Int.reduceLE, TT38]
      refine .inr ⟨ParK b, fun x => parI x.acc x.cur, fun x => x.cur.length, ⟨[], b.drop 24, b.length, by simp, by rw [P, comb_nil _ (recsP_err _ _)], by simp⟩, ⟨rfl, le2 rfl rfl trivial trivial⟩, ?_⟩
      rintro ⟨acc, cur, f, hf, hp, hc⟩
      cases acc with
      | nil =>
        simp only [parI, ac_seq, ac_cond, ac_region, at_normal, ao_nil, ao_cons, as_move, as_binOp, as_len, fr_false, List.contains_nil, beq_self_eq_true, hk_some, hopG, hopF, rd, aopsD, constT, evT, lk, putT, lenF, binF, constA, cellA, Option.map_some, Nat.reduceSub, Nat.reduceLeDiff, true_and, eq_self, Bool.false_eq_true, ↓reduceIte, TT3, TT38]
        cases c3 : decide ((0 : Int) < (cur.length : Int))
        · rw [dF] at c3
          simp only [ac_exit, ac_ret, ac_seq, ac_region, at_normal, at_exit, ab_exit, ae_ret, ao_nil, ao_cons, if_f, as_move, as_assign, fr_false, List.contains_nil, beq_self_eq_true, rd, aopsD, constT, evT, lk, putT, resF, resL, constA, cellA, Option.map_some, Option.bind_some, Nat.reduceSub, Nat.reduceEqDiff, Nat.reduceLeDiff, true_and, and_true, eq_self, reduceCtorEq, Bool.false_eq_true, ↓reduceIte]
          rw [hp, comb_done _ _ _ (by omega)]
          rfl
        · rw [dT] at c3
          simp only [ac_skip, ac_seq, ac_block, ac_region, at_normal, ao_cons, if_t, as_call, as_move, fr_false, List.contains_nil, beq_self_eq_true, rd, aopsD, frzW, frzR, evT, lk, putT, argsF, Option.map_some, Nat.reduceSub, Nat.reduceLeDiff, Nat.succ_ne_zero, eq_self, Bool.false_eq_true, ↓reduceIte]
          obtain ⟨f, rfl⟩ : ∃ g, f = g + 1 := ⟨f - 1, by omega⟩
          have he4 := oneP_err cur
          refine ACall.intro (pcOne_a cur (by omega)) ?_
          simp only [ac_seq, ac_cond, ac_region, at_normal, ao_nil, ao_cons, as_alloc, as_store, as_move, as_assign, as_binOp, as_extract, u32A, i64, fr_false, List.contains_nil, beq_self_eq_true, Bool.and_self, hk_some, hopG, rd, aopsD, heapF, frzW, frzR, constT, evT, lk, putT, binF, cellsF, ovw, okCell, constA, cellA, Value.oneCell', List.length_cons, List.length_nil, List.getElem?_cons_zero, List.getElem?_cons_succ, List.set_cons_zero, List.set_cons_succ, List.nil_append, List.all_cons, List.all_nil, Option.map_some, Nat.reduceAdd, Nat.reduceSub, Nat.reduceEqDiff, Nat.reduceLeDiff, true_and, and_self, eq_self, Bool.false_eq_true, ↓reduceIte, Nat.zero_add, Nat.le_refl, TT56, TT65]
          cases c4 : decide ((oneP cur).2.2 = 0)
          · rw [dF] at c4
            simp only [ac_ret, ac_seq, ac_region, at_normal, at_ret, ab_ret, ae_ret, ao_nil, ao_cons, if_t, as_move, as_assign, fr_false, List.contains_nil, beq_self_eq_true, rd, aopsD, constT, evT, lk, putT, resF, resL, Option.map_some, Option.bind_some, Nat.reduceSub, Nat.reduceEqDiff, Nat.reduceLeDiff, true_and, and_true, eq_self, Bool.false_eq_true, Bool.not_false, ↓reduceIte]
            rw [hp, comb_bad _ _ _ (by omega) c4]
            rfl
          · rw [dT] at c4
            obtain ⟨g1, g2, g3, g4⟩ := oneP_rest cur c4
            have hs := comb_step [] f cur (by omega) c4
            simp only [ac_skip, ac_region, at_normal, ab_normal, ao_nil, ao_cons, if_f, as_move, as_assign, as_load, as_buildSlice, fr_false, List.contains_nil, beq_self_eq_true, Bool.and_self, hk_some, hopG, rd, aopsD, as_append, appF, frzW, frzR, evT, lk, putT, loadF, cellsF, ovw, fillF, makeSF, partsF, okCell, TK.isAgg, Value.oneCell', List.length_cons, List.length_nil, List.map_cons, List.map_nil, List.getElem?_cons_zero, List.drop_zero, List.take_succ_cons, List.take_nil, List.set_cons_zero, List.set_cons_succ, List.nil_append, List.cons_append, List.replicate_succ, List.replicate_zero, List.flatten_cons, List.flatten_nil, List.append_nil, List.all_cons, List.all_nil, Option.map_some, Nat.reduceAdd, Nat.reduceMul, Nat.reduceSub, Nat.reduceEqDiff, Nat.reduceLeDiff, true_and, and_self, eq_self, reduceCtorEq, Bool.false_eq_true, Bool.not_true, ↓reduceIte, Nat.zero_mul, Nat.zero_add, Nat.zero_lt_succ, Nat.le_refl, TT63, TT65]
            exact ⟨⟨[(oneP cur).1], (oneP cur).2.1, f, by omega, by rw [hp, hs]; rfl, by simp at hc ⊢; omega⟩, ⟨rfl, le2 rfl rfl trivial (by show (1 : Nat) < 2; decide)⟩, by show (oneP cur).2.1.length < cur.length; omega⟩
      | cons a acc =>
        simp only [parI, ac_seq, ac_cond, ac_region, at_normal, ao_nil, ao_cons, as_move, as_binOp, as_len, fr_false, List.contains_nil, beq_self_eq_true, hk_some, hopG, hopF, rd, aopsD, constT, evT, lk, putT, lenF, binF, constA, cellA, Option.map_some, Nat.reduceSub, Nat.reduceLeDiff, true_and, eq_self, Bool.false_eq_true, ↓reduceIte, TT3, TT38]
        cases c3 : decide ((0 : Int) < (cur.length : Int))
        · rw [dF] at c3
          simp only [ac_exit, ac_ret, ac_seq, ac_region, at_normal, at_exit, ab_exit, ae_ret, ao_nil, ao_cons, if_f, as_move, as_assign, fr_false, fr_nil, fr_cons, List.contains_nil, beq_self_eq_true, rd, aopsD, constT, evT, lk, putT, resF, resL, constA, cellA, List.getElem?_cons_zero, List.getElem?_cons_succ, Option.map_some, Option.bind_some, Nat.reduceSub, Nat.reduceEqDiff, Nat.reduceLeDiff, true_and, and_true, eq_self, reduceCtorEq, Bool.false_eq_true, ↓reduceIte]
          rw [hp, comb_done _ _ _ (by omega)]
          rfl
        · rw [dT] at c3
          simp only [ac_skip, ac_seq, ac_block, ac_region, at_normal, ao_cons, if_t, as_call, as_move, fr_false, List.contains_nil, beq_self_eq_true, rd, aopsD, frzW, frzR, evT, lk, putT, argsF, Option.map_some, Nat.reduceSub, Nat.reduceLeDiff, Nat.succ_ne_zero, eq_self, Bool.false_eq_true, ↓reduceIte]
          obtain ⟨f, rfl⟩ : ∃ g, f = g + 1 := ⟨f - 1, by omega⟩
          have he4 := oneP_err cur
          refine ACall.intro (pcOne_a cur (by omega)) ?_
          simp only [ac_seq, ac_cond, ac_region, at_normal, ao_nil, ao_cons, as_alloc, as_store, as_move, as_assign, as_binOp, as_extract, u32A, i64, fr_false, List.contains_nil, beq_self_eq_true, Bool.and_self, hk_some, hopG, rd, aopsD, heapF, frzW, frzR, constT, evT, lk, putT, binF, cellsF, ovw, okCell, constA, cellA, Value.oneCell', List.length_cons, List.length_nil, List.getElem?_cons_zero, List.getElem?_cons_succ, List.set_cons_zero, List.set_cons_succ, List.nil_append, List.cons_append, List.all_cons, List.all_nil, Option.map_some, Nat.reduceAdd, Nat.reduceSub, Nat.reduceEqDiff, Nat.reduceLeDiff, true_and, and_self, eq_self, Bool.false_eq_true, ↓reduceIte, Nat.zero_add, Nat.le_refl, TT56, TT65]
          cases c4 : decide ((oneP cur).2.2 = 0)
          · rw [dF] at c4
            simp only [ac_ret, ac_seq, ac_region, at_normal, at_ret, ab_ret, ae_ret, ao_nil, ao_cons, if_t, as_move, as_assign, fr_false, List.contains_nil, beq_self_eq_true, rd, aopsD, constT, evT, lk, putT, resF, resL, Option.map_some, Option.bind_some, Nat.reduceSub, Nat.reduceEqDiff, Nat.reduceLeDiff, true_and, and_true, eq_self, Bool.false_eq_true, Bool.not_false, ↓reduceIte]
            rw [hp, comb_bad _ _ _ (by omega) c4]
            rfl
          · rw [dT] at c4
            obtain ⟨g1, g2, g3, g4⟩ := oneP_rest cur c4
            have hs := comb_step (a :: acc) f cur (by omega) c4
            simp only [ac_skip, ac_region, at_normal, ab_normal, ao_nil, ao_cons, if_f, as_move, as_assign, as_load, as_buildSlice, fr_false, List.contains_nil, beq_self_eq_true, Bool.and_self, hk_some, hopG, rd, aopsD, as_append, appF, catA, dropT, dropV, frzW, frzR, evT, lk, putT, loadF, cellsF, ovw, fillF, makeSF, partsF, okCell, TK.isAgg, Value.oneCell', List.length_cons, List.length_nil, List.map_cons, List.map_nil, List.getElem?_cons_zero, List.getElem?_cons_succ, List.drop_zero, List.take_succ_cons, List.take_nil, List.set_cons_zero, List.set_cons_succ, List.replicate_succ, List.replicate_zero, List.flatten_cons, List.flatten_nil, List.append_nil, List.all_cons, List.all_nil, Option.map_some, Nat.reduceAdd, Nat.reduceMul, Nat.reduceSub, Nat.reduceEqDiff, Nat.reduceLeDiff, true_and, and_self, eq_self, reduceCtorEq, Bool.false_eq_true, Bool.not_true, ↓reduceIte, Nat.zero_mul, Nat.zero_add, Nat.zero_lt_succ, Nat.le_refl, TT63, TT65]
            refine ⟨by rw [recsL_len]; simp at hc ⊢; omega, ?_⟩
            exact ⟨⟨a :: (acc ++ [(oneP cur).1]), (oneP cur).2.1, f, by omega, by rw [hp, hs]; rfl, by simp at hc ⊢; omega⟩, ⟨rfl, le2 rfl (congrArg (fun z => TV.r 1 65 3 (.sl 3 z)) (recs_snoc (a :: acc) (oneP cur).1).symm) trivial (by show (1 : Nat) < 2; decide)⟩, by show (oneP cur).2.1.length < cur.length; omega⟩
  · rw [dT] at c1
    have P : parseP b = ([], 4) := if_pos (by omega)
    simp only [ac_ret, ac_seq, ac_region, at_normal, at_ret, ae_ret, ao_nil, ao_cons, if_t, as_assign, fr_false, List.contains_nil, beq_self_eq_true, rd, aopsD, constT, evT, lk, putT, resF, resL, constA, cellA, Option.map_some, Option.bind_some, Nat.reduceSub, Nat.reduceEqDiff, Nat.reduceLeDiff, true_and, and_true, eq_self, Bool.false_eq_true, ↓reduceIte]
    rw [P]
    rfl
theorem pcParse_a (b : List UInt8) (hl : b.length ≤ 100000) : ASpec Try.prog 37 [.bs b] (.tup [.sl 3 (recsL (parseP b).1), i64 (parseP b).2]) :=
  (pcParse_n b hl).conv fun M w v h => by
    simp only [RepV] at h ⊢
    obtain ⟨us, rfl, h⟩ := h
    refine ⟨us, rfl, ?_⟩
    simp only [RepL] at h ⊢
    obtain ⟨v, vs, rfl, h1, h2⟩ := h
    exact ⟨v, vs, rfl, recsV_rep _ h1, h2⟩
end Go.Proofs.Ythjojkkapboonaa
