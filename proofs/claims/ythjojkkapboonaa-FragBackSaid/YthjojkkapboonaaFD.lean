/- frag.end. -/
import Derived.Test.YthjojkkapboonaaFB
namespace Go.Proofs.Ythjojkkapboonaa
set_option linter.unusedSimpArgs false
set_option linter.unusedVariables false
open Go.RowKit

def toP (p : PktN) : Int := p.off * 8 + p.data.length
def badM (p : PktN) : Bool := p.mf && (decide (p.data.length = 0) || decide (¬ p.data.length % 8 = 0))
def lastF : List PktN → Int → Option Int
  | [], out => some out
  | p :: l, out => if p.mf = true then lastF l out else if 0 ≤ out ∧ ¬ toP p = out then none else lastF l (toP p)
def endP (l : List PktN) : Int × Int := if l.any badM = true then (0, 3) else match lastF l (-1) with
  | none => (0, 3)
  | some out => if l.any (fun p => decide (0 ≤ out ∧ out < toP p)) = true then (0, 3) else if out < 0 then (0, 8) else (out, 0)
def pksOk (l : List PktN) : Prop := l.length ≤ 2000 ∧ ∀ p ∈ l, p.ok ∧ p.opts.length ≤ 100000 ∧ p.data.length ≤ 100000
structure En1 (l : List PktN) where
  k : Nat
  hk : k ≤ l.length
  ok : (l.take k).any badM = false
structure En2 (l : List PktN) where
  k : Nat
  out : Int
  hk : k ≤ l.length
  ho : -1 ≤ out ∧ out ≤ 1000000
  h : lastF l (-1) = lastF (l.drop k) out
structure En3 (l : List PktN) (out : Int) where
  k : Nat
  hk : k ≤ l.length
  ok : (l.take k).any (fun p => decide (0 ≤ out ∧ out < toP p)) = false
def en1I (l : List PktN) (k : Nat) : AE := ⟨[(13, .v (i64 k)), (12, .v (i64 l.length)), (11, .v (.sl 11 (pktsL l))), (0, .v (.sl 11 (pktsL l))), (4, .v (i64 (-1)))], []⟩
def en2I (l : List PktN) (k : Nat) (out : Int) : AE := ⟨[(35, .v (i64 k)), (34, .v (i64 l.length)), (33, .v (.sl 11 (pktsL l))), (0, .v (.sl 11 (pktsL l))), (4, .v (i64 out))], []⟩
def en3I (l : List PktN) (k : Nat) (out : Int) : AE := ⟨[(60, .v (i64 k)), (59, .v (i64 l.length)), (58, .v (.sl 11 (pktsL l))), (4, .v (i64 out))], []⟩
theorem any_snoc {α : Type} (f : α → Bool) (l : List α) (k : Nat) (d : α) (h : k < l.length) : (l.take (k + 1)).any f = ((l.take k).any f || f (l.getD k d)) := by
  rw [List.take_succ_eq_append_getElem h, List.any_append]
  simp [List.getD, h]
theorem any_at {α : Type} {f : α → Bool} {l : List α} {k : Nat} {d : α} (h : k < l.length) (hf : f (l.getD k d) = true) : l.any f = true := by
  refine List.any_eq_true.2 ⟨l.getD k d, ?_, hf⟩
  simp [List.getD, h]
set_option maxRecDepth 100000 in
set_option maxHeartbeats 2000000 in
theorem fgEnd_a (l : List PktN) (hl : pksOk l) : ASpec Try.prog 68 [.sl 11 (pktsL l)] (.tup [i64 (endP l).1, i64 (endP l).2]) := by
  have hpd := pkts_div l
  have hpl := pktsL_len l
  have hl1 := hl.1
  refine ASpec.of_body TT_ok Try.mixed _ [.tmp 2, .tmp 3] ([], []) Try.func68 (by kernel_rfl) rfl rfl (by simp only [Try.ntmps68, List.length_cons, List.length_nil]; omega) rfl (by kernel_rfl) ?_
  simp only [hpd, argE_cons, argE_nil, ac_seq, ac_block, ac_region, ac_loop, at_normal, ao_nil, ao_cons, as_move, as_assign, as_len, i64, fr_false, List.contains_nil, beq_self_eq_true, hk_some, hopG, hopF, rd, aopsD, constT, evT, lk, putT, lenF, constA, cellA, Nat.reduceSub, Nat.reduceLeDiff, Nat.succ_ne_zero, true_and, eq_self, Bool.false_eq_true, ↓reduceIte, Int.reduceNeg, Nat.zero_add, Nat.zero_lt_succ, TT84]
  refine .inr ⟨En1 l, fun x => en1I l x.k, fun x => l.length - x.k, ⟨0, by omega, by simp⟩, ⟨rfl, le5 rfl rfl rfl rfl rfl trivial trivial trivial trivial trivial⟩, ?_⟩
  rintro ⟨k, hk, hok⟩
  by_cases hkl : k < l.length
  · obtain ⟨r, hr⟩ : ∃ r, r = l.getD k pktZ := ⟨_, rfl⟩
    have hrm : r ∈ l := by rw [hr]; simp [List.getD, hkl]
    obtain ⟨hro, hrp, hrd⟩ := hl.2 r hrm
    have hat := pkts_at l k hkl
    rw [← hr] at hat
    have hsn := any_snoc badM l k pktZ hkl
    rw [← hr, hok, Bool.false_or] at hsn
    have c0 : decide ((k : Int) < (l.length : Int)) = true := by simpa using hkl
    have hd3 : (k + 1) * 11 ≤ (pktsL l).length := by omega
    have w1 : IntKind.i64.wrap ((k : Int) + 1) = ((k + 1 : Nat) : Int) := by rw [i64_in (by omega) (by omega)]; omega
    have w2 : ((r.data.length : Int)).tmod 8 = ((r.data.length % 8 : Nat) : Int) := by rw [tmodN (by omega)]; omega
    have h0k : (0 : Int) ≤ (k : Int) := by omega
    simp only [en1I, c0, Int.toNat_natCast, hat, hd3, h0k, ac_skip, ac_seq, ac_block, ac_cond, ac_region, at_normal, ao_nil, ao_cons, ao_guard_t, if_t, as_alloc, as_store, as_move, as_binOp, as_load, as_fieldAddr, as_indexAddr, pktL, u8A, u16A, u32A, i64, boA, fr_false, List.contains_nil, beq_self_eq_true, Bool.and_self, hk_some, hopG, rd, aopsD, heapF, frzW, frzR, evT, lk, putT, GV, gdst, binF, loadF, cellsF, ovw, okCell, TK.isAgg, Value.oneCell', List.length_cons, List.length_nil, List.getElem?_cons_zero, List.getElem?_cons_succ, List.drop_zero, List.drop_succ_cons, List.take_succ_cons, List.take_nil, List.set_cons_zero, List.set_cons_succ, List.nil_append, List.all_cons, List.all_nil, Option.map_some, Nat.reduceAdd, Nat.reduceSub, Nat.reduceEqDiff, Nat.reduceLeDiff, Nat.succ_ne_zero, ne_eq, not_false_eq_true, true_and, and_self, eq_self, Bool.false_eq_true, ↓reduceIte, Int.reduceNeg, Nat.zero_add, Nat.zero_lt_succ, Nat.le_refl, TT3, TT4, TT84, TT87]
    cases hmf : r.mf
    · have hb : badM r = false := by rw [badM, hmf, Bool.false_and]
      simp only [w1, ac_skip, ac_cond, ac_region, at_normal, ab_normal, ao_nil, ao_cons, ao_guard_t, ao_guard_f, sk_at, pk_at, if_f, as_pick, as_move, as_binOp, fr_false, List.contains_nil, beq_self_eq_true, hk_some, hopG, rd, aopsD, constT, evT, lk, putT, GV, gdst, binF, constA, cellA, Option.map_some, Nat.reduceSub, Nat.reduceEqDiff, Nat.reduceLeDiff, true_and, eq_self, Bool.false_eq_true, ↓reduceIte, Int.reduceNeg, TT3]
      exact ⟨⟨k + 1, by omega, by rw [hsn, hb]⟩, ⟨rfl, le5 rfl rfl rfl rfl rfl trivial trivial trivial trivial trivial⟩, by show l.length - (k + 1) < l.length - k; omega⟩
    · simp only [ao_guard_t, ao_guard_f, st_at, if_t, as_move, as_binOp, as_load, as_fieldAddr, as_len, beq_self_eq_true, hk_some, hopG, hopF, rd, constT, evT, lk, putT, GV, gdst, lenF, binF, loadF, constA, cellA, TK.isAgg, List.getElem?_cons_zero, List.getElem?_cons_succ, List.drop_zero, List.drop_succ_cons, Option.map_some, Nat.reduceSub, Nat.reduceEqDiff, Nat.succ_ne_zero, ne_eq, not_false_eq_true, true_and, eq_self, Bool.false_eq_true, ↓reduceIte, Int.reduceNeg, Nat.zero_add, TT3, TT38, TT87]
      cases c1 : decide ((r.data.length : Int) = 0)
      · rw [dF] at c1
        simp only [w2, ac_cond, at_normal, ao_nil, ao_cons, ao_guard_t, ao_guard_f, st_at, pk_at, if_t, if_f, as_pick, as_binOp, as_load, as_fieldAddr, as_len, beq_self_eq_true, Int.reduceEq, hk_some, hopG, hopF, rd, constT, evT, lk, putT, GV, gdst, lenF, binF, loadF, constA, cellA, TK.isAgg, List.getElem?_cons_zero, List.getElem?_cons_succ, List.drop_zero, List.drop_succ_cons, Option.map_some, Nat.reduceSub, Nat.reduceEqDiff, Nat.succ_ne_zero, ne_eq, not_false_eq_true, true_and, and_self, eq_self, Bool.false_eq_true, ↓reduceIte, Int.reduceNeg, Nat.zero_add, TT3, TT38, TT87]
        cases c2 : decide (((r.data.length % 8 : Nat) : Int) = 0)
        · rw [dF] at c2
          have hb : badM r = true := by rw [badM, hmf, Bool.true_and]; simp only [Bool.or_eq_true, decide_eq_true_eq]; omega
          have he : endP l = (0, 3) := by rw [endP, if_pos (any_at hkl (by rw [← hr]; exact hb))]
          simp only [ac_ret, ac_seq, ac_region, at_normal, at_ret, ab_ret, ae_ret, ao_nil, ao_cons, if_t, as_assign, fr_false, List.contains_nil, beq_self_eq_true, rd, aopsD, constT, evT, lk, putT, resF, resL, constA, cellA, Option.map_some, Option.bind_some, Nat.reduceSub, Nat.reduceEqDiff, Nat.reduceLeDiff, true_and, and_true, eq_self, Bool.false_eq_true, Bool.not_false, ↓reduceIte, Int.reduceNeg]
          rw [he]
        · rw [dT] at c2
          have hb : badM r = false := by rw [badM, hmf, Bool.true_and]; simp only [Bool.or_eq_false_iff, decide_eq_false_iff_not]; omega
          simp only [w1, ac_skip, ac_region, at_normal, ab_normal, ao_nil, ao_cons, if_f, as_move, as_binOp, fr_false, List.contains_nil, beq_self_eq_true, hk_some, hopG, rd, aopsD, constT, evT, lk, putT, binF, constA, cellA, Option.map_some, Nat.reduceSub, Nat.reduceEqDiff, Nat.reduceLeDiff, true_and, eq_self, Bool.false_eq_true, Bool.not_true, ↓reduceIte, Int.reduceNeg, TT3]
          exact ⟨⟨k + 1, by omega, by rw [hsn, hb]⟩, ⟨rfl, le5 rfl rfl rfl rfl rfl trivial trivial trivial trivial trivial⟩, by show l.length - (k + 1) < l.length - k; omega⟩
      · rw [dT] at c1
        have hb : badM r = true := by rw [badM, hmf, Bool.true_and]; simp only [Bool.or_eq_true, decide_eq_true_eq]; omega
        have he : endP l = (0, 3) := by rw [endP, if_pos (any_at hkl (by rw [← hr]; exact hb))]
        simp only [ac_ret, ac_seq, ac_cond, ac_region, at_normal, at_ret, ab_ret, ae_ret, ao_nil, ao_cons, ao_guard_t, ao_guard_f, st_at, sk_at, pk_at, if_t, as_pick, as_assign, fr_false, List.contains_nil, beq_self_eq_true, rd, aopsD, constT, evT, lk, putT, GV, gdst, resF, resL, constA, cellA, Option.map_some, Option.bind_some, Nat.reduceSub, Nat.reduceEqDiff, Nat.reduceLeDiff, true_and, and_true, eq_self, Bool.false_eq_true, ↓reduceIte, Int.reduceNeg]
        rw [he]
  · obtain rfl : k = l.length := by omega
    rw [List.take_length] at hok
    have c0 : decide ((l.length : Int) < (l.length : Int)) = false := by simp
    simp only [en1I, c0, hpd, ac_exit, ac_seq, ac_block, ac_cond, ac_region, ac_loop, at_normal, at_exit, ab_exit, ao_nil, ao_cons, if_f, as_move, as_binOp, as_len, i64, fr_false, List.contains_nil, beq_self_eq_true, hk_some, hopG, hopF, rd, aopsD, constT, evT, lk, putT, lenF, binF, constA, cellA, Option.map_some, Nat.reduceSub, Nat.reduceEqDiff, Nat.reduceLeDiff, Nat.succ_ne_zero, true_and, eq_self, Bool.false_eq_true, ↓reduceIte, Int.reduceNeg, Nat.zero_lt_succ, TT3, TT84]
    refine .inr ⟨En2 l, fun x => en2I l x.k x.out, fun x => l.length - x.k, ⟨0, -1, by omega, by omega, rfl⟩, ⟨rfl, le5 rfl rfl rfl rfl rfl trivial trivial trivial trivial trivial⟩, ?_⟩
    rintro ⟨k, out, hk, ho, hs⟩
    by_cases hkl : k < l.length
    · obtain ⟨r, hr⟩ : ∃ r, r = l.getD k pktZ := ⟨_, rfl⟩
      have hrm : r ∈ l := by rw [hr]; simp [List.getD, hkl]
      obtain ⟨hro, hrp, hrd⟩ := hl.2 r hrm
      have hat := pkts_at l k hkl
      rw [← hr] at hat
      have hdr : l.drop k = r :: l.drop (k + 1) := by rw [List.drop_eq_getElem_cons hkl, hr]; simp [List.getD, hkl]
      have c0 : decide ((k : Int) < (l.length : Int)) = true := by simpa using hkl
      have hd3 : (k + 1) * 11 ≤ (pktsL l).length := by omega
      have w1 : IntKind.i64.wrap ((k : Int) + 1) = ((k + 1 : Nat) : Int) := by rw [i64_in (by omega) (by omega)]; omega
      have h0k : (0 : Int) ≤ (k : Int) := by omega
      have hoff := hro.off
      have hto : toP r = r.off * 8 + r.data.length := rfl
      simp only [en2I, c0, Int.toNat_natCast, hat, hd3, h0k, ac_skip, ac_seq, ac_block, ac_cond, ac_region, at_normal, ao_nil, ao_cons, ao_guard_t, if_t, as_alloc, as_store, as_move, as_binOp, as_unOp, as_load, as_fieldAddr, as_indexAddr, pktL, u8A, u16A, u32A, i64, boA, fr_false, List.contains_nil, beq_self_eq_true, Bool.and_self, hk_some, hopG, rd, aopsD, heapF, frzW, frzR, evT, lk, putT, GV, gdst, binF, unF, loadF, cellsF, ovw, okCell, TK.isAgg, Value.oneCell', List.length_cons, List.length_nil, List.getElem?_cons_zero, List.getElem?_cons_succ, List.drop_zero, List.drop_succ_cons, List.take_succ_cons, List.take_nil, List.set_cons_zero, List.set_cons_succ, List.nil_append, List.all_cons, List.all_nil, Option.map_some, Nat.reduceAdd, Nat.reduceSub, Nat.reduceEqDiff, Nat.reduceLeDiff, Nat.succ_ne_zero, ne_eq, not_false_eq_true, true_and, and_self, eq_self, Bool.false_eq_true, ↓reduceIte, Nat.zero_add, Nat.zero_lt_succ, Nat.le_refl, TT3, TT4, TT84, TT87]
      cases hmf : r.mf
      · simp only [ao_cons, ao_guard_t, st_at, pk_at, if_t, as_pick, as_move, as_binOp, beq_self_eq_true, hk_some, hopG, rd, constT, evT, lk, putT, GV, gdst, binF, constA, cellA, Option.map_some, Nat.reduceSub, Nat.reduceEqDiff, true_and, eq_self, reduceCtorEq, Bool.not_false, ↓reduceIte, TT3]
        cases c1 : decide ((0 : Int) ≤ out)
        · rw [dF] at c1
          have hst : lastF (l.drop k) out = lastF (l.drop (k + 1)) (toP r) := by rw [hdr, lastF, hmf, if_neg (by simp), if_neg (by omega)]
          simp only [ac_skip, ac_seq, ac_cond, ac_region, at_normal, ao_nil, ao_cons, ao_guard_t, sk_at, pk_at, if_t, if_f, as_pick, as_call, as_unOp, as_load, as_fieldAddr, fr_false, List.contains_nil, beq_self_eq_true, hk_some, hopG, rd, aopsD, frzW, frzR, constT, evT, lk, putT, GV, gdst, unF, loadF, argsF, constA, cellA, TK.isAgg, List.length_cons, List.length_nil, List.getElem?_cons_zero, List.getElem?_cons_succ, List.drop_zero, List.drop_succ_cons, List.take_succ_cons, List.take_nil, Option.map_some, Nat.reduceAdd, Nat.reduceSub, Nat.reduceEqDiff, Nat.reduceLeDiff, Nat.succ_ne_zero, ne_eq, not_false_eq_true, true_and, eq_self, Bool.false_eq_true, Bool.not_false, ↓reduceIte, Nat.zero_add, Nat.le_refl, TT4, TT87]
          refine ACall.intro (fgTo_a { r with mf := false } hoff (by show r.data.length ≤ 1000000; omega)) ?_
          simp only [w1, ac_region, at_normal, ab_normal, ao_nil, ao_cons, as_move, as_assign, as_binOp, i64, fr_false, List.contains_nil, beq_self_eq_true, hk_some, hopG, rd, aopsD, constT, evT, lk, putT, binF, constA, cellA, Option.map_some, Nat.reduceSub, Nat.reduceEqDiff, Nat.reduceLeDiff, true_and, eq_self, Bool.false_eq_true, ↓reduceIte, TT3]
          exact ⟨⟨k + 1, toP r, by omega, by omega, by rw [hs, hst]⟩, ⟨rfl, le5 rfl rfl rfl rfl rfl trivial trivial trivial trivial trivial⟩, by show l.length - (k + 1) < l.length - k; omega⟩
        · rw [dT] at c1
          simp only [ao_guard_t, st_at, if_t, as_call, as_load, beq_self_eq_true, hk_some, hopG, rd, frzW, frzR, evT, lk, putT, GV, gdst, loadF, argsF, TK.isAgg, List.length_cons, List.length_nil, List.getElem?_cons_zero, List.drop_zero, List.take_succ_cons, List.take_nil, Option.map_some, Nat.reduceAdd, Nat.reduceSub, Nat.reduceEqDiff, true_and, eq_self, ↓reduceIte, Nat.zero_add, Nat.le_refl, TT87]
          refine ACall.intro (fgTo_a { r with mf := false } hoff (by show r.data.length ≤ 1000000; omega)) ?_
          simp only [ac_cond, at_normal, ao_nil, ao_cons, ao_guard_t, st_at, pk_at, if_t, as_pick, as_move, as_binOp, i64, beq_self_eq_true, hk_some, hopG, rd, evT, lk, putT, GV, gdst, binF, Option.map_some, Nat.reduceSub, Nat.reduceEqDiff, true_and, eq_self, reduceCtorEq, ↓reduceIte, TT3]
          cases c2 : decide (r.off * 8 + (r.data.length : Int) = out)
          · rw [dF] at c2
            have hst : lastF (l.drop k) out = none := by rw [hdr, lastF, hmf, if_neg (by simp), if_pos (by omega)]
            have he : endP l = (0, 3) := by rw [endP, hok, if_neg (by simp), hs, hst]
            simp only [ac_ret, ac_seq, ac_region, at_normal, at_ret, ab_ret, ae_ret, ao_nil, ao_cons, if_t, as_assign, fr_false, List.contains_nil, beq_self_eq_true, rd, aopsD, constT, evT, lk, putT, resF, resL, constA, cellA, Option.map_some, Option.bind_some, Nat.reduceSub, Nat.reduceEqDiff, Nat.reduceLeDiff, true_and, and_true, eq_self, Bool.false_eq_true, Bool.not_false, ↓reduceIte]
            rw [he]
          · rw [dT] at c2
            have hst : lastF (l.drop k) out = lastF (l.drop (k + 1)) (toP r) := by rw [hdr, lastF, hmf, if_neg (by simp), if_neg (by omega)]
            simp only [ac_skip, ac_seq, ac_cond, ac_region, at_normal, ao_nil, ao_cons, if_t, if_f, as_call, as_unOp, as_load, as_fieldAddr, fr_false, List.contains_nil, beq_self_eq_true, hk_some, hopG, rd, aopsD, frzW, frzR, evT, lk, putT, unF, loadF, argsF, TK.isAgg, List.length_cons, List.length_nil, List.getElem?_cons_zero, List.getElem?_cons_succ, List.drop_zero, List.drop_succ_cons, List.take_succ_cons, List.take_nil, Option.map_some, Nat.reduceAdd, Nat.reduceSub, Nat.reduceEqDiff, Nat.reduceLeDiff, Nat.succ_ne_zero, ne_eq, not_false_eq_true, true_and, eq_self, Bool.false_eq_true, Bool.not_true, Bool.not_false, ↓reduceIte, Nat.zero_add, Nat.le_refl, TT4, TT87]
            refine ACall.intro (fgTo_a { r with mf := false } hoff (by show r.data.length ≤ 1000000; omega)) ?_
            simp only [w1, ac_region, at_normal, ab_normal, ao_nil, ao_cons, as_move, as_assign, as_binOp, i64, fr_false, List.contains_nil, beq_self_eq_true, hk_some, hopG, rd, aopsD, constT, evT, lk, putT, binF, constA, cellA, Option.map_some, Nat.reduceSub, Nat.reduceEqDiff, Nat.reduceLeDiff, true_and, eq_self, Bool.false_eq_true, ↓reduceIte, TT3]
            exact ⟨⟨k + 1, toP r, by omega, by omega, by rw [hs, hst]⟩, ⟨rfl, le5 rfl rfl rfl rfl rfl trivial trivial trivial trivial trivial⟩, by show l.length - (k + 1) < l.length - k; omega⟩
      · have hst : lastF (l.drop k) out = lastF (l.drop (k + 1)) out := by rw [hdr, lastF, hmf, if_pos rfl]
        simp only [w1, ac_skip, ac_seq, ac_cond, ac_region, at_normal, ab_normal, ao_nil, ao_cons, ao_guard_t, sk_at, pk_at, if_f, as_pick, as_move, as_binOp, as_unOp, as_load, as_fieldAddr, fr_false, List.contains_nil, beq_self_eq_true, hk_some, hopG, rd, aopsD, constT, evT, lk, putT, GV, gdst, binF, unF, loadF, constA, cellA, TK.isAgg, List.getElem?_cons_zero, List.getElem?_cons_succ, List.drop_zero, List.drop_succ_cons, Option.map_some, Nat.reduceSub, Nat.reduceEqDiff, Nat.reduceLeDiff, Nat.succ_ne_zero, ne_eq, not_false_eq_true, true_and, eq_self, Bool.false_eq_true, Bool.not_true, ↓reduceIte, Nat.zero_add, TT3, TT4, TT87]
        exact ⟨⟨k + 1, out, by omega, by omega, by rw [hs, hst]⟩, ⟨rfl, le5 rfl rfl rfl rfl rfl trivial trivial trivial trivial trivial⟩, by show l.length - (k + 1) < l.length - k; omega⟩
    · obtain rfl : k = l.length := by omega
      rw [List.drop_length, lastF] at hs
      simp only [en2I, c0, hpd, ac_exit, ac_seq, ac_block, ac_cond, ac_region, ac_loop, at_normal, at_exit, ab_exit, ao_nil, ao_cons, if_f, as_move, as_binOp, as_len, i64, fr_false, List.contains_nil, beq_self_eq_true, hk_some, hopG, hopF, rd, aopsD, constT, evT, lk, putT, lenF, binF, constA, cellA, Option.map_some, Nat.reduceSub, Nat.reduceEqDiff, Nat.reduceLeDiff, Nat.succ_ne_zero, true_and, eq_self, Bool.false_eq_true, ↓reduceIte, Nat.zero_lt_succ, TT3, TT84]
      have hE : endP l = if l.any (fun p => decide (0 ≤ out ∧ out < toP p)) = true then (0, 3) else if out < 0 then (0, 8) else (out, 0) := by rw [endP, hok, if_neg (by simp), hs]
      refine .inr ⟨En3 l out, fun x => en3I l x.k out, fun x => l.length - x.k, ⟨0, by omega, by simp⟩, ⟨rfl, le4 rfl rfl rfl rfl trivial trivial trivial trivial⟩, ?_⟩
      rintro ⟨k, hk, hok⟩
      by_cases hkl : k < l.length
      · obtain ⟨r, hr⟩ : ∃ r, r = l.getD k pktZ := ⟨_, rfl⟩
        have hrm : r ∈ l := by rw [hr]; simp [List.getD, hkl]
        obtain ⟨hro, hrp, hrd⟩ := hl.2 r hrm
        have hat := pkts_at l k hkl
        rw [← hr] at hat
        have hsn := any_snoc (fun p => decide (0 ≤ out ∧ out < toP p)) l k pktZ hkl
        rw [← hr, hok, Bool.false_or] at hsn
        have c0 : decide ((k : Int) < (l.length : Int)) = true := by simpa using hkl
        have hd3 : (k + 1) * 11 ≤ (pktsL l).length := by omega
        have w1 : IntKind.i64.wrap ((k : Int) + 1) = ((k + 1 : Nat) : Int) := by rw [i64_in (by omega) (by omega)]; omega
        have h0k : (0 : Int) ≤ (k : Int) := by omega
        have hoff := hro.off
        have hto : toP r = r.off * 8 + r.data.length := rfl
        simp only [en3I, c0, Int.toNat_natCast, hat, hd3, h0k, ac_skip, ac_seq, ac_block, ac_cond, ac_region, at_normal, ao_nil, ao_cons, ao_guard_t, if_t, as_alloc, as_store, as_move, as_binOp, as_load, as_indexAddr, pktL, u8A, u16A, u32A, i64, boA, fr_false, List.contains_nil, beq_self_eq_true, Bool.and_self, hk_some, hopG, rd, aopsD, heapF, frzW, frzR, constT, evT, lk, putT, GV, gdst, binF, loadF, cellsF, ovw, okCell, constA, cellA, TK.isAgg, Value.oneCell', List.length_cons, List.length_nil, List.getElem?_cons_zero, List.take_succ_cons, List.take_nil, List.set_cons_zero, List.set_cons_succ, List.nil_append, List.all_cons, List.all_nil, Option.map_some, Nat.reduceAdd, Nat.reduceSub, Nat.reduceEqDiff, Nat.reduceLeDiff, true_and, and_self, eq_self, Bool.false_eq_true, ↓reduceIte, Nat.zero_add, Nat.zero_lt_succ, Nat.le_refl, TT3, TT84, TT87]
        cases c1 : decide ((0 : Int) ≤ out)
        · rw [dF] at c1
          simp only [w1, ac_skip, ac_cond, ac_region, at_normal, ab_normal, ao_nil, ao_cons, ao_guard_t, sk_at, pk_at, if_f, as_pick, as_move, as_binOp, fr_false, List.contains_nil, beq_self_eq_true, hk_some, hopG, rd, aopsD, constT, evT, lk, putT, GV, gdst, binF, constA, cellA, Option.map_some, Nat.reduceSub, Nat.reduceEqDiff, Nat.reduceLeDiff, true_and, eq_self, Bool.false_eq_true, ↓reduceIte, TT3]
          exact ⟨⟨k + 1, by omega, by rw [hsn, decide_eq_false (by omega)]⟩, ⟨rfl, le4 rfl rfl rfl rfl trivial trivial trivial trivial⟩, by show l.length - (k + 1) < l.length - k; omega⟩
        · rw [dT] at c1
          simp only [ao_guard_t, st_at, if_t, as_call, as_load, beq_self_eq_true, hk_some, hopG, rd, frzW, frzR, evT, lk, putT, GV, gdst, loadF, argsF, TK.isAgg, List.length_cons, List.length_nil, List.getElem?_cons_zero, List.drop_zero, List.take_succ_cons, List.take_nil, Option.map_some, Nat.reduceAdd, Nat.reduceSub, Nat.reduceEqDiff, true_and, eq_self, ↓reduceIte, Nat.zero_add, Nat.le_refl, TT87]
          refine ACall.intro (fgTo_a _ hoff (by show r.data.length ≤ 1000000; omega)) ?_
          simp only [ac_cond, at_normal, ao_nil, ao_cons, ao_guard_t, st_at, pk_at, if_t, as_pick, as_move, as_binOp, i64, beq_self_eq_true, hk_some, hopG, rd, evT, lk, putT, GV, gdst, binF, Option.map_some, Nat.reduceSub, Nat.reduceEqDiff, true_and, eq_self, ↓reduceIte, TT3]
          cases c2 : decide (out < r.off * 8 + (r.data.length : Int))
          · rw [dF] at c2
            simp only [w1, ac_skip, ac_region, at_normal, ab_normal, ao_nil, ao_cons, if_f, as_move, as_binOp, fr_false, List.contains_nil, beq_self_eq_true, hk_some, hopG, rd, aopsD, constT, evT, lk, putT, binF, constA, cellA, Option.map_some, Nat.reduceSub, Nat.reduceEqDiff, Nat.reduceLeDiff, true_and, eq_self, Bool.false_eq_true, ↓reduceIte, TT3]
            exact ⟨⟨k + 1, by omega, by rw [hsn, decide_eq_false (by omega)]⟩, ⟨rfl, le4 rfl rfl rfl rfl trivial trivial trivial trivial⟩, by show l.length - (k + 1) < l.length - k; omega⟩
          · rw [dT] at c2
            have he : endP l = (0, 3) := by rw [hE, if_pos (any_at hkl (by rw [← hr]; exact decide_eq_true (by omega)))]
            simp only [ac_ret, ac_seq, ac_region, at_normal, at_ret, ab_ret, ae_ret, ao_nil, ao_cons, if_t, as_assign, fr_false, List.contains_nil, beq_self_eq_true, rd, aopsD, constT, evT, lk, putT, resF, resL, constA, cellA, Option.map_some, Option.bind_some, Nat.reduceSub, Nat.reduceEqDiff, Nat.reduceLeDiff, true_and, and_true, eq_self, Bool.false_eq_true, ↓reduceIte]
            rw [he]
      · obtain rfl : k = l.length := by omega
        rw [List.take_length] at hok
        rw [hok, if_neg (by simp)] at hE
        simp only [en3I, c0, ac_exit, ac_seq, ac_cond, ac_region, at_normal, at_exit, ab_exit, ao_nil, ao_cons, if_f, as_move, as_binOp, i64, fr_false, List.contains_nil, beq_self_eq_true, hk_some, hopG, rd, aopsD, constT, evT, lk, putT, binF, constA, cellA, Option.map_some, Nat.reduceSub, Nat.reduceEqDiff, Nat.reduceLeDiff, true_and, eq_self, Bool.false_eq_true, ↓reduceIte, TT3]
        cases c1 : decide (out < 0)
        · rw [dF] at c1
          rw [if_neg c1] at hE
          simp only [ac_skip, ac_ret, ac_seq, ac_region, at_normal, ae_ret, ao_nil, ao_cons, if_f, as_move, as_assign, fr_false, List.contains_nil, beq_self_eq_true, rd, aopsD, constT, evT, lk, putT, resF, resL, constA, cellA, Option.map_some, Option.bind_some, Nat.reduceSub, Nat.reduceEqDiff, Nat.reduceLeDiff, true_and, and_true, eq_self, Bool.false_eq_true, ↓reduceIte]
          rw [hE]
        · rw [dT] at c1
          rw [if_pos c1] at hE
          simp only [ac_ret, ac_seq, ac_region, at_normal, at_ret, ae_ret, ao_nil, ao_cons, if_t, as_assign, fr_false, List.contains_nil, beq_self_eq_true, rd, aopsD, constT, evT, lk, putT, resF, resL, constA, cellA, Option.map_some, Option.bind_some, Nat.reduceSub, Nat.reduceEqDiff, Nat.reduceLeDiff, true_and, and_true, eq_self, Bool.false_eq_true, ↓reduceIte]
          rw [hE]
end Go.Proofs.Ythjojkkapboonaa
