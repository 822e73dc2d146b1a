/- pcap: records, their bytes; what puts them. -/
import Derived.Test.YthjojkkapboonaaCI
import Derived.Test.YthjojkkapboonaaCD
import Derived.Test.YthjojkkapboonaaCW
namespace Go.Proofs.Ythjojkkapboonaa
set_option linter.unusedSimpArgs false
set_option linter.unusedVariables false
open Go.RowKit

structure RecN where
  sec : Int
  usec : Int
  data : List UInt8
abbrev recL (r : RecN) : List AV := [u32A r.sec, u32A r.usec, .bs r.data]
structure RecN.ok (r : RecN) : Prop where
  sec : 0 ≤ r.sec ∧ r.sec ≤ 4294967295
  usec : 0 ≤ r.usec ∧ r.usec ≤ 4294967295
def rec0 : RecN := ⟨0, 0, []⟩
def recsL (l : List RecN) : List AV := l.flatMap recL
theorem recsL_len (l : List RecN) : (recsL l).length = l.length * 3 := by
  induction l with
  | nil => rfl
  | cons r l ih => simp only [recsL, List.flatMap_cons, List.length_append] at ih ⊢; rw [ih]; simp; omega
theorem recs_div (l : List RecN) : (recsL l).length / 3 = l.length := by rw [recsL_len]; omega
theorem recs_drop : ∀ (l : List RecN) (k : Nat), (recsL l).drop (k * 3) = recsL (l.drop k)
  | l, 0 => by simp
  | [], k + 1 => by simp [recsL]
  | r :: l, k + 1 => by
    have : (k + 1) * 3 = k * 3 + 3 := by omega
    rw [this, List.drop_succ_cons, ← recs_drop l k]
    simp [recsL]
theorem recs_take : ∀ (l : List RecN) (k : Nat), (recsL l).take (k * 3) = recsL (l.take k)
  | l, 0 => by simp [recsL]
  | [], k + 1 => by simp [recsL]
  | r :: l, k + 1 => by
    have : (k + 1) * 3 = k * 3 + 3 := by omega
    rw [this, List.take_succ_cons]
    have := recs_take l k
    simp only [recsL] at this
    simp [recsL, this]
theorem recs_at (l : List RecN) (k : Nat) (h : k < l.length) : ((recsL l).drop (k * 3)).take 3 = recL (l.getD k rec0) := by
  rw [recs_drop, List.drop_eq_getElem_cons h, recsL, List.flatMap_cons, show l.getD k rec0 = l[k] by simp [List.getD, h]]
  rfl
theorem recs_snoc (l : List RecN) (r : RecN) : recsL (l ++ [r]) = recsL l ++ recL r := by simp [recsL]
theorem recs_ok (l : List RecN) : (recsL l).all okCell = true := by
  induction l with
  | nil => rfl
  | cons r l ih => simp only [recsL, List.flatMap_cons, List.all_append] at ih ⊢; rw [ih]; rfl

def low4 (n : Int) : List UInt8 := [u8 n, u8 (n / 256), u8 (n / 65536), u8 (n / 16777216)]
def topP : List UInt8 := [212, 195, 178, 161, 2, 0, 4, 0, 0, 0, 0, 0, 0, 0, 0, 0, 255, 255, 0, 0, 1, 0, 0, 0]
def oneB (r : RecN) : List UInt8 := low4 r.sec ++ (low4 r.usec ++ (low4 r.data.length ++ (low4 r.data.length ++ r.data)))
def okR (r : RecN) : Bool := decide (r.usec ≤ 999999) && decide (r.data.length ≤ 65535)
def bodyB (l : List RecN) : List UInt8 := l.flatMap oneB
/-- The file of records, or none. -/
def putR (l : List RecN) : List UInt8 × Int := if l.all okR then (topP ++ bodyB l, 0) else ([], 2)
theorem low4_len (n : Int) : (low4 n).length = 4 := rfl
theorem oneB_len (r : RecN) : (oneB r).length = 16 + r.data.length := by simp [oneB, low4]; omega
theorem body_snoc (l : List RecN) (r : RecN) : bodyB (l ++ [r]) = bodyB l ++ oneB r := by simp [bodyB]
theorem body_take (l : List RecN) (k : Nat) (h : k < l.length) : bodyB (l.take (k + 1)) = bodyB (l.take k) ++ oneB (l.getD k rec0) := by
  rw [← body_snoc, List.take_succ_eq_append_getElem h]
  simp [List.getD, h]
theorem body_take_le (l : List RecN) (k : Nat) : (bodyB (l.take k)).length ≤ (bodyB l).length := by
  have : bodyB l = bodyB (l.take k) ++ bodyB (l.drop k) := by
    rw [bodyB, bodyB, bodyB, ← List.flatMap_append, List.take_append_drop]
  rw [this]; simp

set_option maxRecDepth 100000 in
theorem pcLow_a (n : Int) (h : 0 ≤ n ∧ n ≤ 4294967295) : ASpec Try.prog 60 [u32A n] (.bs (low4 n)) := by
  refine ASpec.of_body TT_ok Try.mixed _ [.tmp 2] ([], []) Try.func60 (by kernel_rfl) rfl rfl (by simp only [Try.ntmps60, List.length_cons, List.length_nil]; omega) rfl (by kernel_rfl) ?_
  simp only [u8bd, u8w, argE_cons, argE_nil, ac_ret, ac_seq, ac_region, at_normal, ae_ret, ao_nil, ao_cons, as_move, as_assign, as_binOp, as_convert, as_buildSlice, u32A, fr_false, List.contains_nil, beq_self_eq_true, Int.cast_ofNat_Int, Int.reducePow, hk_some, hopG, rd, aopsD, frzW, frzR, constT, evT, lk, putT, binF, convF, cellsF, ovw, fillF, bytesOf, makeSF, partsF, resF, resL, constA, cellA, IntKind.bits, Value.oneCell', List.length_cons, List.length_nil, List.map_cons, List.map_nil, List.set_cons_zero, List.set_cons_succ, List.nil_append, List.cons_append, List.replicate_succ, List.replicate_zero, List.flatten_cons, List.flatten_nil, List.append_nil, Option.map_some, Option.bind_some, Nat.reduceAdd, Nat.reduceSub, Nat.reduceEqDiff, Nat.reduceLeDiff, Nat.succ_ne_zero, true_and, and_true, and_self, eq_self, Bool.false_eq_true, ↓reduceIte, Int.reduceToNat, Int.reduceLE, Nat.mul_one, Nat.zero_add, Nat.le_refl, TT5, TT22, TT38]
  try rfl
set_option maxRecDepth 100000 in
theorem pcTop_w : ASpecW Try.prog 59 [] 5 1 (.bs topP) := by
  refine ASpecW.of_body TT_ok Try.mixed _ [.tmp 0] ([], []) Try.func59 (by kernel_rfl) rfl rfl (by simp only [Try.ntmps59, List.length_nil]; omega) rfl (by kernel_rfl) ?_
  simp only [argE_nil, ac_seq, ac_region, at_normal, ao_nil, ao_cons, as_call, as_move, as_assign, as_buildSlice, fr_false, List.contains_nil, beq_self_eq_true, hk_some, hopG, rd, aopsD, frzW, frzR, constT, evT, lk, putT, cellsF, ovw, fillF, bytesOf, makeSF, partsF, argsF, constA, cellA, Value.oneCell', List.length_cons, List.length_nil, List.map_cons, List.map_nil, List.set_cons_zero, List.set_cons_succ, List.nil_append, List.cons_append, List.replicate_succ, List.replicate_zero, List.flatten_cons, List.flatten_nil, List.append_nil, Option.map_some, Nat.reduceAdd, Nat.reduceSub, Nat.reduceLeDiff, true_and, and_self, eq_self, Bool.false_eq_true, ↓reduceIte, Int.reduceLE, Nat.mul_one, Nat.zero_add, Nat.le_refl, TT5, TT38]
  refine ACall.intro (pcLow_a 65535 (by omega)) ?_
  simp only [ao_cons, as_call, beq_self_eq_true, rd, frzW, frzR, constT, evT, putT, argsF, constA, cellA, Option.map_some, Nat.reduceSub]
  refine ACall.intro (pcLow_a 1 (by omega)) ?_
  simp only [ao_cons, as_call, as_buildSlice, beq_self_eq_true, hk_some, hopG, rd, frzW, frzR, evT, lk, putT, cellsF, ovw, fillF, makeSF, partsF, argsF, List.length_cons, List.length_nil, List.map_cons, List.map_nil, List.set_cons_zero, List.set_cons_succ, List.nil_append, List.cons_append, List.replicate_succ, List.replicate_zero, List.flatten_cons, List.flatten_nil, List.append_nil, Option.map_some, Nat.reduceAdd, Nat.reduceSub, Nat.reduceEqDiff, Nat.reduceLeDiff, true_and, and_self, eq_self, ↓reduceIte, Nat.mul_one, Nat.zero_add, Nat.zero_lt_succ, Nat.le_refl, TT38, TT143]
  refine ACall.introW (join_w [[u8 212, u8 195, u8 178, u8 161, u8 2, u8 0, u8 4, u8 0, u8 0, u8 0, u8 0, u8 0, u8 0, u8 0, u8 0, u8 0], low4 65535, low4 1] (by simp [small, low4])) (by simp [neA]) ?_
  simp only [ac_ret, at_normal, ao_nil, ao_cons, as_assign, beq_self_eq_true, aw_ret, WRes, evT, lk, putT, List.length_nil, List.getElem?_cons_zero, List.nil_append, List.cons_append, List.flatten_cons, List.flatten_nil, List.append_nil, Nat.reduceSub, true_and, eq_self, ↓reduceIte]
  exact congrArg AV.bs (by decide +kernel)
set_option maxRecDepth 100000 in
theorem pcTop_a : ASpec Try.prog 59 [] (.bs topP) := by
  refine ASpec.of_body TT_ok Try.mixed _ [.tmp 0] ([], []) Try.func59 (by kernel_rfl) rfl rfl (by simp only [Try.ntmps59, List.length_nil]; omega) rfl (by kernel_rfl) ?_
  simp only [argE_nil, ac_seq, ac_region, at_normal, ao_nil, ao_cons, as_call, as_move, as_assign, as_buildSlice, fr_false, List.contains_nil, beq_self_eq_true, hk_some, hopG, rd, aopsD, frzW, frzR, constT, evT, lk, putT, cellsF, ovw, fillF, bytesOf, makeSF, partsF, argsF, constA, cellA, Value.oneCell', List.length_cons, List.length_nil, List.map_cons, List.map_nil, List.set_cons_zero, List.set_cons_succ, List.nil_append, List.cons_append, List.replicate_succ, List.replicate_zero, List.flatten_cons, List.flatten_nil, List.append_nil, Option.map_some, Nat.reduceAdd, Nat.reduceSub, Nat.reduceLeDiff, true_and, and_self, eq_self, Bool.false_eq_true, ↓reduceIte, Int.reduceLE, Nat.mul_one, Nat.zero_add, Nat.le_refl, TT5, TT38]
  refine ACall.intro (pcLow_a 65535 (by omega)) ?_
  simp only [ao_cons, as_call, beq_self_eq_true, rd, frzW, frzR, constT, evT, putT, argsF, constA, cellA, Option.map_some, Nat.reduceSub]
  refine ACall.intro (pcLow_a 1 (by omega)) ?_
  simp only [ao_cons, as_call, as_buildSlice, beq_self_eq_true, hk_some, hopG, rd, frzW, frzR, evT, lk, putT, cellsF, ovw, fillF, makeSF, partsF, argsF, List.length_cons, List.length_nil, List.map_cons, List.map_nil, List.set_cons_zero, List.set_cons_succ, List.nil_append, List.cons_append, List.replicate_succ, List.replicate_zero, List.flatten_cons, List.flatten_nil, List.append_nil, Option.map_some, Nat.reduceAdd, Nat.reduceSub, Nat.reduceEqDiff, Nat.reduceLeDiff, true_and, and_self, eq_self, ↓reduceIte, Nat.mul_one, Nat.zero_add, Nat.zero_lt_succ, Nat.le_refl, TT38, TT143]
  refine ACall.intro (join_a [[u8 212, u8 195, u8 178, u8 161, u8 2, u8 0, u8 4, u8 0, u8 0, u8 0, u8 0, u8 0, u8 0, u8 0, u8 0, u8 0], low4 65535, low4 1] (by simp [small, low4])) ?_
  simp only [ac_ret, at_normal, ae_ret, ao_nil, ao_cons, as_assign, beq_self_eq_true, rd, evT, lk, putT, resF, resL, List.nil_append, List.cons_append, List.flatten_cons, List.flatten_nil, List.append_nil, Option.map_some, Option.bind_some, Nat.reduceSub, true_and, and_true, eq_self, ↓reduceIte]
  exact congrArg AV.bs (by decide +kernel)

/-- What is known at each round of pcap.Put. -/
structure PutK (l : List RecN) where
  k : Nat
  hk : k ≤ l.length
  ok : ∀ r ∈ l.take k, okR r = true
def putI (l : List RecN) (k : Nat) : AE := ⟨[(11, .v (i64 k)), (10, .v (i64 l.length)), (9, .v (.sl 3 (recsL l))), (4, .r 0 5 1 (.bs (topP ++ bodyB (l.take k))))], [(true, [])]⟩
theorem le4 {E : AE} {L : Nat} {t0 t1 t2 t3 : Nat} {v0 v1 v2 v3 : TV} (h0 : lk E.t t0 = v0) (h1 : lk E.t t1 = v1) (h2 : lk E.t t2 = v2) (h3 : lk E.t t3 = v3) (p0 : PtOk L v0) (p1 : PtOk L v1) (p2 : PtOk L v2) (p3 : PtOk L v3) :
    ∀ p ∈ [(t0, v0), (t1, v1), (t2, v2), (t3, v3)], lk E.t p.1 = p.2 ∧ PtOk L p.2 := by
  intro p hp
  simp only [List.mem_cons, List.not_mem_nil, or_false] at hp
  rcases hp with rfl | rfl | rfl | rfl
  · exact ⟨h0, p0⟩
  · exact ⟨h1, p1⟩
  · exact ⟨h2, p2⟩
  · exact ⟨h3, p3⟩
set_option maxRecDepth 100000 in
set_option maxHeartbeats 2000000 in
theorem pcPut_a (l : List RecN) (hl : ∀ r ∈ l, r.ok) (hb : (bodyB l).length ≤ 900000) (hn : l.length ≤ 100000) : ASpec Try.prog 31 [.sl 3 (recsL l)] (.tup [.bs (putR l).1, i64 (putR l).2]) := by
  refine ASpec.of_body TT_ok Try.mixed _ [.tmp 2, .tmp 3] ([], [(8, 4000), (9, 4000)]) Try.func31 (by kernel_rfl) rfl rfl (by simp only [Try.ntmps31, List.length_cons, List.length_nil]; omega) rfl (by kernel_rfl) ?_
  simp only [argE_cons, argE_nil, ac_seq, ac_region, at_normal, ao_nil, ao_cons, as_call, as_assign, i64, fr_false, List.contains_nil, beq_self_eq_true, aopsD, frzW, frzR, constT, evT, putT, argsF, constA, cellA, Nat.reduceSub, Nat.reduceLeDiff, Bool.false_eq_true, ↓reduceIte, Nat.zero_add]
  refine ACall.introW pcTop_w (by simp [neA, topP]) ?_
  simp only [recs_div, ac_seq, ac_block, ac_region, ac_loop, at_normal, ao_nil, ao_cons, as_move, as_assign, as_len, fr_false, List.contains_nil, beq_self_eq_true, hk_some, hopG, hopF, rd, aopsD, constT, evT, lk, putT, lenF, constA, cellA, List.length_nil, List.nil_append, Nat.reduceSub, Nat.reduceLeDiff, Nat.succ_ne_zero, true_and, eq_self, Bool.false_eq_true, ↓reduceIte, Nat.zero_lt_succ, TT63]
  refine .inr ⟨PutK l, fun x => putI l x.k, fun x => l.length - x.k, ⟨0, by omega, by simp⟩, ⟨rfl, le4 rfl rfl rfl rfl trivial trivial trivial (by show (0 : Nat) < 1; decide)⟩, ?_⟩
  rintro ⟨k, hk, hok⟩
  by_cases hkl : k < l.length
  · obtain ⟨r, hr⟩ : ∃ r, r = l.getD k rec0 := ⟨_, rfl⟩
    have hrm : r ∈ l := by rw [hr]; simp [List.getD, hkl]
    have hro := hl r hrm
    have hat := recs_at l k hkl
    have hstep := body_take l k hkl
    have hle := body_take_le l (k + 1)
    have hle0 := body_take_le l k
    have htk : l.take (k + 1) = l.take k ++ [r] := by rw [hr, List.take_succ_eq_append_getElem hkl]; simp [List.getD, hkl]
    have h1l := oneB_len r
    rw [← hr] at hat hstep
    rw [hstep, List.length_append] at hle
    have htl : topP.length = 24 := by decide
    have c0 : decide ((k : Int) < (l.length : Int)) = true := by simpa using hkl
    have hd3 : (k + 1) * 3 ≤ (recsL l).length := by rw [recsL_len]; omega
    have hu : ∀ z ∈ l, z ∈ l := fun _ h => h
    have w1 : IntKind.i64.wrap ((k : Int) + 1) = ((k + 1 : Nat) : Int) := by rw [i64_in (by omega) (by omega)]; omega
    have h0k : (0 : Int) ≤ (k : Int) := by omega
    simp only [putI, c0, Int.toNat_natCast, hat, hd3, h0k, ac_skip, ac_seq, ac_block, ac_cond, ac_region, at_normal, ao_nil, ao_cons, ao_guard_f, if_t, as_alloc, as_store, as_move, as_binOp, as_load, as_fieldAddr, as_indexAddr, u32A, i64, fr_false, List.contains_nil, beq_self_eq_true, Bool.and_self, hk_some, hopG, rd, aopsD, heapF, frzW, frzR, constT, evT, lk, putT, GV, gdst, binF, loadF, cellsF, ovw, okCell, constA, cellA, TK.isAgg, Value.oneCell', List.length_cons, List.length_nil, List.getElem?_cons_zero, List.getElem?_cons_succ, List.drop_zero, List.drop_succ_cons, List.take_succ_cons, List.take_nil, List.set_cons_zero, List.set_cons_succ, List.nil_append, List.cons_append, List.all_cons, List.all_nil, Option.map_some, Nat.reduceAdd, Nat.reduceSub, Nat.reduceEqDiff, Nat.reduceLeDiff, Nat.succ_ne_zero, ne_eq, not_false_eq_true, true_and, and_self, eq_self, Bool.false_eq_true, ↓reduceIte, Nat.zero_add, Nat.zero_lt_succ, Nat.le_refl, TT3, TT22, TT63, TT65]
    cases c1 : decide ((1000000 : Int) ≤ r.usec)
    · rw [dF] at c1
      simp only [ac_cond, at_normal, ao_nil, ao_cons, ao_guard_f, st_at, pk_at, if_f, as_pick, as_binOp, as_load, as_fieldAddr, as_len, beq_self_eq_true, hk_some, hopG, hopF, rd, constT, evT, lk, putT, GV, gdst, lenF, binF, loadF, constA, cellA, TK.isAgg, List.getElem?_cons_zero, List.getElem?_cons_succ, List.drop_zero, List.drop_succ_cons, Option.map_some, Nat.reduceSub, Nat.reduceEqDiff, Nat.succ_ne_zero, ne_eq, not_false_eq_true, true_and, eq_self, Bool.false_eq_true, ↓reduceIte, Nat.zero_add, TT3, TT38, TT65]
      cases c2 : decide ((65535 : Int) < (r.data.length : Int))
      · rw [dF] at c2
        have hrok : okR r = true := by simp [okR]; omega
        simp only [u32_in (n := (r.data.length : Int)) (by omega) (by omega), ac_skip, ac_seq, ac_region, at_normal, ao_cons, if_f, as_call, as_convert, as_load, as_fieldAddr, as_len, fr_false, List.contains_nil, beq_self_eq_true, hk_some, hopG, hopF, rd, aopsD, frzW, frzR, evT, lk, putT, lenF, convF, loadF, argsF, TK.isAgg, List.getElem?_cons_zero, List.getElem?_cons_succ, List.drop_zero, List.drop_succ_cons, Option.map_some, Nat.reduceSub, Nat.reduceEqDiff, Nat.reduceLeDiff, Nat.succ_ne_zero, ne_eq, not_false_eq_true, true_and, eq_self, Bool.false_eq_true, ↓reduceIte, Nat.zero_add, TT3, TT22, TT38, TT65]
        refine ACall.intro (pcLow_a r.data.length (by omega)) ?_
        simp only [ac_seq, ac_region, at_normal, ao_nil, ao_cons, as_assign, fr_false, List.contains_nil, beq_self_eq_true, aopsD, tlN, evT, lk, putT, Nat.reduceSub, eq_self, ↓reduceIte, Nat.le_refl]
        have e : ((((((topP ++ bodyB (l.take k)) ++ low4 r.sec) ++ low4 r.usec) ++ low4 r.data.length) ++ low4 r.data.length) ++ r.data) = topP ++ bodyB (l.take (k + 1)) := by
          rw [hstep, oneB]
          simp only [List.append_assoc]
        refine ⟨(.first 0 (.first 1 (.first 5 (.first 9 (.node 2 (.node 3 (.node 4 (.node 6 (.node 7 (.node 8 (.node 10 (.first 11 .nil) .nil) .nil) .nil) .nil) (.node 6 (.node 4 (.node 7 (.node 8 (.node 10 (.first 11 .nil) .nil) .nil) .nil) .nil) .nil)) (.node 6 (.node 3 (.node 4 (.node 7 (.node 8 (.node 10 (.first 11 .nil) .nil) .nil) .nil) .nil) .nil) .nil)) (.node 6 (.node 2 (.node 3 (.node 4 (.node 7 (.node 8 (.node 10 (.first 11 .nil) .nil) .nil) .nil) .nil) .nil) .nil) .nil)))))), by kernel_rfl, ?_⟩
        repeat' (first
          | with_reducible refine And.intro ?_ ?_
          | refine ACall.intro (pcLow_a _ (by first | exact hro.sec | exact hro.usec)) ?_
          | refine ⟨(.first 0 (.first 1 (.first 3 (.node 2 (.node 4 (.node 5 (.first 6 .nil) .nil) .nil) (.node 4 (.node 2 (.node 5 (.first 6 .nil) .nil) .nil) .nil))))), by kernel_rfl, ?_⟩
          | (simp only [w1, ac_region, at_normal, ab_normal, ao_nil, ao_cons, as_call, as_move, as_assign, as_binOp, as_load, as_fieldAddr, af_nil, af_nil_f, af_node, af_first, an_step, af_step, freeF, fr_false, List.contains_nil, beq_self_eq_true, hk_some, hopG, rd, aopsD, as_append, appF, catA, dropT, dropV, frzW, frzR, tlN, constT, evT, lk, putT, binF, loadF, argsF, constA, cellA, TK.isAgg, List.length_cons, List.length_nil, List.getElem?_cons_zero, List.getElem?_cons_succ, List.drop_zero, List.drop_succ_cons, Option.map_some, Nat.reduceSub, Nat.reduceEqDiff, Nat.reduceLeDiff, Nat.succ_ne_zero, ne_eq, not_false_eq_true, true_and, and_true, and_self, eq_self, Bool.false_eq_true, ↓reduceIte, Nat.zero_add, Nat.add_zero, Nat.zero_lt_succ, Nat.le_refl, TT3, TT5, TT22, TT38, TT65])
          | (simp only [List.length_append, low4_len]; omega))
        all_goals exact ⟨⟨k + 1, by omega, by rw [htk]; intro z hz; rcases List.mem_append.1 hz with hz | hz; exact hok z hz; rw [List.mem_singleton.1 hz]; exact hrok⟩, ⟨rfl, le4 rfl rfl rfl (congrArg (fun z => TV.r 0 5 1 (.bs z)) e) trivial trivial trivial (by show (0 : Nat) < 1; decide)⟩, by show l.length - (k + 1) < l.length - k; omega⟩
      · rw [dT] at c2
        simp only [ac_ret, ac_seq, ac_region, at_normal, at_ret, ab_ret, ae_ret, ao_nil, ao_cons, if_t, as_assign, fr_false, List.contains_nil, beq_self_eq_true, rd, aopsD, constT, evT, lk, putT, resF, resL, constA, cellA, Option.map_some, Option.bind_some, Nat.reduceSub, Nat.reduceEqDiff, Nat.reduceLeDiff, true_and, and_true, eq_self, Bool.false_eq_true, ↓reduceIte]
        have hbad : putR l = ([], 2) := by
          rw [putR, if_neg]
          intro ha
          have := List.all_eq_true.1 ha r hrm
          simp [okR] at this
          omega
        rw [hbad]
    · rw [dT] at c1
      simp only [ac_ret, ac_seq, ac_cond, ac_region, at_normal, at_ret, ab_ret, ae_ret, ao_nil, ao_cons, ao_guard_f, sk_at, pk_at, if_t, as_pick, as_assign, fr_false, List.contains_nil, beq_self_eq_true, rd, aopsD, constT, evT, lk, putT, GV, gdst, resF, resL, constA, cellA, Option.map_some, Option.bind_some, Nat.reduceSub, Nat.reduceEqDiff, Nat.reduceLeDiff, true_and, and_true, eq_self, Bool.false_eq_true, ↓reduceIte]
      have hbad : putR l = ([], 2) := by
        rw [putR, if_neg]
        intro ha
        have := List.all_eq_true.1 ha r hrm
        simp [okR] at this
        omega
      rw [hbad]
  · obtain rfl : k = l.length := by omega
    have c0 : decide ((l.length : Int) < (l.length : Int)) = false := by simp
    simp only [putI, c0, ac_exit, ac_ret, ac_seq, ac_cond, ac_region, at_normal, at_exit, ab_exit, ae_ret, ao_nil, ao_cons, if_f, as_move, as_assign, as_binOp, i64, fr_false, fr_nil, fr_cons, List.contains_nil, beq_self_eq_true, hk_some, hopG, rd, aopsD, constT, evT, lk, putT, binF, resF, resL, constA, cellA, List.getElem?_cons_zero, Option.map_some, Option.bind_some, Nat.reduceSub, Nat.reduceEqDiff, Nat.reduceLeDiff, true_and, and_true, eq_self, Bool.false_eq_true, ↓reduceIte, TT3]
    have hgood : putR l = (topP ++ bodyB l, 0) := by
      rw [putR, if_pos]
      rw [List.all_eq_true]
      intro z hz
      exact hok z (by rw [List.take_length]; exact hz)
    rw [hgood, List.take_length]
end Go.Proofs.Ythjojkkapboonaa
