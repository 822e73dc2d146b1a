/- frag.first, frag.Join. -/
import Derived.Test.YthjojkkapboonaaFG
namespace Go.Proofs.Ythjojkkapboonaa
set_option linter.unusedSimpArgs false
set_option linter.unusedVariables false
open Go.RowKit

def off0 (p : PktN) : Bool := decide (p.off = 0)
def joinR (p : PktN) (d : List UInt8) : PktN := { p with mf := false, off := 0, data := d }
/-- What the pieces are, that are of one packet and end at n. -/
def joinN (l : List PktN) (n : Nat) : PktN × Int := if cnt n (cov l) = 0 then match l.find? off0 with
  | none => (pktZ, 8)
  | some p => if pktMay (joinR p (lst n (cov l))) = true then (joinR p (lst n (cov l)), 0) else (pktZ, 14)
  else (pktZ, 8)
def joinP (l : List PktN) : PktN × Int := if l.length = 0 then (pktZ, 15) else if l.any (fun p => !likeB p (l.getD 0 pktZ)) = true then (pktZ, 2)
  else if (endP l).2 = 0 then joinN l (endP l).1.toNat else (pktZ, (endP l).2)
theorem lastF_in : ∀ (l : List PktN) (out o : Int), lastF l out = some o → o = out ∨ ∃ p ∈ l, o = toP p
  | [], out, o, h => by simp only [lastF, Option.some.injEq] at h; exact .inl h.symm
  | p :: l, out, o, h => by
    rw [lastF] at h
    split at h
    · rcases lastF_in l out o h with h | ⟨q, hq, h⟩
      · exact .inl h
      · exact .inr ⟨q, List.mem_cons_of_mem _ hq, h⟩
    · split at h
      · exact absurd h (by simp)
      · rcases lastF_in l (toP p) o h with h | ⟨q, hq, h⟩
        · exact .inr ⟨p, by simp, h⟩
        · exact .inr ⟨q, List.mem_cons_of_mem _ hq, h⟩
theorem toP_bd {l : List PktN} (hl : pksOk l) {p : PktN} (hp : p ∈ l) : 0 ≤ toP p ∧ toP p ≤ 700000 := by
  obtain ⟨h1, _, h2⟩ := hl.2 p hp
  have := h1.off
  unfold toP
  omega
theorem endP_ok {l : List PktN} (hl : pksOk l) (he : (endP l).2 = 0) : 0 ≤ (endP l).1 ∧ (endP l).1 ≤ 700000 ∧ ∀ p ∈ l, toP p ≤ (endP l).1 := by
  rw [endP] at he ⊢
  split at he
  · simp at he
  · rename_i hb
    rw [if_neg hb]
    split at he
    · simp at he
    · rename_i out ho
      split at he
      · simp at he
      · rename_i ha
        rw [if_neg ha]
        split at he
        · simp at he
        · rename_i hn
          rw [if_neg hn]
          refine ⟨by omega, ?_, ?_⟩
          · rcases lastF_in l _ _ ho with h | ⟨p, hp, h⟩
            · simp only; omega
            · have := toP_bd hl hp
              simp only; omega
          · intro p hp
            simp only [List.any_eq_true, not_exists, not_and, decide_eq_true_eq] at ha
            have := ha p hp
            simp only
            omega
structure FirK (l : List PktN) where
  k : Nat
  hk : k ≤ l.length
  h : l.find? off0 = (l.drop k).find? off0
def firI (l : List PktN) (k : Nat) : AE := ⟨[(8, .v (i64 k)), (7, .v (i64 l.length)), (6, .v (.sl 11 (pktsL l))), (2, .p 0 0)], [(true, pktL pktZ)]⟩
set_option maxRecDepth 100000 in
set_option maxHeartbeats 2000000 in
theorem fgFirst_a (l : List PktN) (hl : pksOk l) : ASpec Try.prog 70 [.sl 11 (pktsL l)] (.tup [pktA ((l.find? off0).getD pktZ), boA (l.find? off0).isSome]) := by
  have hpd := pkts_div l
  have hpl := pktsL_len l
  have hl1 := hl.1
  refine ASpec.of_body TT_ok Try.mixed _ [.cell 2 87, .tmp 3] ([], []) Try.func70 (by kernel_rfl) rfl rfl (by simp only [Try.ntmps70, List.length_cons, List.length_nil]; omega) rfl (by kernel_rfl) ?_
  simp only [hpd, argE_cons, argE_nil, ac_seq, ac_block, ac_region, ac_loop, at_normal, ao_nil, ao_cons, as_alloc, as_move, as_assign, as_len, pktL, pktA, u8A, u16A, u32A, boA, fr_false, List.contains_nil, beq_self_eq_true, hk_some, hopG, hopF, rd, aopsD, heapF, constT, evT, lk, putT, lenF, constA, cellA, List.length_nil, List.nil_append, Nat.reduceSub, Nat.reduceLeDiff, Nat.succ_ne_zero, true_and, eq_self, Bool.false_eq_true, ↓reduceIte, Nat.zero_add, Nat.zero_lt_succ, TT84, TT87]
  refine .inr ⟨FirK l, fun x => firI l x.k, fun x => l.length - x.k, ⟨0, by omega, rfl⟩, ⟨rfl, le4 rfl rfl rfl rfl trivial trivial trivial (by show (0 : Nat) < 1; decide)⟩, ?_⟩
  rintro ⟨k, hk, hf⟩
  by_cases hkl : k < l.length
  · obtain ⟨r, hr⟩ : ∃ r, r = l.getD k pktZ := ⟨_, rfl⟩
    have hrm : r ∈ l := by rw [hr]; simp [List.getD, hkl]
    obtain ⟨hro, hrp, hrd⟩ := hl.2 r hrm
    have hat := pkts_at l k hkl
    rw [← hr] at hat
    have hdr : l.drop k = r :: l.drop (k + 1) := by rw [List.drop_eq_getElem_cons hkl, hr]; simp [List.getD, hkl]
    have c0 : decide ((k : Int) < (l.length : Int)) = true := by simpa using hkl
    have hd3 : (k + 1) * 11 ≤ (pktsL l).length := by omega
    have w1 : IntKind.i64.wrap ((k : Int) + 1) = ((k + 1 : Nat) : Int) := by rw [i64_in (by omega) (by omega)]; omega
    have h0k : (0 : Int) ≤ (k : Int) := by omega
    rw [hdr, List.find?_cons] at hf
    simp only [firI, pktZ, c0, Int.toNat_natCast, hat, hd3, h0k, ac_skip, ac_seq, ac_block, ac_cond, ac_region, at_normal, ao_nil, ao_cons, if_t, as_alloc, as_store, as_binOp, as_load, as_fieldAddr, as_indexAddr, pktL, u8A, u16A, u32A, i64, boA, fr_false, List.contains_nil, beq_self_eq_true, Bool.and_self, hk_some, hopG, rd, aopsD, heapF, frzW, frzR, constT, evT, lk, putT, binF, loadF, cellsF, ovw, okCell, constA, cellA, TK.isAgg, Value.oneCell', List.length_cons, List.length_nil, List.getElem?_cons_zero, List.getElem?_cons_succ, List.drop_zero, List.drop_succ_cons, List.take_succ_cons, List.take_nil, List.set_cons_zero, List.set_cons_succ, List.nil_append, List.cons_append, List.all_cons, List.all_nil, Option.map_some, Nat.reduceAdd, Nat.reduceSub, Nat.reduceEqDiff, Nat.reduceLeDiff, Nat.succ_ne_zero, ne_eq, not_false_eq_true, true_and, and_self, eq_self, Bool.false_eq_true, ↓reduceIte, Nat.zero_add, Nat.zero_lt_succ, Nat.le_refl, TT3, TT23, TT84, TT87]
    cases c1 : decide (r.off = 0)
    · rw [show off0 r = false from c1] at hf
      simp only [w1, ac_skip, ac_region, at_normal, ab_normal, ao_nil, ao_cons, if_f, as_move, as_binOp, fr_false, List.contains_nil, beq_self_eq_true, hk_some, hopG, rd, aopsD, constT, evT, lk, putT, binF, constA, cellA, Option.map_some, Nat.reduceSub, Nat.reduceEqDiff, Nat.reduceLeDiff, true_and, eq_self, Bool.false_eq_true, ↓reduceIte, TT3]
      exact ⟨⟨k + 1, by omega, hf⟩, ⟨rfl, le4 rfl rfl rfl rfl trivial trivial trivial (by show (0 : Nat) < 1; decide)⟩, by show l.length - (k + 1) < l.length - k; omega⟩
    · rw [show off0 r = true from c1] at hf
      simp only [ac_ret, ac_seq, ac_region, at_normal, at_ret, ab_ret, ae_ret, ao_nil, ao_cons, if_t, as_store, as_assign, as_load, fr_false, fr_nil, fr_cons, List.contains_nil, beq_self_eq_true, Bool.and_self, hk_some, hopG, rd, aopsD, heapF, frzW, frzR, constT, evT, lk, putT, loadF, cellsF, ovw, okCell, resF, resL, constA, cellA, TK.isAgg, Value.oneCell', List.length_cons, List.length_nil, List.getElem?_cons_zero, List.getElem?_cons_succ, List.drop_zero, List.take_succ_cons, List.take_nil, List.set_cons_zero, List.set_cons_succ, List.all_cons, List.all_nil, Option.map_some, Option.bind_some, Nat.reduceAdd, Nat.reduceSub, Nat.reduceEqDiff, Nat.reduceLeDiff, true_and, and_true, and_self, eq_self, Bool.false_eq_true, ↓reduceIte, Nat.zero_add, Nat.le_refl, TT87]
      rw [hf]
      rfl
  · obtain rfl : k = l.length := by omega
    rw [List.drop_length] at hf
    have c0 : decide ((l.length : Int) < (l.length : Int)) = false := by simp
    simp only [firI, pktZ, c0, ac_exit, ac_ret, ac_seq, ac_cond, ac_region, at_normal, at_exit, ab_exit, ae_ret, ao_nil, ao_cons, if_f, as_store, as_assign, as_binOp, as_build, pktL, u8A, u16A, u32A, i64, boA, fr_false, fr_nil, fr_cons, List.contains_nil, beq_self_eq_true, Bool.and_self, hk_some, hopG, rd, aopsD, heapF, frzW, frzR, constT, evT, lk, putT, binF, loadF, cellsF, ovw, fillF, buildF, partsF, okCell, resF, resL, constA, cellA, TK.isAgg, Value.oneCell', List.length_cons, List.length_nil, List.map_nil, List.getElem?_cons_zero, List.drop_zero, List.take_succ_cons, List.take_nil, List.set_cons_zero, List.set_cons_succ, List.all_cons, List.all_nil, Option.map_some, Option.bind_some, Nat.reduceAdd, Nat.reduceSub, Nat.reduceEqDiff, Nat.reduceLeDiff, true_and, and_true, and_self, eq_self, Bool.false_eq_true, ↓reduceIte, Nat.zero_add, Nat.le_refl, TT3, TT87]
    rw [hf]
    rfl
structure JoK (l : List PktN) where
  k : Nat
  hk : k ≤ l.length
  ok : (l.take k).any (fun p => !likeB p (l.getD 0 pktZ)) = false
def joI (l : List PktN) (k : Nat) : AE := ⟨[(18, .v (i64 k)), (17, .v (i64 l.length)), (16, .v (.sl 11 (pktsL l))), (0, .v (.sl 11 (pktsL l))), (2, .p 0 0)], [(true, pktL pktZ)]⟩
set_option maxRecDepth 100000 in
set_option maxHeartbeats 2000000 in
theorem fgJoin_a (l : List PktN) (hl : pksOk l) : ASpec Try.prog 42 [.sl 11 (pktsL l)] (.tup [pktA (joinP l).1, i64 (joinP l).2]) := by
  have hpd := pkts_div l
  have hpl := pktsL_len l
  have hl1 := hl.1
  refine ASpec.of_body TT_ok Try.mixed _ [.cell 2 87, .tmp 3] ([], []) Try.func42 (by kernel_rfl) rfl rfl (by simp only [Try.ntmps42, List.length_cons, List.length_nil]; omega) rfl (by kernel_rfl) ?_
  simp only [hpd, argE_cons, argE_nil, ac_seq, ac_cond, ac_region, at_normal, ao_nil, ao_cons, as_alloc, as_move, as_assign, as_binOp, as_len, pktL, pktA, u8A, u16A, u32A, i64, boA, fr_false, List.contains_nil, beq_self_eq_true, hk_some, hopG, hopF, rd, aopsD, heapF, constT, evT, lk, putT, lenF, binF, constA, cellA, List.length_nil, List.nil_append, Option.map_some, Nat.reduceSub, Nat.reduceLeDiff, Nat.succ_ne_zero, true_and, eq_self, Bool.false_eq_true, ↓reduceIte, Nat.zero_add, Nat.zero_lt_succ, TT3, TT84, TT87]
  cases c1 : decide ((l.length : Int) = 0)
  · rw [dF] at c1
    have P1 : joinP l = if l.any (fun p => !likeB p (l.getD 0 pktZ)) = true then (pktZ, 2) else if (endP l).2 = 0 then joinN l (endP l).1.toNat else (pktZ, (endP l).2) := by rw [joinP, if_neg (by omega)]
    simp only [hpd, ac_skip, ac_seq, ac_block, ac_region, ac_loop, at_normal, ao_nil, ao_cons, if_f, as_move, as_len, fr_false, List.contains_nil, beq_self_eq_true, hk_some, hopG, hopF, rd, aopsD, constT, evT, lk, putT, lenF, constA, cellA, Nat.reduceSub, Nat.reduceLeDiff, Nat.succ_ne_zero, true_and, eq_self, Bool.false_eq_true, ↓reduceIte, Nat.zero_lt_succ, TT84]
    obtain ⟨q, hq⟩ : ∃ q, q = l.getD 0 pktZ := ⟨_, rfl⟩
    have hat0 := pkts_at l 0 (by omega)
    rw [Nat.zero_mul, List.drop_zero, ← hq] at hat0
    refine .inr ⟨JoK l, fun x => joI l x.k, fun x => l.length - x.k, ⟨0, by omega, by simp⟩, ⟨rfl, le5 rfl rfl rfl rfl rfl trivial trivial trivial trivial (by show (0 : Nat) < 1; decide)⟩, ?_⟩
    rintro ⟨k, hk, hok⟩
    by_cases hkl : k < l.length
    · obtain ⟨r, hr⟩ : ∃ r, r = l.getD k pktZ := ⟨_, rfl⟩
      have hrm : r ∈ l := by rw [hr]; simp [List.getD, hkl]
      obtain ⟨hro, hrp, hrd⟩ := hl.2 r hrm
      have hat := pkts_at l k hkl
      rw [← hr] at hat
      have hsn := any_snoc (fun p => !likeB p (l.getD 0 pktZ)) l k pktZ hkl
      rw [← hr, hok, Bool.false_or] at hsn
      have c0 : decide ((k : Int) < (l.length : Int)) = true := by simpa using hkl
      have hd3 : (k + 1) * 11 ≤ (pktsL l).length := by omega
      have hd0 : (0 + 1) * 11 ≤ (pktsL l).length := by omega
      have w1 : IntKind.i64.wrap ((k : Int) + 1) = ((k + 1 : Nat) : Int) := by rw [i64_in (by omega) (by omega)]; omega
      have h0k : (0 : Int) ≤ (k : Int) := by omega
      simp only [joI, pktZ, c0, Int.toNat_natCast, hat, hat0, hd0, hd3, h0k, ac_skip, ac_seq, ac_block, ac_cond, ac_region, at_normal, ao_nil, ao_cons, if_t, as_call, as_alloc, as_store, as_move, as_binOp, as_load, as_indexAddr, pktL, u8A, u16A, u32A, i64, boA, fr_false, List.contains_nil, Nat.reduceBEq, beq_self_eq_true, Bool.and_self, hk_some, hopG, rd, aopsD, heapF, frzW, frzR, tlN, constT, evT, lk, putT, binF, loadF, cellsF, ovw, argsF, okCell, constA, cellA, TK.isAgg, Value.oneCell', List.length_cons, List.length_nil, List.getElem?_cons_zero, List.getElem?_cons_succ, List.drop_zero, List.take_succ_cons, List.take_nil, List.set_cons_zero, List.set_cons_succ, List.nil_append, List.cons_append, List.all_cons, List.all_nil, Option.map_some, Nat.reduceAdd, Nat.reduceMul, Nat.reduceSub, Nat.reduceEqDiff, Nat.reduceLeDiff, Nat.succ_ne_zero, true_and, and_self, eq_self, Bool.false_eq_true, ↓reduceIte, Int.toNat_zero, Int.reduceLE, Nat.zero_mul, Nat.zero_add, Nat.zero_lt_succ, Nat.le_refl, TT3, TT84, TT87]
      repeat' (first
        | refine ACall.intro (fgLike_a r q) ?_
        | (simp only [ac_cond, at_normal, ao_nil, ao_cons, as_unOp, boA, Nat.reduceBEq, hk_some, hopG, rd, evT, lk, putT, unF, Option.map_some, Nat.reduceSub, true_and, eq_self, ↓reduceIte]))
      cases hlk : likeB r q
      · simp only [ac_ret, ac_seq, ac_region, at_normal, at_ret, ab_ret, ae_ret, ao_nil, ao_cons, if_t, as_store, as_assign, as_build, fr_false, fr_nil, fr_cons, List.contains_nil, beq_self_eq_true, Bool.and_self, hk_some, hopG, rd, aopsD, heapF, frzW, frzR, constT, evT, lk, putT, loadF, cellsF, ovw, fillF, buildF, partsF, okCell, resF, resL, constA, cellA, TK.isAgg, Value.oneCell', List.length_cons, List.length_nil, List.map_nil, List.getElem?_cons_zero, List.drop_zero, List.take_succ_cons, List.take_nil, List.set_cons_zero, List.set_cons_succ, List.all_cons, List.all_nil, Option.map_some, Option.bind_some, Nat.reduceAdd, Nat.reduceSub, Nat.reduceEqDiff, Nat.reduceLeDiff, true_and, and_true, and_self, eq_self, reduceCtorEq, Bool.false_eq_true, Bool.not_false, ↓reduceIte, Nat.zero_add, Nat.le_refl, TT87]
        have hbad : joinP l = (pktZ, 2) := by rw [P1, if_pos (any_at hkl (by show (!likeB _ (l.getD 0 pktZ)) = true; rw [← hr, ← hq, hlk]; rfl))]
        rw [hbad]
        rfl
      · simp only [w1, ac_skip, ac_region, at_normal, ab_normal, ao_nil, ao_cons, if_f, as_move, as_binOp, fr_false, List.contains_nil, beq_self_eq_true, hk_some, hopG, rd, aopsD, constT, evT, lk, putT, binF, constA, cellA, Option.map_some, Nat.reduceSub, Nat.reduceEqDiff, Nat.reduceLeDiff, true_and, eq_self, Bool.false_eq_true, Bool.not_true, ↓reduceIte, TT3]
        exact ⟨⟨k + 1, by omega, by rw [hsn, ← hq, hlk]; rfl⟩, ⟨rfl, le5 rfl rfl rfl rfl rfl trivial trivial trivial trivial (by show (0 : Nat) < 1; decide)⟩, by show l.length - (k + 1) < l.length - k; omega⟩
    · obtain rfl : k = l.length := by omega
      rw [List.take_length] at hok
      rw [hok, if_neg (by simp)] at P1
      have c0 : decide ((l.length : Int) < (l.length : Int)) = false := by simp
      simp only [joI, pktZ, c0, ac_exit, ac_seq, ac_cond, ac_region, at_normal, at_exit, ab_exit, ao_nil, ao_cons, if_f, as_call, as_move, as_binOp, pktL, u8A, u16A, u32A, i64, boA, fr_false, List.contains_nil, beq_self_eq_true, hk_some, hopG, rd, aopsD, frzW, frzR, evT, lk, putT, binF, argsF, Option.map_some, Nat.reduceSub, Nat.reduceEqDiff, Nat.reduceLeDiff, Nat.succ_ne_zero, true_and, eq_self, Bool.false_eq_true, ↓reduceIte, TT3]
      refine ACall.intro (fgEnd_a l hl) ?_
      simp only [ac_seq, ac_cond, ac_region, at_normal, ao_nil, ao_cons, as_move, as_assign, as_binOp, as_extract, i64, fr_false, List.contains_nil, beq_self_eq_true, hk_some, hopG, rd, aopsD, constT, evT, lk, putT, binF, constA, cellA, List.getElem?_cons_zero, List.getElem?_cons_succ, Option.map_some, Nat.reduceSub, Nat.reduceEqDiff, Nat.reduceLeDiff, true_and, eq_self, Bool.false_eq_true, ↓reduceIte, TT56]
      cases c2 : decide ((endP l).2 = 0)
      · rw [dF] at c2
        rw [if_neg c2] at P1
        simp only [ac_ret, ac_seq, ac_region, at_normal, at_ret, ae_ret, ao_nil, ao_cons, if_t, as_store, as_move, as_assign, as_build, fr_false, fr_nil, fr_cons, List.contains_nil, beq_self_eq_true, Bool.and_self, hk_some, hopG, rd, aopsD, heapF, frzW, frzR, evT, lk, putT, loadF, cellsF, ovw, fillF, buildF, partsF, okCell, resF, resL, TK.isAgg, Value.oneCell', List.length_cons, List.length_nil, List.map_nil, List.getElem?_cons_zero, List.drop_zero, List.take_succ_cons, List.take_nil, List.set_cons_zero, List.set_cons_succ, List.all_cons, List.all_nil, Option.map_some, Option.bind_some, Nat.reduceAdd, Nat.reduceSub, Nat.reduceEqDiff, Nat.reduceLeDiff, true_and, and_true, and_self, eq_self, reduceCtorEq, Bool.false_eq_true, Bool.not_false, ↓reduceIte, Nat.zero_add, Nat.le_refl, TT87]
        rw [P1]
        rfl
      · rw [dT] at c2
        rw [if_pos c2] at P1
        obtain ⟨h1, h2, h3⟩ := endP_ok hl c2
        obtain ⟨n, hn⟩ := Int.eq_ofNat_of_zero_le h1
        rw [hn, Int.toNat_natCast] at P1
        simp only [hn, ac_skip, ac_seq, ac_region, at_normal, ao_cons, if_f, as_call, as_move, fr_false, List.contains_nil, beq_self_eq_true, rd, aopsD, frzW, frzR, evT, lk, putT, argsF, Option.map_some, Nat.reduceSub, Nat.reduceEqDiff, Nat.reduceLeDiff, Nat.succ_ne_zero, eq_self, Bool.false_eq_true, Bool.not_true, ↓reduceIte]
        refine ACall.intro (fgLay_a l n hl (by omega) (by rw [← hn]; exact h3)) ?_
        simp only [ac_seq, ac_region, at_normal, ao_nil, ao_cons, as_call, as_move, as_assign, as_extract, boA, fr_false, List.contains_nil, beq_self_eq_true, hk_some, hopG, rd, aopsD, frzW, frzR, evT, lk, putT, argsF, List.getElem?_cons_zero, List.getElem?_cons_succ, Option.map_some, Nat.reduceSub, Nat.reduceEqDiff, Nat.reduceLeDiff, Nat.succ_ne_zero, true_and, eq_self, Bool.false_eq_true, ↓reduceIte]
        refine ACall.intro (fgFirst_a l hl) ?_
        simp only [ac_seq, ac_region, at_normal, ao_nil, ao_cons, ao_guard_f, as_alloc, as_store, as_move, as_assign, as_unOp, as_extract, pktL, pktA, u8A, u16A, u32A, boA, fr_false, List.contains_nil, beq_self_eq_true, Bool.and_self, hk_some, hopG, rd, aopsD, heapF, frzW, frzR, evT, lk, putT, GV, gdst, unF, cellsF, ovw, okCell, Value.oneCell', List.length_cons, List.length_nil, List.getElem?_cons_zero, List.getElem?_cons_succ, List.set_cons_zero, List.set_cons_succ, List.nil_append, List.cons_append, List.all_cons, List.all_nil, Option.map_some, Nat.reduceAdd, Nat.reduceSub, Nat.reduceEqDiff, Nat.reduceLeDiff, true_and, and_self, eq_self, Bool.false_eq_true, ↓reduceIte, Nat.zero_add, Nat.le_refl, TT87]
        rw [joinN] at P1
        cases c3 : decide (cnt n (cov l) = 0)
        · rw [dF] at c3
          rw [if_neg c3] at P1
          simp only [ac_ret, ac_seq, ac_cond, ac_region, at_normal, at_ret, ae_ret, ao_nil, ao_cons, ao_guard_f, sk_at, pk_at, if_t, as_pick, as_store, as_assign, as_build, fr_false, fr_nil, fr_cons, List.contains_nil, beq_self_eq_true, Bool.and_self, hk_some, hopG, rd, aopsD, heapF, frzW, frzR, constT, evT, lk, putT, GV, gdst, loadF, cellsF, ovw, fillF, buildF, partsF, okCell, resF, resL, constA, cellA, TK.isAgg, Value.oneCell', List.length_cons, List.length_nil, List.map_nil, List.getElem?_cons_zero, List.drop_zero, List.take_succ_cons, List.take_nil, List.set_cons_zero, List.set_cons_succ, List.all_cons, List.all_nil, Option.map_some, Option.bind_some, Nat.reduceAdd, Nat.reduceSub, Nat.reduceEqDiff, Nat.reduceLeDiff, true_and, and_true, and_self, eq_self, reduceCtorEq, Bool.false_eq_true, Bool.not_false, ↓reduceIte, Nat.zero_add, Nat.le_refl, TT87]
          rw [P1]
          rfl
        · rw [dT] at c3
          rw [if_pos c3] at P1
          cases c4 : l.find? off0 with
          | none =>
            simp only [c4] at P1
            simp only [Option.isSome, ac_ret, ac_seq, ac_cond, ac_region, at_normal, at_ret, ae_ret, ao_nil, ao_cons, ao_guard_f, st_at, pk_at, if_t, if_f, as_pick, as_store, as_move, as_assign, as_unOp, as_build, fr_false, fr_nil, fr_cons, List.contains_nil, beq_self_eq_true, Bool.and_self, hk_some, hopG, rd, aopsD, heapF, frzW, frzR, constT, evT, lk, putT, GV, gdst, unF, loadF, cellsF, ovw, fillF, buildF, partsF, okCell, resF, resL, constA, cellA, TK.isAgg, Value.oneCell', List.length_cons, List.length_nil, List.map_nil, List.getElem?_cons_zero, List.drop_zero, List.take_succ_cons, List.take_nil, List.set_cons_zero, List.set_cons_succ, List.all_cons, List.all_nil, Option.map_some, Option.bind_some, Nat.reduceAdd, Nat.reduceSub, Nat.reduceEqDiff, Nat.reduceLeDiff, true_and, and_true, and_self, eq_self, reduceCtorEq, Bool.false_eq_true, Bool.not_true, Bool.not_false, ↓reduceIte, Nat.zero_add, Nat.le_refl, TT87]
            rw [P1]
            rfl
          | some p =>
            simp only [c4] at P1
            have hpm := List.mem_of_find?_eq_some c4
            obtain ⟨hpo, hpp, hpd2⟩ := hl.2 p hpm
            simp only [Option.isSome, Option.getD, ac_skip, ac_seq, ac_cond, ac_region, at_normal, ao_nil, ao_cons, ao_guard_f, st_at, pk_at, if_f, as_pick, as_call, as_move, as_unOp, as_load, as_fieldAddr, as_buildSlice, fr_false, List.contains_nil, beq_self_eq_true, hk_some, hopG, rd, aopsD, frzW, frzR, evT, lk, putT, GV, gdst, unF, loadF, cellsF, ovw, fillF, makeSF, partsF, argsF, TK.isAgg, List.length_cons, List.length_nil, List.map_cons, List.map_nil, List.getElem?_cons_zero, List.getElem?_cons_succ, List.drop_zero, List.drop_succ_cons, List.set_cons_zero, List.replicate_succ, List.replicate_zero, List.flatten_cons, List.flatten_nil, List.append_nil, Option.map_some, Nat.reduceSub, Nat.reduceEqDiff, Nat.reduceLeDiff, Nat.succ_ne_zero, ne_eq, not_false_eq_true, true_and, and_self, eq_self, Bool.false_eq_true, Bool.not_true, ↓reduceIte, Nat.mul_one, Nat.zero_add, Nat.zero_lt_succ, Nat.le_refl, TT38, TT87, TT143]
            refine ACall.intro (join1_a p.opts (by omega)) ?_
            simp only [ac_seq, ac_region, at_normal, ao_nil, ao_cons, as_call, as_store, as_load, as_fieldAddr, fr_false, List.contains_nil, beq_self_eq_true, Bool.and_self, hk_some, hopG, rd, aopsD, heapF, frzW, frzR, constT, evT, lk, putT, loadF, cellsF, ovw, argsF, okCell, constA, cellA, TK.isAgg, Value.oneCell', List.length_cons, List.length_nil, List.getElem?_cons_zero, List.getElem?_cons_succ, List.drop_zero, List.take_succ_cons, List.take_nil, List.set_cons_zero, List.set_cons_succ, List.all_cons, List.all_nil, Option.map_some, Nat.reduceAdd, Nat.reduceSub, Nat.reduceEqDiff, Nat.reduceLeDiff, Nat.succ_ne_zero, ne_eq, not_false_eq_true, true_and, and_self, eq_self, Bool.false_eq_true, ↓reduceIte, Nat.zero_add, Nat.le_refl, TT4, TT23, TT38, TT87]
            refine ACall.intro (ipCheck_a (joinR p (lst n (cov l))) hpp (by show (lst n (cov l)).length ≤ 1000000; rw [lst_len]; omega)) ?_
            cases c5 : pktMay (joinR p (lst n (cov l)))
            · simp only [c5, Bool.false_eq_true, if_false] at P1
              simp only [ac_ret, ac_seq, ac_cond, ac_region, at_normal, at_ret, ae_ret, ao_nil, ao_cons, if_t, as_store, as_assign, as_binOp, as_build, i64, fr_false, fr_nil, fr_cons, List.contains_nil, beq_self_eq_true, decide_false, Bool.and_self, Int.reduceEq, hk_some, hopG, rd, aopsD, heapF, frzW, frzR, constT, evT, lk, putT, binF, loadF, cellsF, ovw, fillF, buildF, partsF, okCell, resF, resL, constA, cellA, TK.isAgg, Value.oneCell', List.length_cons, List.length_nil, List.map_nil, List.getElem?_cons_zero, List.drop_zero, List.take_succ_cons, List.take_nil, List.set_cons_zero, List.set_cons_succ, List.all_cons, List.all_nil, Option.map_some, Option.bind_some, Nat.reduceAdd, Nat.reduceSub, Nat.reduceEqDiff, Nat.reduceLeDiff, true_and, and_true, and_self, eq_self, reduceCtorEq, Bool.false_eq_true, Bool.not_false, ↓reduceIte, Nat.zero_add, Nat.le_refl, TT56, TT87]
              rw [P1]
              rfl
            · simp only [c5, if_true] at P1
              simp only [ac_skip, ac_ret, ac_seq, ac_cond, ac_region, at_normal, ae_ret, ao_nil, ao_cons, if_f, as_store, as_assign, as_binOp, as_load, i64, fr_false, fr_nil, fr_cons, List.contains_nil, beq_self_eq_true, decide_true, Bool.and_self, hk_some, hopG, rd, aopsD, heapF, frzW, frzR, constT, evT, lk, putT, binF, loadF, cellsF, ovw, okCell, resF, resL, constA, cellA, TK.isAgg, Value.oneCell', List.length_cons, List.length_nil, List.getElem?_cons_zero, List.getElem?_cons_succ, List.drop_zero, List.take_succ_cons, List.take_nil, List.set_cons_zero, List.set_cons_succ, List.all_cons, List.all_nil, Option.map_some, Option.bind_some, Nat.reduceAdd, Nat.reduceSub, Nat.reduceEqDiff, Nat.reduceLeDiff, true_and, and_true, and_self, eq_self, reduceCtorEq, Bool.false_eq_true, Bool.not_true, ↓reduceIte, Nat.zero_add, Nat.le_refl, TT56, TT87]
              rw [P1]
              rfl
  · rw [dT] at c1
    have P : joinP l = (pktZ, 15) := if_pos (by omega)
    simp only [ac_ret, ac_seq, ac_region, at_normal, at_ret, ae_ret, ao_nil, ao_cons, if_t, as_store, as_assign, as_build, fr_false, fr_nil, fr_cons, List.contains_nil, beq_self_eq_true, Bool.and_self, hk_some, hopG, rd, aopsD, heapF, frzW, frzR, constT, evT, lk, putT, loadF, cellsF, ovw, fillF, buildF, partsF, okCell, resF, resL, constA, cellA, TK.isAgg, Value.oneCell', List.length_cons, List.length_nil, List.map_nil, List.getElem?_cons_zero, List.drop_zero, List.take_succ_cons, List.take_nil, List.set_cons_zero, List.set_cons_succ, List.all_cons, List.all_nil, Option.map_some, Option.bind_some, Nat.reduceAdd, Nat.reduceSub, Nat.reduceEqDiff, Nat.reduceLeDiff, true_and, and_true, and_self, eq_self, Bool.false_eq_true, ↓reduceIte, Nat.zero_add, Nat.le_refl, TT87]
    rw [P]
    rfl
end Go.Proofs.Ythjojkkapboonaa
