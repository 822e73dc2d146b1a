/- The reference's Join, through its own text: first half. -/
import Derived.Test.YthjojkkapboonaaFI
namespace Go.Proofs.Ythjojkkapboonaa
set_option linter.unusedSimpArgs false
set_option linter.unusedVariables false
open Go.RowKit

def covJ (l : List PktN) (m k : Nat) (j : Nat) : Option UInt8 := (byteAt { l.getD m pktZ with data := (l.getD m pktZ).data.take k } j).or (cov (l.drop (m + 1)) j)
theorem covJ_0 (l : List PktN) (m : Nat) : covJ l m 0 = cov (l.drop (m + 1)) := by
  funext j
  have : byteAt { l.getD m pktZ with data := (l.getD m pktZ).data.take 0 } j = none := by simp [byteAt]
  rw [covJ, this, Option.none_or]
theorem covJ_all (l : List PktN) (m : Nat) (h : m < l.length) : covJ l m (l.getD m pktZ).data.length = cov (l.drop m) := by
  funext j
  rw [covJ, List.drop_eq_getElem_cons h, List.take_length, show l.getD m pktZ = l[m] by simp [List.getD, h]]
  simp only [cov, List.findSome?_cons]
  cases byteAt l[m] j <;> rfl
theorem covJ_step (l : List PktN) (m k : Nat) (h : k < (l.getD m pktZ).data.length) : covJ l m (k + 1) = updF (covJ l m k) ((l.getD m pktZ).off.toNat * 8 + k) ((l.getD m pktZ).data.getD k 0) := by
  funext j
  rw [covJ, byteAt_step _ k j h, updF]
  by_cases h1 : j = (l.getD m pktZ).off.toNat * 8 + k
  · rw [if_pos h1, if_pos h1]; rfl
  · rw [if_neg h1, if_neg h1, covJ]
def allN : Nat → (Nat → Option UInt8) → Bool
  | 0, _ => true
  | k + 1, F => allN k F && (F k).isSome
theorem allN_iff (F : Nat → Option UInt8) : ∀ n : Nat, allN n F = true ↔ ∀ j, j < n → (F j).isSome = true
  | 0 => by simp [allN]
  | n + 1 => by
    rw [allN, Bool.and_eq_true, allN_iff F n]
    constructor
    · rintro ⟨h, h1⟩ j hj
      by_cases e : j = n
      · rw [e]; exact h1
      · exact h j (by omega)
    · intro h
      exact ⟨fun j hj => h j (by omega), h n (by omega)⟩
theorem allN_cnt (F : Nat → Option UInt8) (n : Nat) : allN n F = decide (cnt n F = 0) := by
  rw [Bool.eq_iff_iff, allN_iff, decide_eq_true_eq, cnt_zero]
structure RJ1 (l : List PktN) where
  k : Nat
  a : Int
  b : Bool
  hk : k ≤ l.length
  ha : -1 ≤ a ∧ a ≤ 700000
  ok : (l.take k).any (fun p => !likeB p (l.getD 0 pktZ)) = false
  h : stF l (-1) false = stF (l.drop k) a b
def rj1I (l : List PktN) (k : Nat) (a : Int) (b : Bool) : AE := ⟨[(6, .v (i64 k)), (0, .v (.sl 11 (pktsL l))), (4, .v (i64 a)), (5, .v (boA b)), (2, .p 0 0)], [(true, pktL pktZ)]⟩
structure RJ2 (l : List PktN) (a : Int) where
  k : Nat
  hk : k ≤ l.length
def oddK (l : List PktN) (a : Int) (b : Bool) (k : Nat) : Bool := b || (l.take k).any (fun p => decide (0 ≤ a ∧ a < toP p))
def rj2I (l : List PktN) (k : Nat) (a : Int) (b : Bool) : AE := ⟨[(7, .v (i64 k)), (0, .v (.sl 11 (pktsL l))), (4, .v (i64 a)), (5, .v (boA (oddK l a b k))), (2, .p 0 0)], [(true, pktL pktZ)]⟩
structure RJ3 (l : List PktN) where
  m : Nat
  hm : m ≤ l.length
def rj3I (l : List PktN) (n m : Nat) : AE := ⟨[(10, .v (i64 ((m : Int) - 1))), (0, .v (.sl 11 (pktsL l))), (4, .v (i64 n)), (9, .v (boA ((l.drop m).find? off0).isSome)), (8, .p 1 0), (2, .p 0 0)], [(true, pktL pktZ), (true, pktL (((l.drop m).find? off0).getD pktZ))]⟩
def rj4I (l : List PktN) (n m : Nat) (o : Option PktN) (F : Nat → Option UInt8) : AE := ⟨[(13, .v (i64 ((m : Int) - 1))), (0, .v (.sl 11 (pktsL l))), (4, .v (i64 n)), (9, .v (boA o.isSome)), (8, .p 1 0), (2, .p 0 0), (11, .s 2 0 n), (12, .s 3 0 n)],
  [(true, pktL pktZ), (true, pktL (o.getD pktZ)), (true, bytesL (lst n F)), (true, boolsL (lsb n F))]⟩
structure RJk (r : PktN) where
  k : Nat
  hk : k ≤ r.data.length
def rjkI (l : List PktN) (n i k : Nat) (o : Option PktN) (F : Nat → Option UInt8) : AE := ⟨[(14, .v (i64 k)), (13, .v (i64 i)), (0, .v (.sl 11 (pktsL l))), (4, .v (i64 n)), (9, .v (boA o.isSome)), (8, .p 1 0), (2, .p 0 0), (11, .s 2 0 n), (12, .s 3 0 n)],
  [(true, pktL pktZ), (true, pktL (o.getD pktZ)), (true, bytesL (lst n F)), (true, boolsL (lsb n F))]⟩
structure RJ5 (n : Nat) where
  k : Nat
  hk : k ≤ n
def rj5I (n k : Nat) (o : Option PktN) (F : Nat → Option UInt8) : AE := ⟨[(15, .v (i64 k)), (4, .v (i64 n)), (9, .v (boA (o.isSome && allN k F))), (8, .p 1 0), (2, .p 0 0), (11, .s 2 0 n), (12, .s 3 0 n)],
  [(true, pktL pktZ), (true, pktL (o.getD pktZ)), (true, bytesL (lst n F)), (true, boolsL (lsb n F))]⟩
theorem likeB_split (p q : PktN) : likeB p q = (decide (p.id = q.id) && (decide (p.src = q.src) && (decide (p.dst = q.dst) && decide (p.proto = q.proto)))) := rfl
set_option maxRecDepth 100000 in
set_option maxHeartbeats 4000000 in
theorem refJoin43_a (l : List PktN) (hl : pksOk l) : ASpec Try.prog 43 [.sl 11 (pktsL l)] (.tup [pktA (joinP l).1, i64 (joinP l).2]) := by
  have hpd := pkts_div l
  have hpl := pktsL_len l
  have hl1 := hl.1
  refine ASpec.of_body TT_ok Try.mixed _ [.cell 2 87, .tmp 3] ([], []) Try.func43 (by kernel_rfl) rfl rfl (by simp only [Try.ntmps43, List.length_cons, List.length_nil]; omega) rfl (by kernel_rfl) ?_
  simp only [hpd, argE_cons, argE_nil, ac_seq, ac_cond, ac_region, at_normal, ao_nil, ao_cons, as_alloc, as_move, as_assign, as_binOp, as_len, pktL, pktA, u8A, u16A, u32A, i64, boA, fr_false, List.contains_nil, beq_self_eq_true, hk_some, hopG, hopF, rd, aopsD, heapF, constT, evT, lk, putT, lenF, binF, constA, cellA, List.length_nil, List.nil_append, Option.map_some, Nat.reduceSub, Nat.reduceLeDiff, Nat.succ_ne_zero, true_and, eq_self, Bool.false_eq_true, ↓reduceIte, Int.reduceNeg, Nat.zero_add, Nat.zero_lt_succ, TT3, TT84, TT87]
  cases c1 : decide ((l.length : Int) = 0)
  · rw [dF] at c1
    have P1 : joinP l = if l.any (fun p => !likeB p (l.getD 0 pktZ)) = true then (pktZ, 2) else if (endP l).2 = 0 then joinN l (endP l).1.toNat else (pktZ, (endP l).2) := by rw [joinP, if_neg (by omega)]
    obtain ⟨q, hq⟩ : ∃ q, q = l.getD 0 pktZ := ⟨_, rfl⟩
    have hat0 := pkts_at l 0 (by omega)
    rw [Nat.zero_mul, List.drop_zero, ← hq] at hat0
    simp only [ac_skip, ac_seq, ac_block, ac_region, ac_loop, at_normal, ao_nil, ao_cons, if_f, as_assign, fr_false, List.contains_nil, beq_self_eq_true, aopsD, constT, evT, putT, constA, cellA, Nat.reduceSub, Nat.reduceLeDiff, Bool.false_eq_true, ↓reduceIte, Int.reduceNeg]
    refine .inr ⟨RJ1 l, fun x => rj1I l x.k x.a x.b, fun x => l.length - x.k, ⟨0, -1, false, by omega, by omega, by simp, rfl⟩, ⟨rfl, le5 rfl rfl rfl rfl rfl trivial trivial trivial trivial (by show (0 : Nat) < 1; decide)⟩, ?_⟩
    rintro ⟨k, a, b, hk, ha, hok, hst⟩
    by_cases hkl : k < l.length
    · obtain ⟨r, hr⟩ : ∃ r, r = l.getD k pktZ := ⟨_, rfl⟩
      have hrm : r ∈ l := by rw [hr]; simp [List.getD, hkl]
      obtain ⟨hro, hrp, hrd⟩ := hl.2 r hrm
      have hat := pkts_at l k hkl
      rw [← hr] at hat
      have hdr : l.drop k = r :: l.drop (k + 1) := by rw [List.drop_eq_getElem_cons hkl, hr]; simp [List.getD, hkl]
      rw [hdr, stF] at hst
      have hoff := hro.off
      have hto : toP r = r.off * 8 + r.data.length := rfl
      have htb := toP_bd hl hrm
      have hsn := any_snoc (fun p => !likeB p (l.getD 0 pktZ)) l k pktZ hkl
      rw [← hr, hok, Bool.false_or, ← hq] at hsn
      have hbad : likeB r q = false → joinP l = (pktZ, 2) := fun h => by rw [P1, if_pos (any_at hkl (by show (!likeB _ (l.getD 0 pktZ)) = true; rw [← hr, ← hq, h]; rfl))]
      have c0 : decide ((k : Int) < (l.length : Int)) = true := by simpa using hkl
      have hkI : (k : Int) < (l.length : Int) := by omega
      have hlI : (0 : Int) < (l.length : Int) := by omega
      have hd3 : (k + 1) * 11 ≤ (pktsL l).length := by omega
      have hd0 : 1 * 11 ≤ (pktsL l).length := by omega
      have w1 : IntKind.i64.wrap ((k : Int) + 1) = ((k + 1 : Nat) : Int) := by rw [i64_in (by omega) (by omega)]; omega
      have w2 : ((r.data.length : Int)).tmod 8 = ((r.data.length % 8 : Nat) : Int) := by rw [tmodN (by omega)]; omega
      have h0k : (0 : Int) ≤ (k : Int) := by omega
      simp only [rj1I, pktZ, hpd, Int.toNat_natCast, hat, hat0, hd0, hd3, h0k, hkI, ac_skip, ac_seq, ac_block, ac_cond, ac_region, at_normal, ao_nil, ao_cons, ao_guard_f, if_t, as_move, as_binOp, as_load, as_fieldAddr, as_indexAddr, as_len, pktL, u8A, u16A, u32A, i64, boA, fr_false, List.contains_nil, Nat.reduceBEq, beq_self_eq_true, decide_true, hk_some, hopG, hopF, rd, aopsD, tlN, constT, evT, lk, putT, GV, gdst, lenF, binF, loadF, constA, cellA, TK.isAgg, List.length_cons, List.length_nil, List.getElem?_cons_zero, List.getElem?_cons_succ, List.drop_zero, List.drop_succ_cons, Option.map_some, Nat.reduceAdd, Nat.reduceMul, Nat.reduceSub, Nat.reduceEqDiff, Nat.reduceLT, Nat.reduceLeDiff, Nat.succ_ne_zero, ne_eq, not_false_eq_true, true_and, and_self, eq_self, Bool.false_eq_true, ↓reduceIte, Int.toNat_zero, Int.reduceLE, Nat.zero_mul, Nat.zero_add, Nat.zero_lt_succ, TT3, TT23, TT84, TT87]
      cases d1 : decide (r.id = q.id)
      · simp only [ac_ret, ac_seq, ac_cond, ac_region, at_normal, at_ret, ab_ret, ae_ret, ao_nil, ao_cons, ao_guard_f, sk_at, pk_at, if_t, as_pick, as_store, as_move, as_assign, as_build, fr_false, fr_nil, fr_cons, List.contains_nil, Nat.reduceBEq, beq_self_eq_true, Bool.and_self, hk_some, hopG, rd, aopsD, heapF, frzW, frzR, constT, evT, lk, putT, GV, gdst, loadF, cellsF, ovw, fillF, buildF, partsF, okCell, resF, resL, constA, cellA, TK.isAgg, Value.oneCell', List.length_cons, List.length_nil, List.map_nil, List.getElem?_cons_zero, List.drop_zero, List.take_succ_cons, List.take_nil, List.set_cons_zero, List.set_cons_succ, List.all_cons, List.all_nil, Option.map_some, Option.bind_some, Nat.reduceAdd, Nat.reduceSub, Nat.reduceEqDiff, Nat.reduceLeDiff, true_and, and_true, and_self, eq_self, reduceCtorEq, Bool.false_eq_true, Bool.not_false, ↓reduceIte, Nat.zero_add, Nat.le_refl, TT87]
        rw [hbad (by rw [likeB_split, d1]; rfl)]
        rfl
      · simp only [Int.toNat_natCast, hat, hat0, hd0, hd3, h0k, ao_cons, ao_guard_f, st_at, pk_at, if_f, as_pick, as_move, as_binOp, as_load, as_fieldAddr, as_indexAddr, pktL, u8A, u16A, u32A, boA, Nat.reduceBEq, hk_some, hopG, rd, constT, evT, lk, putT, GV, gdst, binF, loadF, constA, cellA, TK.isAgg, List.length_cons, List.length_nil, List.getElem?_cons_zero, List.getElem?_cons_succ, List.drop_zero, List.drop_succ_cons, Option.map_some, Nat.reduceAdd, Nat.reduceMul, Nat.reduceSub, Nat.reduceEqDiff, Nat.reduceLT, Nat.succ_ne_zero, ne_eq, not_false_eq_true, true_and, and_self, eq_self, Bool.false_eq_true, Bool.not_true, ↓reduceIte, Int.toNat_zero, Int.reduceLE, Nat.zero_mul, Nat.zero_add, Nat.zero_lt_succ, TT22, TT84, TT87]
        cases d2 : decide (r.src = q.src)
        · simp only [ac_ret, ac_seq, ac_cond, ac_region, at_normal, at_ret, ab_ret, ae_ret, ao_nil, ao_cons, ao_guard_f, sk_at, pk_at, if_t, as_pick, as_store, as_move, as_assign, as_build, fr_false, fr_nil, fr_cons, List.contains_nil, Nat.reduceBEq, beq_self_eq_true, Bool.and_self, hk_some, hopG, rd, aopsD, heapF, frzW, frzR, constT, evT, lk, putT, GV, gdst, loadF, cellsF, ovw, fillF, buildF, partsF, okCell, resF, resL, constA, cellA, TK.isAgg, Value.oneCell', List.length_cons, List.length_nil, List.map_nil, List.getElem?_cons_zero, List.drop_zero, List.take_succ_cons, List.take_nil, List.set_cons_zero, List.set_cons_succ, List.all_cons, List.all_nil, Option.map_some, Option.bind_some, Nat.reduceAdd, Nat.reduceSub, Nat.reduceEqDiff, Nat.reduceLeDiff, true_and, and_true, and_self, eq_self, reduceCtorEq, Bool.false_eq_true, Bool.not_false, ↓reduceIte, Nat.zero_add, Nat.le_refl, TT87]
          rw [hbad (by rw [likeB_split, d1, d2]; rfl)]
          rfl
        · simp only [Int.toNat_natCast, hat, hat0, hd0, hd3, h0k, ao_cons, ao_guard_f, st_at, pk_at, if_f, as_pick, as_move, as_binOp, as_load, as_fieldAddr, as_indexAddr, pktL, u8A, u16A, u32A, boA, Nat.reduceBEq, hk_some, hopG, rd, constT, evT, lk, putT, GV, gdst, binF, loadF, constA, cellA, TK.isAgg, List.length_cons, List.length_nil, List.getElem?_cons_zero, List.getElem?_cons_succ, List.drop_zero, List.drop_succ_cons, Option.map_some, Nat.reduceAdd, Nat.reduceMul, Nat.reduceSub, Nat.reduceEqDiff, Nat.reduceLT, Nat.succ_ne_zero, ne_eq, not_false_eq_true, true_and, and_self, eq_self, Bool.false_eq_true, Bool.not_true, ↓reduceIte, Int.toNat_zero, Int.reduceLE, Nat.zero_mul, Nat.zero_add, Nat.zero_lt_succ, TT22, TT84, TT87]
          cases d3 : decide (r.dst = q.dst)
          · simp only [ac_ret, ac_seq, ac_cond, ac_region, at_normal, at_ret, ab_ret, ae_ret, ao_nil, ao_cons, ao_guard_f, sk_at, pk_at, if_t, as_pick, as_store, as_assign, as_build, fr_false, fr_nil, fr_cons, List.contains_nil, Nat.reduceBEq, beq_self_eq_true, Bool.and_self, hk_some, hopG, rd, aopsD, heapF, frzW, frzR, constT, evT, lk, putT, GV, gdst, loadF, cellsF, ovw, fillF, buildF, partsF, okCell, resF, resL, constA, cellA, TK.isAgg, Value.oneCell', List.length_cons, List.length_nil, List.map_nil, List.getElem?_cons_zero, List.drop_zero, List.take_succ_cons, List.take_nil, List.set_cons_zero, List.set_cons_succ, List.all_cons, List.all_nil, Option.map_some, Option.bind_some, Nat.reduceAdd, Nat.reduceSub, Nat.reduceEqDiff, Nat.reduceLeDiff, true_and, and_true, and_self, eq_self, reduceCtorEq, Bool.false_eq_true, Bool.not_false, ↓reduceIte, Nat.zero_add, Nat.le_refl, TT87]
            rw [hbad (by rw [likeB_split, d1, d2, d3]; rfl)]
            rfl
          · simp only [Int.toNat_natCast, hat, hat0, hd0, hd3, h0k, ac_cond, at_normal, ao_nil, ao_cons, ao_guard_f, st_at, pk_at, if_f, as_pick, as_move, as_binOp, as_load, as_fieldAddr, as_indexAddr, pktL, u8A, u16A, u32A, boA, Nat.reduceBEq, hk_some, hopG, rd, constT, evT, lk, putT, GV, gdst, binF, loadF, constA, cellA, TK.isAgg, List.length_cons, List.length_nil, List.getElem?_cons_zero, List.getElem?_cons_succ, List.drop_zero, List.drop_succ_cons, Option.map_some, Nat.reduceAdd, Nat.reduceMul, Nat.reduceSub, Nat.reduceEqDiff, Nat.reduceLT, Nat.succ_ne_zero, ne_eq, not_false_eq_true, true_and, and_self, eq_self, Bool.false_eq_true, Bool.not_true, ↓reduceIte, Int.toNat_zero, Int.reduceLE, Nat.zero_mul, Nat.zero_add, Nat.zero_lt_succ, TT5, TT84, TT87]
            cases d4 : decide (r.proto = q.proto)
            · simp only [ac_ret, ac_seq, ac_region, at_normal, at_ret, ab_ret, ae_ret, ao_nil, ao_cons, if_t, as_store, as_assign, as_build, fr_false, fr_nil, fr_cons, List.contains_nil, beq_self_eq_true, Bool.and_self, hk_some, hopG, rd, aopsD, heapF, frzW, frzR, constT, evT, lk, putT, loadF, cellsF, ovw, fillF, buildF, partsF, okCell, resF, resL, constA, cellA, TK.isAgg, Value.oneCell', List.length_cons, List.length_nil, List.map_nil, List.getElem?_cons_zero, List.drop_zero, List.take_succ_cons, List.take_nil, List.set_cons_zero, List.set_cons_succ, List.all_cons, List.all_nil, Option.map_some, Option.bind_some, Nat.reduceAdd, Nat.reduceSub, Nat.reduceEqDiff, Nat.reduceLeDiff, true_and, and_true, and_self, eq_self, reduceCtorEq, Bool.false_eq_true, Bool.not_false, ↓reduceIte, Nat.zero_add, Nat.le_refl, TT87]
              rw [hbad (by rw [likeB_split, d1, d2, d3, d4]; rfl)]
              rfl
            · simp only [Int.toNat_natCast, hat, hd3, h0k, ac_skip, ac_seq, ac_cond, ac_region, at_normal, ao_nil, ao_cons, if_f, as_move, as_load, as_fieldAddr, as_indexAddr, pktL, u8A, u16A, u32A, boA, fr_false, List.contains_nil, beq_self_eq_true, hk_some, hopG, rd, aopsD, evT, lk, putT, loadF, TK.isAgg, List.length_cons, List.length_nil, List.getElem?_cons_zero, List.getElem?_cons_succ, List.drop_zero, List.drop_succ_cons, Option.map_some, Nat.reduceAdd, Nat.reduceSub, Nat.reduceEqDiff, Nat.reduceLT, Nat.reduceLeDiff, Nat.succ_ne_zero, ne_eq, not_false_eq_true, true_and, and_self, eq_self, Bool.false_eq_true, Bool.not_true, ↓reduceIte, Nat.zero_add, Nat.zero_lt_succ, TT4, TT84, TT87]
              have hlk : likeB r q = true := by rw [likeB_split, d1, d2, d3, d4]; rfl
              cases hmf : r.mf
              · rw [hmf, if_neg (by simp)] at hst
                simp only [ac_skip, ac_seq, ac_region, at_normal, ao_cons, ao_guard_f, if_f, as_move, fr_false, List.contains_nil, beq_self_eq_true, aopsD, evT, lk, putT, GV, gdst, Nat.reduceSub, Nat.reduceEqDiff, Nat.reduceLeDiff, eq_self, reduceCtorEq, Bool.false_eq_true, ↓reduceIte]
                cases b with
                | true =>
                  rw [Bool.true_or] at hst
                  simp only [Int.toNat_natCast, hat, hd3, h0k, ac_region, at_normal, ao_nil, ao_cons, ao_guard_t, ao_guard_f, sk_at, pk_at, if_t, as_pick, as_call, as_move, as_assign, as_load, as_indexAddr, pktL, u8A, u16A, u32A, boA, fr_false, List.contains_nil, beq_self_eq_true, hk_some, hopG, rd, aopsD, frzW, frzR, constT, evT, lk, putT, GV, gdst, loadF, argsF, constA, cellA, TK.isAgg, List.length_cons, List.length_nil, List.take_succ_cons, List.take_nil, Option.map_some, Nat.reduceAdd, Nat.reduceSub, Nat.reduceEqDiff, Nat.reduceLeDiff, Nat.succ_ne_zero, true_and, and_self, eq_self, Bool.false_eq_true, ↓reduceIte, Nat.zero_add, Nat.zero_lt_succ, Nat.le_refl, TT84, TT87]
                  refine ACall.intro (refEnd43_a r hoff (by omega)) ?_
                  simp only [w1, ac_region, at_normal, ab_normal, ao_nil, ao_cons, as_move, as_assign, as_binOp, i64, fr_false, List.contains_nil, beq_self_eq_true, hk_some, hopG, rd, aopsD, constT, evT, lk, putT, binF, constA, cellA, Option.map_some, Nat.reduceSub, Nat.reduceEqDiff, Nat.reduceLeDiff, true_and, eq_self, Bool.false_eq_true, ↓reduceIte, TT3]
                  exact ⟨⟨k + 1, toP r, true, by omega, by omega, by rw [← hq, hsn, hlk]; rfl, hst⟩, ⟨rfl, le5 rfl rfl rfl rfl rfl trivial trivial trivial trivial (by show (0 : Nat) < 1; decide)⟩, by show l.length - (k + 1) < l.length - k; omega⟩

                | false =>
                  rw [Bool.false_or] at hst
                  simp only [ao_guard_t, ao_guard_f, st_at, if_f, as_move, as_binOp, beq_self_eq_true, hk_some, hopG, rd, constT, evT, lk, putT, GV, gdst, binF, constA, cellA, Option.map_some, Nat.reduceSub, Nat.reduceEqDiff, true_and, eq_self, reduceCtorEq, ↓reduceIte, TT3]
                  cases e1 : decide ((0 : Int) ≤ a)
                  · rw [dF] at e1
                    rw [decide_eq_false (by omega)] at hst
                    simp only [Int.toNat_natCast, hat, hd3, h0k, ac_region, at_normal, ao_nil, ao_cons, ao_guard_t, ao_guard_f, st_at, sk_at, pk_at, if_f, as_pick, as_call, as_move, as_assign, as_load, as_indexAddr, pktL, u8A, u16A, u32A, boA, fr_false, List.contains_nil, beq_self_eq_true, hk_some, hopG, rd, aopsD, frzW, frzR, constT, evT, lk, putT, GV, gdst, loadF, argsF, constA, cellA, TK.isAgg, List.length_cons, List.length_nil, List.take_succ_cons, List.take_nil, Option.map_some, Nat.reduceAdd, Nat.reduceSub, Nat.reduceEqDiff, Nat.reduceLeDiff, Nat.succ_ne_zero, true_and, and_self, eq_self, Bool.false_eq_true, ↓reduceIte, Nat.zero_add, Nat.zero_lt_succ, Nat.le_refl, TT84, TT87]
                    refine ACall.intro (refEnd43_a r hoff (by omega)) ?_
                    simp only [w1, ac_region, at_normal, ab_normal, ao_nil, ao_cons, as_move, as_assign, as_binOp, i64, fr_false, List.contains_nil, beq_self_eq_true, hk_some, hopG, rd, aopsD, constT, evT, lk, putT, binF, constA, cellA, Option.map_some, Nat.reduceSub, Nat.reduceEqDiff, Nat.reduceLeDiff, true_and, eq_self, Bool.false_eq_true, ↓reduceIte, TT3]
                    exact ⟨⟨k + 1, toP r, false, by omega, by omega, by rw [← hq, hsn, hlk]; rfl, hst⟩, ⟨rfl, le5 rfl rfl rfl rfl rfl trivial trivial trivial trivial (by show (0 : Nat) < 1; decide)⟩, by show l.length - (k + 1) < l.length - k; omega⟩

                  · rw [dT] at e1
                    simp only [Int.toNat_natCast, hat, hd3, h0k, ao_guard_t, st_at, if_t, as_call, as_move, as_load, as_indexAddr, pktL, u8A, u16A, u32A, boA, beq_self_eq_true, hk_some, hopG, rd, frzW, frzR, evT, lk, putT, GV, gdst, loadF, argsF, TK.isAgg, List.length_cons, List.length_nil, List.take_succ_cons, List.take_nil, Option.map_some, Nat.reduceAdd, Nat.reduceSub, Nat.reduceEqDiff, Nat.succ_ne_zero, true_and, and_self, eq_self, reduceCtorEq, ↓reduceIte, Nat.zero_add, Nat.zero_lt_succ, Nat.le_refl, TT84, TT87]
                    refine ACall.intro (refEnd43_a r hoff (by omega)) ?_
                    simp only [Int.toNat_natCast, hat, hd3, h0k, ac_region, at_normal, ao_nil, ao_cons, ao_guard_t, ao_guard_f, st_at, pk_at, if_t, if_f, as_pick, as_call, as_move, as_assign, as_binOp, as_load, as_indexAddr, pktL, u8A, u16A, u32A, i64, boA, fr_false, List.contains_nil, beq_self_eq_true, hk_some, hopG, rd, aopsD, frzW, frzR, evT, lk, putT, GV, gdst, binF, loadF, argsF, TK.isAgg, List.length_cons, List.length_nil, List.take_succ_cons, List.take_nil, Option.map_some, Nat.reduceAdd, Nat.reduceSub, Nat.reduceEqDiff, Nat.reduceLeDiff, Nat.succ_ne_zero, true_and, and_self, eq_self, Bool.false_eq_true, ↓reduceIte, Nat.zero_add, Nat.zero_lt_succ, Nat.le_refl, TT3, TT84, TT87]
                    refine ACall.intro (refEnd43_a r hoff (by omega)) ?_
                    simp only [w1, ac_region, at_normal, ab_normal, ao_nil, ao_cons, as_move, as_assign, as_binOp, i64, fr_false, List.contains_nil, beq_self_eq_true, hk_some, hopG, rd, aopsD, constT, evT, lk, putT, binF, constA, cellA, Option.map_some, Nat.reduceSub, Nat.reduceEqDiff, Nat.reduceLeDiff, true_and, eq_self, Bool.false_eq_true, ↓reduceIte, TT3]
                    have e2 : decide (0 ≤ a ∧ ¬ a = toP r) = !decide (a = r.off * 8 + (r.data.length : Int)) := by rw [hto, ← decide_not]; congr 1; apply propext; exact ⟨fun h => h.2, fun h => ⟨e1, h⟩⟩
                    rw [e2] at hst
                    exact ⟨⟨k + 1, toP r, (!decide (a = r.off * 8 + (r.data.length : Int))), by omega, by omega, by rw [← hq, hsn, hlk]; rfl, hst⟩, ⟨rfl, le5 rfl rfl rfl rfl rfl trivial trivial trivial trivial (by show (0 : Nat) < 1; decide)⟩, by show l.length - (k + 1) < l.length - k; omega⟩

              · rw [hmf, if_pos rfl] at hst
                simp only [ac_seq, ac_region, ao_cons, ao_guard_f, if_t, as_move, fr_false, List.contains_nil, beq_self_eq_true, aopsD, evT, lk, putT, GV, gdst, Nat.reduceSub, Nat.reduceEqDiff, Nat.reduceLeDiff, eq_self, reduceCtorEq, Bool.false_eq_true, ↓reduceIte]
                cases b with
                | true =>
                  rw [Bool.true_or] at hst
                  simp only [w1, ac_exit, ac_region, at_normal, at_exit, ab_exit, ao_nil, ao_cons, ao_guard_f, sk_at, pk_at, if_t, as_pick, as_move, as_assign, as_binOp, fr_false, List.contains_nil, beq_self_eq_true, hk_some, hopG, rd, aopsD, constT, evT, lk, putT, GV, gdst, binF, constA, cellA, Option.map_some, Nat.reduceSub, Nat.reduceEqDiff, Nat.reduceLeDiff, true_and, eq_self, Bool.false_eq_true, ↓reduceIte, TT3]
                  exact ⟨⟨k + 1, a, true, by omega, by omega, by rw [← hq, hsn, hlk]; rfl, hst⟩, ⟨rfl, le5 rfl rfl rfl rfl rfl trivial trivial trivial trivial (by show (0 : Nat) < 1; decide)⟩, by show l.length - (k + 1) < l.length - k; omega⟩

                | false =>
                  rw [Bool.false_or] at hst
                  simp only [Int.toNat_natCast, hat, hd3, h0k, ao_cons, ao_guard_f, st_at, pk_at, if_f, as_pick, as_move, as_binOp, as_load, as_fieldAddr, as_indexAddr, as_len, pktL, u8A, u16A, u32A, boA, beq_self_eq_true, hk_some, hopG, hopF, rd, constT, evT, lk, putT, GV, gdst, lenF, binF, loadF, constA, cellA, TK.isAgg, List.length_cons, List.length_nil, List.getElem?_cons_zero, List.getElem?_cons_succ, List.drop_zero, List.drop_succ_cons, Option.map_some, Nat.reduceAdd, Nat.reduceSub, Nat.reduceEqDiff, Nat.reduceLT, Nat.succ_ne_zero, ne_eq, not_false_eq_true, true_and, and_self, eq_self, Bool.false_eq_true, ↓reduceIte, Nat.zero_add, Nat.zero_lt_succ, TT3, TT38, TT84, TT87]
                  cases e1 : decide ((r.data.length : Int) = 0)
                  · rw [dF] at e1
                    have e2 : badM r = decide ((0 : Int) < ((r.data.length % 8 : Nat) : Int)) := by
                      rw [badM, hmf, Bool.true_and, decide_eq_false (show ¬ r.data.length = 0 by omega), Bool.false_or]
                      congr 1; apply propext; omega
                    rw [e2] at hst
                    simp only [Int.toNat_natCast, hat, hd3, h0k, w2, w1, ac_exit, ac_region, at_normal, at_exit, ab_exit, ao_nil, ao_cons, ao_guard_f, st_at, pk_at, if_f, as_pick, as_move, as_assign, as_binOp, as_load, as_fieldAddr, as_indexAddr, as_len, pktL, u8A, u16A, u32A, boA, fr_false, List.contains_nil, beq_self_eq_true, Int.reduceEq, hk_some, hopG, hopF, rd, aopsD, constT, evT, lk, putT, GV, gdst, lenF, binF, loadF, constA, cellA, TK.isAgg, List.length_cons, List.length_nil, List.getElem?_cons_zero, List.getElem?_cons_succ, List.drop_zero, List.drop_succ_cons, Option.map_some, Nat.reduceAdd, Nat.reduceSub, Nat.reduceEqDiff, Nat.reduceLT, Nat.reduceLeDiff, Nat.succ_ne_zero, ne_eq, not_false_eq_true, true_and, and_self, eq_self, Bool.false_eq_true, ↓reduceIte, Nat.zero_add, Nat.zero_lt_succ, TT3, TT38, TT84, TT87]
                    exact ⟨⟨k + 1, a, (decide ((0 : Int) < ((r.data.length % 8 : Nat) : Int))), by omega, by omega, by rw [← hq, hsn, hlk]; rfl, hst⟩, ⟨rfl, le5 rfl rfl rfl rfl rfl trivial trivial trivial trivial (by show (0 : Nat) < 1; decide)⟩, by show l.length - (k + 1) < l.length - k; omega⟩

                  · rw [dT] at e1
                    have e2 : badM r = true := by rw [badM, hmf, Bool.true_and, decide_eq_true (show r.data.length = 0 by omega), Bool.true_or]
                    rw [e2] at hst
                    simp only [w1, ac_exit, ac_region, at_normal, at_exit, ab_exit, ao_nil, ao_cons, ao_guard_f, sk_at, pk_at, if_t, as_pick, as_move, as_assign, as_binOp, fr_false, List.contains_nil, beq_self_eq_true, hk_some, hopG, rd, aopsD, constT, evT, lk, putT, GV, gdst, binF, constA, cellA, Option.map_some, Nat.reduceSub, Nat.reduceEqDiff, Nat.reduceLeDiff, true_and, eq_self, Bool.false_eq_true, ↓reduceIte, TT3]
                    exact ⟨⟨k + 1, a, true, by omega, by omega, by rw [← hq, hsn, hlk]; rfl, hst⟩, ⟨rfl, le5 rfl rfl rfl rfl rfl trivial trivial trivial trivial (by show (0 : Nat) < 1; decide)⟩, by show l.length - (k + 1) < l.length - k; omega⟩

    · obtain rfl : k = l.length := by omega
      rw [List.drop_length, stF] at hst
      rw [List.take_length] at hok
      rw [hok, if_neg (by simp), endP_st, hst] at P1
      obtain ⟨B, hB⟩ : ∃ B, B = (b || l.any fun p => decide (0 ≤ a ∧ a < toP p)) := ⟨_, rfl⟩
      simp only [← hB] at P1
      have P2 : joinP l = if B = true then (pktZ, 3) else if a < 0 then (pktZ, 8) else joinN l a.toNat := by
        rw [P1]
        cases B <;> by_cases h2 : a < 0 <;> simp [h2]
      have c0 : decide ((l.length : Int) < (l.length : Int)) = false := by simp
      simp only [rj1I, pktZ, hpd, c0, ac_exit, ac_seq, ac_block, ac_cond, ac_region, ac_loop, at_normal, at_exit, ab_exit, ao_nil, ao_cons, if_f, as_move, as_assign, as_binOp, as_len, pktL, u8A, u16A, u32A, i64, boA, fr_false, List.contains_nil, beq_self_eq_true, hk_some, hopG, hopF, rd, aopsD, constT, evT, lk, putT, lenF, binF, constA, cellA, Option.map_some, Nat.reduceSub, Nat.reduceEqDiff, Nat.reduceLeDiff, Nat.succ_ne_zero, true_and, eq_self, Bool.false_eq_true, ↓reduceIte, Nat.zero_lt_succ, TT3, TT84]
      refine .inr ⟨RJ2 l a, fun x => rj2I l x.k a b, fun x => l.length - x.k, ⟨0, by omega⟩, ⟨rfl, le5 rfl rfl rfl (by rw [oddK, List.take_zero, List.any_nil, Bool.or_false]; rfl) rfl trivial trivial trivial trivial (by show (0 : Nat) < 1; decide)⟩, ?_⟩
      rintro ⟨k, hk⟩
      by_cases hkl : k < l.length
      · obtain ⟨r, hr⟩ : ∃ r, r = l.getD k pktZ := ⟨_, rfl⟩
        have hrm : r ∈ l := by rw [hr]; simp [List.getD, hkl]
        obtain ⟨hro, hrp, hrd⟩ := hl.2 r hrm
        have hat := pkts_at l k hkl
        rw [← hr] at hat
        have hoff := hro.off
        have hto : toP r = r.off * 8 + r.data.length := rfl
        have hsn := any_snoc (fun p => decide (0 ≤ a ∧ a < toP p)) l k pktZ hkl
        rw [← hr] at hsn
        have hodd : oddK l a b (k + 1) = (oddK l a b k || decide (0 ≤ a ∧ a < toP r)) := by rw [oddK, hsn, oddK, Bool.or_assoc]
        have c0 : decide ((k : Int) < (l.length : Int)) = true := by simpa using hkl
        have hkI : (k : Int) < (l.length : Int) := by omega
        have hd3 : (k + 1) * 11 ≤ (pktsL l).length := by omega
        have w1 : IntKind.i64.wrap ((k : Int) + 1) = ((k + 1 : Nat) : Int) := by rw [i64_in (by omega) (by omega)]; omega
        have h0k : (0 : Int) ≤ (k : Int) := by omega
        simp only [rj2I, pktZ, hpd, c0, ac_skip, ac_seq, ac_block, ac_cond, ac_region, at_normal, ao_nil, ao_cons, ao_guard_f, if_t, as_move, as_binOp, as_len, pktL, u8A, u16A, u32A, i64, boA, fr_false, List.contains_nil, beq_self_eq_true, hk_some, hopG, hopF, rd, aopsD, evT, lk, putT, GV, gdst, lenF, binF, Option.map_some, Nat.reduceSub, Nat.reduceEqDiff, Nat.reduceLeDiff, Nat.succ_ne_zero, true_and, eq_self, reduceCtorEq, Bool.false_eq_true, ↓reduceIte, Nat.zero_lt_succ, TT3, TT84]
        cases e0 : oddK l a b k
        · rw [e0, Bool.false_or] at hodd
          simp only [ao_guard_t, ao_guard_f, st_at, if_f, as_move, as_binOp, beq_self_eq_true, hk_some, hopG, rd, constT, evT, lk, putT, GV, gdst, binF, constA, cellA, Option.map_some, Nat.reduceSub, Nat.reduceEqDiff, true_and, eq_self, reduceCtorEq, ↓reduceIte, TT3]
          cases e1 : decide ((0 : Int) ≤ a)
          · rw [dF] at e1
            simp only [w1, ac_region, at_normal, ab_normal, ao_nil, ao_cons, ao_guard_t, ao_guard_f, st_at, sk_at, pk_at, if_f, as_pick, as_move, as_assign, as_binOp, fr_false, List.contains_nil, beq_self_eq_true, hk_some, hopG, rd, aopsD, constT, evT, lk, putT, GV, gdst, binF, constA, cellA, Option.map_some, Nat.reduceSub, Nat.reduceEqDiff, Nat.reduceLeDiff, true_and, eq_self, Bool.false_eq_true, ↓reduceIte, TT3]
            exact ⟨⟨k + 1, by omega⟩, ⟨rfl, le5 rfl rfl rfl (congrArg (fun z => TV.v (boA z)) ((hodd.trans (decide_eq_false (by omega))).symm)) rfl trivial trivial trivial trivial (by show (0 : Nat) < 1; decide)⟩, by show l.length - (k + 1) < l.length - k; omega⟩
          · rw [dT] at e1
            simp only [Int.toNat_natCast, hat, hd3, h0k, ao_guard_t, st_at, if_t, as_call, as_move, as_load, as_indexAddr, pktL, u8A, u16A, u32A, boA, beq_self_eq_true, hk_some, hopG, rd, frzW, frzR, evT, lk, putT, GV, gdst, loadF, argsF, TK.isAgg, List.length_cons, List.length_nil, List.take_succ_cons, List.take_nil, Option.map_some, Nat.reduceAdd, Nat.reduceSub, Nat.reduceEqDiff, Nat.succ_ne_zero, true_and, and_self, eq_self, ↓reduceIte, Nat.zero_add, Nat.zero_lt_succ, Nat.le_refl, TT84, TT87]
            refine ACall.intro (refEnd43_a r hoff (by omega)) ?_
            have e2 : decide (0 ≤ a ∧ a < toP r) = decide (a < r.off * 8 + (r.data.length : Int)) := by rw [hto]; congr 1; apply propext; exact ⟨fun h => h.2, fun h => ⟨e1, h⟩⟩
            simp only [w1, ac_region, at_normal, ab_normal, ao_nil, ao_cons, ao_guard_t, ao_guard_f, st_at, pk_at, if_t, if_f, as_pick, as_move, as_assign, as_binOp, i64, fr_false, List.contains_nil, beq_self_eq_true, hk_some, hopG, rd, aopsD, constT, evT, lk, putT, GV, gdst, binF, constA, cellA, Option.map_some, Nat.reduceSub, Nat.reduceEqDiff, Nat.reduceLeDiff, true_and, eq_self, reduceCtorEq, Bool.false_eq_true, ↓reduceIte, TT3]
            exact ⟨⟨k + 1, by omega⟩, ⟨rfl, le5 rfl rfl rfl (congrArg (fun z => TV.v (boA z)) ((hodd.trans e2).symm)) rfl trivial trivial trivial trivial (by show (0 : Nat) < 1; decide)⟩, by show l.length - (k + 1) < l.length - k; omega⟩
        · rw [e0, Bool.true_or] at hodd
          simp only [w1, ac_region, at_normal, ab_normal, ao_nil, ao_cons, ao_guard_t, ao_guard_f, sk_at, pk_at, if_t, as_pick, as_move, as_assign, as_binOp, fr_false, List.contains_nil, beq_self_eq_true, hk_some, hopG, rd, aopsD, constT, evT, lk, putT, GV, gdst, binF, constA, cellA, Option.map_some, Nat.reduceSub, Nat.reduceEqDiff, Nat.reduceLeDiff, true_and, eq_self, Bool.false_eq_true, ↓reduceIte, TT3]
          exact ⟨⟨k + 1, by omega⟩, ⟨rfl, le5 rfl rfl rfl (congrArg (fun z => TV.v (boA z)) (hodd.symm)) rfl trivial trivial trivial trivial (by show (0 : Nat) < 1; decide)⟩, by show l.length - (k + 1) < l.length - k; omega⟩
      · obtain rfl : k = l.length := by omega
        have hodd : oddK l a b l.length = B := by rw [oddK, List.take_length, hB]
        simp only [rj2I, pktZ, hpd, c0, hodd, ac_exit, ac_seq, ac_cond, ac_region, at_normal, at_exit, ab_exit, ao_nil, ao_cons, if_f, as_move, as_binOp, as_len, pktL, u8A, u16A, u32A, i64, boA, fr_false, List.contains_nil, beq_self_eq_true, hk_some, hopG, hopF, rd, aopsD, evT, lk, putT, lenF, binF, Option.map_some, Nat.reduceSub, Nat.reduceEqDiff, Nat.reduceLeDiff, Nat.succ_ne_zero, true_and, eq_self, reduceCtorEq, Bool.false_eq_true, ↓reduceIte, Nat.zero_lt_succ, TT3, TT84]
        cases B
        · rw [if_neg (by simp)] at P2
          simp only [ac_skip, ac_seq, ac_cond, ac_region, at_normal, ao_nil, ao_cons, if_f, as_move, as_binOp, fr_false, List.contains_nil, beq_self_eq_true, hk_some, hopG, rd, aopsD, constT, evT, lk, putT, binF, constA, cellA, Option.map_some, Nat.reduceSub, Nat.reduceEqDiff, Nat.reduceLeDiff, true_and, eq_self, reduceCtorEq, Bool.false_eq_true, ↓reduceIte, TT3]
          cases e1 : decide (a < 0)
          · rw [dF] at e1
            rw [if_neg e1] at P2
            obtain ⟨n, rfl⟩ := Int.eq_ofNat_of_zero_le (show 0 ≤ a by omega)
            rw [Int.toNat_natCast] at P2
            have hto : ∀ p ∈ l, toP p ≤ n := by
              intro p hp
              have h1 := hB.symm
              rw [Bool.or_eq_false_iff] at h1
              have h2 := h1.2
              rw [List.any_eq_false] at h2
              have h3 := h2 p hp
              simp only [decide_eq_true_eq, not_and] at h3
              have := h3 (by omega)
              omega
            have wl : IntKind.i64.wrap ((l.length : Int) - 1) = (l.length : Int) - 1 := i64_in (by omega) (by omega)
            simp only [hpd, wl, ac_skip, ac_seq, ac_block, ac_region, ac_loop, at_normal, ao_nil, ao_cons, if_f, as_alloc, as_store, as_move, as_assign, as_binOp, as_build, as_len, fr_false, List.contains_nil, beq_self_eq_true, Bool.and_self, hk_some, hopG, hopF, rd, aopsD, heapF, frzW, frzR, constT, evT, lk, putT, lenF, binF, cellsF, ovw, fillF, buildF, partsF, okCell, constA, cellA, Value.oneCell', List.length_cons, List.length_nil, List.map_nil, List.getElem?_cons_zero, List.getElem?_cons_succ, List.set_cons_zero, List.set_cons_succ, List.nil_append, List.cons_append, List.all_cons, List.all_nil, Option.map_some, Nat.reduceAdd, Nat.reduceSub, Nat.reduceEqDiff, Nat.reduceLeDiff, Nat.succ_ne_zero, true_and, and_self, eq_self, Bool.false_eq_true, ↓reduceIte, Nat.zero_add, Nat.zero_lt_succ, Nat.le_refl, TT3, TT84, TT87]
            refine .inr ⟨RJ3 l, fun x => rj3I l n x.m, fun x => x.m, ⟨l.length, by omega⟩, ⟨congrArg (fun z => [(true, pktL pktZ), (true, pktL (Option.getD (List.find? off0 z) pktZ))]) (List.drop_length (l := l)).symm, le6 rfl rfl rfl (congrArg (fun z => TV.v (boA (List.find? off0 z).isSome)) (List.drop_length (l := l)).symm) rfl rfl trivial trivial trivial trivial (by show (1 : Nat) < 2; decide) (by show (0 : Nat) < 2; decide)⟩, ?_⟩
            rintro ⟨m, hm⟩
            by_cases hm0 : m = 0
            · have c0 : decide ((0 : Int) ≤ (m : Int) - 1) = false := decide_eq_false (by omega)
              have hdm : l.drop m = l := by rw [hm0, List.drop_zero]
              have q0 : (0 : Int) ≤ (n : Int) := by omega
              have q1 : (n : Int) ≤ 1000000 := by omega
              simp only [rj3I, pktZ, hpd, c0, hdm, wl, q0, q1, Int.toNat_natCast, ac_exit, ac_seq, ac_block, ac_cond, ac_region, ac_loop, at_normal, at_exit, ab_exit, ao_nil, ao_cons, if_f, as_move, as_assign, as_binOp, as_makeSlice, an_tmp, as_len, pktL, u8A, u16A, u32A, i64, boA, fr_false, List.contains_nil, beq_self_eq_true, hk_some, hopG, hopF, rd, aopsD, constT, evT, lk, putT, lenF, binF, constA, cellA, List.length_cons, List.length_nil, List.nil_append, List.cons_append, Option.map_some, Nat.reduceAdd, Nat.reduceSub, Nat.reduceEqDiff, Nat.reduceLeDiff, Nat.succ_ne_zero, true_and, and_self, eq_self, reduceCtorEq, Bool.false_eq_true, ↓reduceIte, Nat.zero_add, Nat.zero_lt_succ, TT3, TT4, TT5, TT38, TT84, TT129]
              obtain ⟨o, ho⟩ : ∃ o, o = l.find? off0 := ⟨_, rfl⟩
              simp only [← ho]
              have z0 : bytesL (List.replicate n 0) = bytesL (lst n (cov (l.drop l.length))) := by rw [List.drop_length, cov_nil]; congr 1; apply List.ext_getElem <;> simp [lst]
              have z1 : List.replicate n (AV.one (.bool false)) = boolsL (lsb n (cov (l.drop l.length))) := by rw [List.drop_length, cov_nil]; apply List.ext_getElem <;> simp [lsb, boolsL]
              refine .inr ⟨RJ3 l, fun x => rj4I l n x.m o (cov (l.drop x.m)), fun x => x.m, ⟨l.length, by omega⟩, ⟨by rw [z0, z1]; rfl, le8 rfl rfl rfl rfl rfl rfl rfl rfl trivial trivial trivial trivial (by show (1 : Nat) < 4; decide) (by show (0 : Nat) < 4; decide) (by show (2 : Nat) < 4; decide) (by show (3 : Nat) < 4; decide)⟩, ?_⟩
              rintro ⟨m, hm⟩
              by_cases hm0 : m = 0
              · have c0 : decide ((0 : Int) ≤ (m : Int) - 1) = false := decide_eq_false (by omega)
                have hdm : l.drop m = l := by rw [hm0, List.drop_zero]
                simp only [rj4I, pktZ, c0, hdm, ac_exit, ac_seq, ac_block, ac_cond, ac_region, ac_loop, at_normal, at_exit, ab_exit, ao_nil, ao_cons, if_f, as_move, as_assign, as_binOp, pktL, u8A, u16A, u32A, i64, boA, fr_false, List.contains_nil, beq_self_eq_true, hk_some, hopG, rd, aopsD, constT, evT, lk, putT, binF, constA, cellA, Option.map_some, Nat.reduceSub, Nat.reduceLeDiff, true_and, eq_self, Bool.false_eq_true, ↓reduceIte, TT3]
                refine .inr ⟨RJ5 n, fun x => rj5I n x.k o (cov l), fun x => n - x.k, ⟨0, by omega⟩, ⟨rfl, le7 rfl rfl (by rw [allN, Bool.and_true]; rfl) rfl rfl rfl rfl trivial trivial trivial (by show (1 : Nat) < 4; decide) (by show (0 : Nat) < 4; decide) (by show (2 : Nat) < 4; decide) (by show (3 : Nat) < 4; decide)⟩, ?_⟩
                rintro ⟨k, hk⟩
                by_cases hkn : k < n
                · have d0 : decide ((k : Int) < (n : Int)) = true := by simpa using hkn
                  have h0k : (0 : Int) ≤ (k : Int) := by omega
                  have hkI : (k : Int) < (n : Int) := by omega
                  have hk1 : k + 1 ≤ n := by omega
                  have v1 : IntKind.i64.wrap ((k : Int) + 1) = ((k + 1 : Nat) : Int) := by rw [i64_in (by omega) (by omega)]; omega
                  have hfd := boolsL_drop (lsb n (cov l)) k (by rw [lsb_len]; exact hkn)
                  rw [lsb_get n _ _ hkn] at hfd
                  simp only [rj5I, pktZ, d0, ac_skip, ac_seq, ac_block, ac_cond, ac_region, at_normal, ao_nil, ao_cons, ao_guard_t, if_t, as_move, as_binOp, pktL, u8A, u16A, u32A, i64, boA, fr_false, List.contains_nil, beq_self_eq_true, hk_some, hopG, rd, aopsD, evT, lk, putT, GV, gdst, binF, Option.map_some, Nat.reduceSub, Nat.reduceEqDiff, Nat.reduceLeDiff, true_and, eq_self, Bool.false_eq_true, ↓reduceIte, TT3]
                  cases hA : (o.isSome && allN k (cov l))
                  · have hN : (o.isSome && allN (k + 1) (cov l)) = false := by rw [allN, ← Bool.and_assoc, hA, Bool.false_and]
                    simp only [v1, ac_region, at_normal, ab_normal, ao_nil, ao_cons, ao_guard_t, sk_at, pk_at, if_f, as_pick, as_move, as_assign, as_binOp, fr_false, List.contains_nil, beq_self_eq_true, hk_some, hopG, rd, aopsD, constT, evT, lk, putT, GV, gdst, binF, constA, cellA, Option.map_some, Nat.reduceSub, Nat.reduceEqDiff, Nat.reduceLeDiff, true_and, eq_self, Bool.false_eq_true, ↓reduceIte, TT3]
                    exact ⟨⟨k + 1, by omega⟩, ⟨rfl, le7 rfl rfl (congrArg (fun z => TV.v (boA z)) hN.symm) rfl rfl rfl rfl trivial trivial trivial (by show (1 : Nat) < 4; decide) (by show (0 : Nat) < 4; decide) (by show (2 : Nat) < 4; decide) (by show (3 : Nat) < 4; decide)⟩, by show n - (k + 1) < n - k; omega⟩
                  · have hN : (o.isSome && allN (k + 1) (cov l)) = (cov l k).isSome := by rw [allN, ← Bool.and_assoc, hA, Bool.true_and]
                    simp only [v1, h0k, hkI, hfd, Int.toNat_natCast, Nat.zero_add, ac_region, at_normal, ab_normal, ao_nil, ao_cons, ao_guard_t, st_at, pk_at, if_t, as_pick, as_move, as_assign, as_binOp, as_load, as_indexAddr, fr_false, List.contains_nil, beq_self_eq_true, hk_some, hopG, rd, aopsD, constT, evT, lk, putT, GV, gdst, binF, loadF, constA, cellA, TK.isAgg, List.getElem?_cons_zero, List.getElem?_cons_succ, Option.map_some, Nat.reduceSub, Nat.reduceEqDiff, Nat.reduceLeDiff, true_and, and_self, eq_self, Bool.false_eq_true, ↓reduceIte, Nat.zero_add, TT3, TT4, TT129]
                    exact ⟨⟨k + 1, by omega⟩, ⟨rfl, le7 rfl rfl (congrArg (fun z => TV.v (boA z)) hN.symm) rfl rfl rfl rfl trivial trivial trivial (by show (1 : Nat) < 4; decide) (by show (0 : Nat) < 4; decide) (by show (2 : Nat) < 4; decide) (by show (3 : Nat) < 4; decide)⟩, by show n - (k + 1) < n - k; omega⟩
                · obtain rfl : k = n := by omega
                  have d0 : decide ((k : Int) < (k : Int)) = false := by simp
                  have hkl2 : k ≤ 1000000 := by omega
                  rw [joinN, ← ho] at P2
                  have hcn := allN_cnt (cov l) k
                  have e1 : (lst k (cov l)).take k = lst k (cov l) := List.take_of_length_le (by rw [lst_len]; omega)
                  simp only [rj5I, pktZ, d0, ac_exit, ac_seq, ac_cond, ac_region, at_normal, at_exit, ab_exit, ao_nil, ao_cons, if_f, as_move, as_binOp, as_unOp, pktL, u8A, u16A, u32A, i64, boA, fr_false, List.contains_nil, beq_self_eq_true, hk_some, hopG, rd, aopsD, evT, lk, putT, binF, unF, Option.map_some, Nat.reduceSub, Nat.reduceEqDiff, Nat.reduceLeDiff, true_and, eq_self, Bool.false_eq_true, ↓reduceIte, TT3]
                  cases o with
                  | none =>
                    simp only [ite_self] at P2
                    simp only [Option.isSome, Bool.false_and, ac_ret, ac_seq, ac_region, at_normal, at_ret, ae_ret, ao_nil, ao_cons, if_t, as_store, as_assign, as_build, fr_false, fr_nil, fr_cons, List.contains_nil, beq_self_eq_true, Bool.false_and, Bool.and_self, hk_some, hopG, rd, aopsD, heapF, frzW, frzR, constT, evT, lk, putT, loadF, cellsF, ovw, fillF, buildF, partsF, okCell, resF, resL, constA, cellA, TK.isAgg, Value.oneCell', List.length_cons, List.length_nil, List.map_nil, List.getElem?_cons_zero, List.drop_zero, List.take_succ_cons, List.take_nil, List.set_cons_zero, List.set_cons_succ, List.all_cons, List.all_nil, Option.map_some, Option.bind_some, Nat.reduceAdd, Nat.reduceSub, Nat.reduceEqDiff, Nat.reduceLeDiff, true_and, and_true, and_self, eq_self, Bool.false_eq_true, Bool.not_false, ↓reduceIte, Nat.zero_add, Nat.le_refl, TT87]
                    rw [P2]
                    rfl
                  | some p =>
                    have hpm := List.mem_of_find?_eq_some ho.symm
                    obtain ⟨hpo, hpp, hpd2⟩ := hl.2 p hpm
                    simp only [Option.isSome, Option.getD, Bool.true_and, Bool.true_and]
                    cases hA : allN k (cov l)
                    · rw [hA] at hcn
                      rw [if_neg (by simpa using hcn.symm)] at P2
                      simp only [ac_ret, ac_seq, ac_region, at_normal, at_ret, ae_ret, ao_nil, ao_cons, if_t, as_store, as_assign, as_build, fr_false, fr_nil, fr_cons, List.contains_nil, beq_self_eq_true, Bool.and_self, hk_some, hopG, rd, aopsD, heapF, frzW, frzR, constT, evT, lk, putT, loadF, cellsF, ovw, fillF, buildF, partsF, okCell, resF, resL, constA, cellA, TK.isAgg, Value.oneCell', List.length_cons, List.length_nil, List.map_nil, List.getElem?_cons_zero, List.drop_zero, List.take_succ_cons, List.take_nil, List.set_cons_zero, List.set_cons_succ, List.all_cons, List.all_nil, Option.map_some, Option.bind_some, Nat.reduceAdd, Nat.reduceSub, Nat.reduceEqDiff, Nat.reduceLeDiff, true_and, and_true, and_self, eq_self, Bool.false_eq_true, Bool.not_false, ↓reduceIte, Nat.zero_add, Nat.le_refl, TT87]
                      rw [P2]
                      rfl
                    · rw [hA] at hcn
                      rw [if_pos (by simpa using hcn.symm)] at P2
                      simp only at P2
                      simp only [Nat.zero_add, lst_len, hkl2, Nat.le_refl, e1, ac_skip, ac_seq, ac_region, at_normal, ao_nil, ao_cons, if_f, as_call, as_store, as_move, as_load, as_fieldAddr, bytesL_len, asB_take, fr_false, List.contains_nil, beq_self_eq_true, Bool.and_self, hk_some, hopG, rd, aopsD, heapF, frzW, frzR, frz1, constT, evT, lk, putT, loadF, cellsF, ovw, argsF, okCell, constA, cellA, TK.isAgg, Value.oneCell', List.length_cons, List.length_nil, List.getElem?_cons_zero, List.getElem?_cons_succ, List.drop_zero, List.take_succ_cons, List.take_nil, List.set_cons_zero, List.set_cons_succ, List.all_cons, List.all_nil, Option.map_some, Nat.reduceAdd, Nat.reduceSub, Nat.reduceEqDiff, Nat.reduceLeDiff, Nat.succ_ne_zero, ne_eq, not_false_eq_true, true_and, and_self, eq_self, Bool.false_eq_true, Bool.not_true, ↓reduceIte, Nat.zero_add, Nat.le_refl, TT4, TT23, TT38, TT87]
                      refine ACall.intro (refMay06_a (joinR p (lst k (cov l))) ⟨hpo.tos, hpo.id, by show (0 : Int) ≤ 0 ∧ (0 : Int) ≤ 65535; omega, hpo.ttl, hpo.proto, hpo.src, hpo.dst⟩ hpp (by show (lst k (cov l)).length ≤ 1000000; rw [lst_len]; omega)) ?_
                      cases c5 : pktMay (joinR p (lst k (cov l)))
                      · simp only [c5, Bool.false_eq_true, if_false] at P2
                        simp only [ac_ret, ac_seq, ac_cond, ac_region, at_normal, at_ret, ae_ret, ao_nil, ao_cons, if_t, as_store, as_assign, as_unOp, as_build, boA, fr_false, fr_nil, fr_cons, List.contains_nil, beq_self_eq_true, Bool.and_self, hk_some, hopG, rd, aopsD, heapF, frzW, frzR, constT, evT, lk, putT, unF, loadF, cellsF, ovw, fillF, buildF, partsF, okCell, resF, resL, constA, cellA, TK.isAgg, Value.oneCell', List.length_cons, List.length_nil, List.map_nil, List.getElem?_cons_zero, List.drop_zero, List.take_succ_cons, List.take_nil, List.set_cons_zero, List.set_cons_succ, List.all_cons, List.all_nil, Option.map_some, Option.bind_some, Nat.reduceAdd, Nat.reduceSub, Nat.reduceEqDiff, Nat.reduceLeDiff, true_and, and_true, and_self, eq_self, Bool.false_eq_true, Bool.not_false, ↓reduceIte, Nat.zero_add, Nat.le_refl, TT87]
                        rw [P2]
                        rfl
                      · simp only [c5, if_true] at P2
                        simp only [ac_skip, ac_ret, ac_seq, ac_cond, ac_region, at_normal, ae_ret, ao_nil, ao_cons, if_f, as_store, as_assign, as_unOp, as_load, boA, fr_false, fr_nil, fr_cons, List.contains_nil, beq_self_eq_true, Bool.and_self, hk_some, hopG, rd, aopsD, heapF, frzW, frzR, constT, evT, lk, putT, unF, loadF, cellsF, ovw, okCell, resF, resL, constA, cellA, TK.isAgg, Value.oneCell', List.length_cons, List.length_nil, List.getElem?_cons_zero, List.getElem?_cons_succ, List.drop_zero, List.take_succ_cons, List.take_nil, List.set_cons_zero, List.set_cons_succ, List.all_cons, List.all_nil, Option.map_some, Option.bind_some, Nat.reduceAdd, Nat.reduceSub, Nat.reduceEqDiff, Nat.reduceLeDiff, true_and, and_true, and_self, eq_self, Bool.false_eq_true, Bool.not_true, ↓reduceIte, Nat.zero_add, Nat.le_refl, TT87]
                        rw [P2]
                        rfl
              · obtain ⟨i, hi⟩ : ∃ i, m = i + 1 := ⟨m - 1, by omega⟩
                have hil : i < l.length := by omega
                obtain ⟨r, hr⟩ : ∃ r, r = l.getD i pktZ := ⟨_, rfl⟩
                have hrm : r ∈ l := by rw [hr]; simp [List.getD, hil]
                obtain ⟨hro, hrp, hrd⟩ := hl.2 r hrm
                have hat := pkts_at l i hil
                rw [← hr] at hat
                have hoff := hro.off
                have hrt : r.off * 8 + r.data.length ≤ n := hto r hrm
                have hmi : (m : Int) - 1 = (i : Int) := by omega
                have c0 : decide ((0 : Int) ≤ (i : Int)) = true := decide_eq_true (by omega)
                have h0i : (0 : Int) ≤ (i : Int) := by omega
                have hiI : (i : Int) < (l.length : Int) := by omega
                have hd3 : (i + 1) * 11 ≤ (pktsL l).length := by omega
                have w1 : IntKind.i64.wrap ((i : Int) - 1) = (i : Int) - 1 := i64_in (by omega) (by omega)
                have hs0 := covJ_0 l i
                have hall := covJ_all l i hil
                rw [← hr] at hall
                rw [← hi] at hs0
                simp only [rj4I, pktZ, hmi, c0, ac_skip, ac_seq, ac_block, ac_cond, ac_region, ac_loop, at_normal, ao_nil, ao_cons, if_t, as_move, as_assign, as_binOp, pktL, u8A, u16A, u32A, i64, boA, fr_false, List.contains_nil, beq_self_eq_true, hk_some, hopG, rd, aopsD, constT, evT, lk, putT, binF, constA, cellA, Option.map_some, Nat.reduceSub, Nat.reduceLeDiff, true_and, eq_self, Bool.false_eq_true, ↓reduceIte, TT3]
                refine .inr ⟨RJk r, fun x => rjkI l n i x.k o (covJ l i x.k), fun x => r.data.length - x.k, ⟨0, by omega⟩, ⟨congrArg (fun z => [(true, pktL pktZ), (true, pktL (o.getD pktZ)), (true, bytesL (lst n z)), (true, boolsL (lsb n z))]) hs0.symm, le9 rfl rfl rfl rfl rfl rfl rfl rfl rfl trivial trivial trivial trivial trivial (by show (1 : Nat) < 4; decide) (by show (0 : Nat) < 4; decide) (by show (2 : Nat) < 4; decide) (by show (3 : Nat) < 4; decide)⟩, ?_⟩
                rintro ⟨k, hk⟩
                have h0k : (0 : Int) ≤ (k : Int) := by omega
                by_cases hkl : k < r.data.length
                · have d0 : decide ((k : Int) < (r.data.length : Int)) = true := by simpa using hkl
                  have hkI : (k : Int) < (r.data.length : Int) := by omega
                  have hal : r.off.toNat * 8 + k < n := by omega
                  have v1 : IntKind.i64.wrap ((k : Int) + 1) = ((k + 1 : Nat) : Int) := by rw [i64_in (by omega) (by omega)]; omega
                  have v2 : IntKind.i64.wrap (r.off * 8 + (k : Int)) = ((r.off.toNat * 8 + k : Nat) : Int) := by rw [i64_in (by omega) (by omega)]; omega
                  have v3 : IntKind.i64.wrap r.off = r.off := i64_in (by omega) (by omega)
                  have v4 : IntKind.i64.wrap (r.off * 8) = r.off * 8 := i64_in (by omega) (by omega)
                  have g0 : (0 : Int) ≤ ((r.off.toNat * 8 + k : Nat) : Int) := by omega
                  have g1 : ((r.off.toNat * 8 + k : Nat) : Int) < (n : Int) := by omega
                  have hst := covJ_step l i k (by rw [← hr]; exact hkl)
                  rw [← hr] at hst
                  have hs1 := boolsL_set (lsb n (covJ l i k)) (r.off.toNat * 8 + k) true
                  rw [lsb_set n _ _ (r.data.getD k 0), ← hst] at hs1
                  have hs2 := bytesL_set (lst n (covJ l i k)) (r.off.toNat * 8 + k) ((r.data.getD k 0).toNat : Int) (by omega) (by have := (r.data.getD k 0).toNat_lt; omega)
                  rw [show u8 ((r.data.getD k 0).toNat : Int) = r.data.getD k 0 by apply UInt8.toNat_inj.1; have := u8_toNat ((r.data.getD k 0).toNat : Int); have := (r.data.getD k 0).toNat_lt; omega, lst_set, ← hst] at hs2
                  have k2 : r.off.toNat * 8 + k + 1 ≤ n := by omega
                  simp only [rjkI, pktZ, hat, hd3, h0i, h0k, hkI, Int.toNat_natCast, ac_skip, ac_seq, ac_block, ac_cond, ac_region, at_normal, ab_normal, ao_nil, ao_cons, if_t, as_store, as_move, as_assign, as_binOp, as_convert, as_load, as_fieldAddr, as_indexAddr, bytesL_len, as_len, pktL, u8A, u16A, u32A, i64, boA, fr_false, List.contains_nil, Nat.reduceBEq, beq_self_eq_true, decide_true, Bool.and_self, hk_some, hopG, hopF, rd, aopsD, heapF, frzW, frzR, tlN, constT, evT, lk, putT, lenF, binF, convF, loadF, cellsF, ovw, okCell, constA, cellA, TK.isAgg, Value.oneCell', List.length_cons, List.length_nil, List.getElem?_cons_zero, List.getElem?_cons_succ, List.drop_zero, List.drop_succ_cons, List.set_cons_zero, List.set_cons_succ, List.all_cons, List.all_nil, Option.map_some, Nat.reduceAdd, Nat.reduceSub, Nat.reduceEqDiff, Nat.reduceLT, Nat.reduceLeDiff, Nat.succ_ne_zero, ne_eq, not_false_eq_true, true_and, and_true, and_self, eq_self, reduceCtorEq, Bool.false_eq_true, ↓reduceIte, Nat.zero_add, Nat.zero_lt_succ, TT3, TT4, TT5, TT23, TT38, TT84, TT87, TT129]
                  simp only [v1, v2, v3, v4, g0, g1, hs1, hs2, k2, lst_len, lsb_len, boolsL_len, Int.toNat_natCast, true_and, and_self]
                  exact ⟨⟨k + 1, by omega⟩, ⟨rfl, le9 rfl rfl rfl rfl rfl rfl rfl rfl rfl trivial trivial trivial trivial trivial (by show (1 : Nat) < 4; decide) (by show (0 : Nat) < 4; decide) (by show (2 : Nat) < 4; decide) (by show (3 : Nat) < 4; decide)⟩, by show r.data.length - (k + 1) < r.data.length - k; omega⟩
                · obtain rfl : k = r.data.length := by omega
                  have d0 : decide ((r.data.length : Int) < (r.data.length : Int)) = false := by simp
                  simp only [rjkI, pktZ, d0, hat, hd3, h0i, Int.toNat_natCast, w1, ac_exit, ac_seq, ac_cond, ac_region, at_normal, at_exit, ab_normal, ab_exit, ao_nil, ao_cons, if_f, as_move, as_assign, as_binOp, as_load, as_fieldAddr, as_indexAddr, as_len, pktL, u8A, u16A, u32A, i64, boA, fr_false, List.contains_nil, beq_self_eq_true, hk_some, hopG, hopF, rd, aopsD, constT, evT, lk, putT, lenF, binF, loadF, constA, cellA, TK.isAgg, List.length_cons, List.length_nil, List.getElem?_cons_zero, List.getElem?_cons_succ, List.drop_zero, List.drop_succ_cons, Option.map_some, Nat.reduceAdd, Nat.reduceSub, Nat.reduceEqDiff, Nat.reduceLT, Nat.reduceLeDiff, Nat.succ_ne_zero, ne_eq, not_false_eq_true, true_and, and_self, eq_self, Bool.false_eq_true, ↓reduceIte, Nat.zero_add, Nat.zero_lt_succ, TT3, TT38, TT84, TT87]
                  exact ⟨⟨i, by omega⟩, ⟨congrArg (fun z => [(true, pktL pktZ), (true, pktL (o.getD pktZ)), (true, bytesL (lst n z)), (true, boolsL (lsb n z))]) hall, le8 rfl rfl rfl rfl rfl rfl rfl rfl trivial trivial trivial trivial (by show (1 : Nat) < 4; decide) (by show (0 : Nat) < 4; decide) (by show (2 : Nat) < 4; decide) (by show (3 : Nat) < 4; decide)⟩, by show i < m; omega⟩
            · obtain ⟨i, hi⟩ : ∃ i, m = i + 1 := ⟨m - 1, by omega⟩
              have hil : i < l.length := by omega
              obtain ⟨r, hr⟩ : ∃ r, r = l.getD i pktZ := ⟨_, rfl⟩
              have hrm : r ∈ l := by rw [hr]; simp [List.getD, hil]
              obtain ⟨hro, hrp, hrd⟩ := hl.2 r hrm
              have hat := pkts_at l i hil
              rw [← hr] at hat
              have hdr : l.drop i = r :: l.drop m := by rw [List.drop_eq_getElem_cons hil, hr, hi]; simp [List.getD, hil]
              have hmi : (m : Int) - 1 = (i : Int) := by omega
              have c0 : decide ((0 : Int) ≤ (i : Int)) = true := decide_eq_true (by omega)
              have h0i : (0 : Int) ≤ (i : Int) := by omega
              have hiI : (i : Int) < (l.length : Int) := by omega
              have hd3 : (i + 1) * 11 ≤ (pktsL l).length := by omega
              have w1 : IntKind.i64.wrap ((i : Int) - 1) = (i : Int) - 1 := i64_in (by omega) (by omega)
              simp only [rj3I, pktZ, hmi, hat, hd3, h0i, Int.toNat_natCast, ac_skip, ac_seq, ac_block, ac_cond, ac_region, at_normal, ao_nil, ao_cons, if_t, as_move, as_binOp, as_load, as_fieldAddr, as_indexAddr, pktL, u8A, u16A, u32A, i64, boA, fr_false, List.contains_nil, beq_self_eq_true, decide_true, hk_some, hopG, rd, aopsD, constT, evT, lk, putT, binF, loadF, constA, cellA, TK.isAgg, List.length_cons, List.length_nil, List.getElem?_cons_zero, List.getElem?_cons_succ, List.drop_zero, List.drop_succ_cons, Option.map_some, Nat.reduceAdd, Nat.reduceSub, Nat.reduceEqDiff, Nat.reduceLT, Nat.reduceLeDiff, Nat.succ_ne_zero, ne_eq, not_false_eq_true, true_and, and_self, eq_self, Bool.false_eq_true, ↓reduceIte, Nat.zero_add, Nat.zero_lt_succ, TT3, TT23, TT84, TT87]
              cases c3 : decide (r.off = 0)
              · have hfi : (l.drop i).find? off0 = (l.drop m).find? off0 := by rw [hdr, List.find?_cons, show off0 r = false from c3]
                simp only [w1, ac_skip, ac_region, at_normal, ab_normal, ao_nil, ao_cons, if_f, as_move, as_assign, as_binOp, fr_false, List.contains_nil, beq_self_eq_true, hk_some, hopG, rd, aopsD, constT, evT, lk, putT, binF, constA, cellA, Option.map_some, Nat.reduceSub, Nat.reduceEqDiff, Nat.reduceLeDiff, true_and, eq_self, Bool.false_eq_true, ↓reduceIte, TT3]
                exact ⟨⟨i, by omega⟩, ⟨congrArg (fun z => [(true, pktL pktZ), (true, pktL (Option.getD z pktZ))]) hfi.symm, le6 rfl rfl rfl (congrArg (fun z => TV.v (boA (Option.isSome z))) hfi.symm) rfl rfl trivial trivial trivial trivial (by show (1 : Nat) < 2; decide) (by show (0 : Nat) < 2; decide)⟩, by show i < m; omega⟩
              · have hfi : (l.drop i).find? off0 = some r := by rw [hdr, List.find?_cons, show off0 r = true from c3]
                simp only [hat, hd3, h0i, Int.toNat_natCast, w1, ac_seq, ac_region, at_normal, ab_normal, ao_nil, ao_cons, if_t, as_store, as_move, as_assign, as_binOp, as_load, as_indexAddr, pktL, u8A, u16A, u32A, boA, fr_false, List.contains_nil, beq_self_eq_true, Bool.and_self, hk_some, hopG, rd, aopsD, heapF, frzW, frzR, constT, evT, lk, putT, binF, loadF, cellsF, ovw, okCell, constA, cellA, TK.isAgg, Value.oneCell', List.length_cons, List.length_nil, List.getElem?_cons_zero, List.getElem?_cons_succ, List.take_succ_cons, List.take_nil, List.set_cons_zero, List.set_cons_succ, List.all_cons, List.all_nil, Option.map_some, Nat.reduceAdd, Nat.reduceSub, Nat.reduceEqDiff, Nat.reduceLeDiff, Nat.succ_ne_zero, true_and, and_self, eq_self, reduceCtorEq, Bool.false_eq_true, ↓reduceIte, Nat.zero_add, Nat.zero_lt_succ, Nat.le_refl, TT3, TT84, TT87]
                exact ⟨⟨i, by omega⟩, ⟨congrArg (fun z => [(true, pktL pktZ), (true, pktL (Option.getD z pktZ))]) hfi.symm, le6 rfl rfl rfl (congrArg (fun z => TV.v (boA (Option.isSome z))) hfi.symm) rfl rfl trivial trivial trivial trivial (by show (1 : Nat) < 2; decide) (by show (0 : Nat) < 2; decide)⟩, by show i < m; omega⟩
          · rw [dT] at e1
            rw [if_pos e1] at P2
            simp only [ac_ret, ac_seq, ac_region, at_normal, at_ret, ae_ret, ao_nil, ao_cons, if_t, as_store, as_assign, as_build, fr_false, fr_nil, fr_cons, List.contains_nil, beq_self_eq_true, Bool.and_self, hk_some, hopG, rd, aopsD, heapF, frzW, frzR, constT, evT, lk, putT, loadF, cellsF, ovw, fillF, buildF, partsF, okCell, resF, resL, constA, cellA, TK.isAgg, Value.oneCell', List.length_cons, List.length_nil, List.map_nil, List.getElem?_cons_zero, List.drop_zero, List.take_succ_cons, List.take_nil, List.set_cons_zero, List.set_cons_succ, List.all_cons, List.all_nil, Option.map_some, Option.bind_some, Nat.reduceAdd, Nat.reduceSub, Nat.reduceEqDiff, Nat.reduceLeDiff, true_and, and_true, and_self, eq_self, reduceCtorEq, Bool.false_eq_true, ↓reduceIte, Nat.zero_add, Nat.le_refl, TT87]
            rw [P2]
            rfl
        · rw [if_pos rfl] at P2
          simp only [ac_ret, ac_seq, ac_region, at_normal, at_ret, ae_ret, ao_nil, ao_cons, if_t, as_store, as_assign, as_build, fr_false, fr_nil, fr_cons, List.contains_nil, beq_self_eq_true, Bool.and_self, hk_some, hopG, rd, aopsD, heapF, frzW, frzR, constT, evT, lk, putT, loadF, cellsF, ovw, fillF, buildF, partsF, okCell, resF, resL, constA, cellA, TK.isAgg, Value.oneCell', List.length_cons, List.length_nil, List.map_nil, List.getElem?_cons_zero, List.drop_zero, List.take_succ_cons, List.take_nil, List.set_cons_zero, List.set_cons_succ, List.all_cons, List.all_nil, Option.map_some, Option.bind_some, Nat.reduceAdd, Nat.reduceSub, Nat.reduceEqDiff, Nat.reduceLeDiff, true_and, and_true, and_self, eq_self, reduceCtorEq, Bool.false_eq_true, ↓reduceIte, Nat.zero_add, Nat.le_refl, TT87]
          rw [P2]
          rfl
  · rw [dT] at c1
    have P : joinP l = (pktZ, 15) := if_pos (by omega)
    simp only [ac_ret, ac_seq, ac_region, at_normal, at_ret, ae_ret, ao_nil, ao_cons, if_t, as_store, as_assign, as_build, fr_false, fr_nil, fr_cons, List.contains_nil, beq_self_eq_true, Bool.and_self, hk_some, hopG, rd, aopsD, heapF, frzW, frzR, constT, evT, lk, putT, loadF, cellsF, ovw, fillF, buildF, partsF, okCell, resF, resL, constA, cellA, TK.isAgg, Value.oneCell', List.length_cons, List.length_nil, List.map_nil, List.getElem?_cons_zero, List.drop_zero, List.take_succ_cons, List.take_nil, List.set_cons_zero, List.set_cons_succ, List.all_cons, List.all_nil, Option.map_some, Option.bind_some, Nat.reduceAdd, Nat.reduceSub, Nat.reduceEqDiff, Nat.reduceLeDiff, true_and, and_true, and_self, eq_self, Bool.false_eq_true, ↓reduceIte, Int.reduceNeg, Nat.zero_add, Nat.le_refl, TT87]
    rw [P]
    rfl
end Go.Proofs.Ythjojkkapboonaa
