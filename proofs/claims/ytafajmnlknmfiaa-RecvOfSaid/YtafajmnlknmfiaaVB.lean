/- ipv4.Parse, Turn. -/
import Derived.Test.YtafajmnlknmfiaaVA
namespace Go.Proofs.Ytafajmnlknmfiaa
set_option linter.unusedSimpArgs false
set_option linter.unusedVariables false
open Go.RowKit

theorem and_bit (n i : Nat) : n &&& 2 ^ i = n / 2 ^ i % 2 * 2 ^ i := by
  have h : n &&& 2 ^ i = if n.testBit i then 2 ^ i else 0 := by
    apply Nat.eq_of_testBit_eq
    intro j
    rw [Nat.testBit_and, Nat.testBit_two_pow]
    by_cases hj : i = j
    · subst hj
      cases hb : n.testBit i <;> simp [Nat.testBit_two_pow]
    · cases hb : n.testBit i <;> simp [Nat.testBit_two_pow, hj]
  rw [h, Nat.testBit_eq_decide_div_mod_eq]
  by_cases hb : n / 2 ^ i % 2 = 1
  · simp [hb]
  · have : n / 2 ^ i % 2 = 0 := by omega
    simp [this]
theorem and_df (n : Int) (h : 0 ≤ n ∧ n ≤ 65535) : bits .and .u16 n 16384 = n / 16384 % 2 * 16384 := by
  obtain ⟨n, rfl⟩ := Int.eq_ofNat_of_zero_le h.1
  have := (bits_nat .u16 16 (by decide) (fun n h0 h1 => u16_in h0 (by omega)) n 16384 (by omega) (by omega)).1
  have e : ((16384 : Nat) : Int) = 16384 := rfl
  rw [e] at this
  rw [this, show (16384 : Nat) = 2 ^ 14 from rfl, and_bit]
  omega
theorem and_mf (n : Int) (h : 0 ≤ n ∧ n ≤ 65535) : bits .and .u16 n 8192 = n / 8192 % 2 * 8192 := by
  obtain ⟨n, rfl⟩ := Int.eq_ofNat_of_zero_le h.1
  have := (bits_nat .u16 16 (by decide) (fun n h0 h1 => u16_in h0 (by omega)) n 8192 (by omega) (by omega)).1
  have e : ((8192 : Nat) : Int) = 8192 := rfl
  rw [e] at this
  rw [this, show (8192 : Nat) = 2 ^ 13 from rfl, and_bit]
  omega
theorem df_b (n : Int) (h : 0 ≤ n ∧ n ≤ 65535) : (!decide (bits .and .u16 n 16384 = 0)) = decide (n / 16384 % 2 = 1) := by
  rw [and_df n h, Bool.eq_iff_iff]
  simp only [Bool.not_eq_true', decide_eq_false_iff_not, decide_eq_true_eq]
  omega
theorem mf_b (n : Int) (h : 0 ≤ n ∧ n ≤ 65535) : (!decide (bits .and .u16 n 8192 = 0)) = decide (n / 8192 % 2 = 1) := by
  rw [and_mf n h, Bool.eq_iff_iff]
  simp only [Bool.not_eq_true', decide_eq_false_iff_not, decide_eq_true_eq]
  omega

/-- How great head and packet are with which bytes begin, or why they do not. -/
def ipHd (b : List UInt8) : Int × Int × Int :=
  if b.length < 20 then (0, 0, 4) else if byteN b 0 < 69 ∨ 79 < byteN b 0 then (0, 0, 3) else if (b.length : Int) < 4 * (byteN b 0 - 64) then (0, 0, 4)
  else if ¬ onesF (b.take (4 * (byteN b 0 - 64)).toNat) = 65535 then (0, 0, 5) else if 32768 ≤ get16 b 6 ∨ get16 b 2 < 4 * (byteN b 0 - 64) then (0, 0, 3)
  else if (b.length : Int) < get16 b 2 then (0, 0, 4) else (4 * (byteN b 0 - 64), get16 b 2, 0)
set_option maxRecDepth 100000 in
theorem ipHeads_a (b : List UInt8) (hl : b.length ≤ 1000000) : ASpec Try.prog 157 [.bs b] (.tup [i64 (ipHd b).1, i64 (ipHd b).2.1, i64 (ipHd b).2.2]) := by
  have b0 := byteN_bd b 0
  have n2 := get16_bd b 2
  have n6 := get16_bd b 6
  refine ASpec.of_body TT_ok Try.mixed _ [.tmp 2, .tmp 3, .tmp 4] ([], []) Try.func157 (by kernel_rfl) rfl rfl (by simp only [Try.ntmps157, List.length_cons, List.length_nil]; omega) rfl (by kernel_rfl) ?_
  simp only [argE_cons, argE_nil, ac_seq, ac_cond, ac_region, at_normal, ao_nil, ao_cons, as_move, as_assign, as_binOp, as_len, i64, fr_false, List.contains_nil, beq_self_eq_true, hk_some, hopG, hopF, rd, aopsD, constT, evT, lk, putT, lenF, binF, constA, cellA, Option.map_some, Nat.reduceSub, Nat.reduceLeDiff, Nat.succ_ne_zero, true_and, eq_self, Bool.false_eq_true, ↓reduceIte, Nat.zero_add, TT3, TT38]
  cases c1 : decide ((b.length : Int) < 20)
  · rw [dF] at c1
    have P : ipHd b = if byteN b 0 < 69 ∨ 79 < byteN b 0 then (0, 0, 3) else if (b.length : Int) < 4 * (byteN b 0 - 64) then (0, 0, 4)
      else if ¬ onesF (b.take (4 * (byteN b 0 - 64)).toNat) = 65535 then (0, 0, 5) else if 32768 ≤ get16 b 6 ∨ get16 b 2 < 4 * (byteN b 0 - 64) then (0, 0, 3)
      else if (b.length : Int) < get16 b 2 then (0, 0, 4) else (4 * (byteN b 0 - 64), get16 b 2, 0) := if_neg (by omega)
    rw [P]
    clear P
    simp only [getD_byteN, ac_skip, ac_seq, ac_region, at_normal, ao_cons, ao_guard_f, if_f, as_move, as_binOp, as_load, as_indexAddr, fr_false, List.contains_nil, beq_self_eq_true, hk_some, hopG, rd, aopsD, constT, evT, lk, putT, GV, gdst, binF, loadF, constA, cellA, TK.isAgg, Option.map_some, Nat.reduceSub, Nat.reduceLeDiff, Nat.succ_ne_zero, true_and, eq_self, Bool.false_eq_true, ↓reduceIte, Int.toNat_zero, Int.reduceLE, TT5, TT38]
    refine ⟨by omega, ?_⟩
    cases c2 : decide (byteN b 0 < 69)
    · rw [dF] at c2
      simp only [getD_byteN, ac_cond, at_normal, ao_nil, ao_cons, ao_guard_f, st_at, pk_at, if_f, as_pick, as_move, as_binOp, as_load, as_indexAddr, beq_self_eq_true, hk_some, hopG, rd, constT, evT, lk, putT, GV, gdst, binF, loadF, constA, cellA, TK.isAgg, Option.map_some, Nat.reduceSub, Nat.reduceEqDiff, Nat.succ_ne_zero, true_and, eq_self, Bool.false_eq_true, ↓reduceIte, Int.toNat_zero, Int.reduceLE, TT5, TT38]
      refine ⟨by omega, ?_⟩
      cases c3 : decide (79 < byteN b 0)
      · rw [dF] at c3
        rw [if_neg (by omega)]
        have e1 : IntKind.u8.wrap (byteN b 0 - 64) = byteN b 0 - 64 := u8_in (by omega) (by omega)
        have e2 : IntKind.i64.wrap (byteN b 0 - 64) = byteN b 0 - 64 := i64_in (by omega) (by omega)
        have e3 : IntKind.i64.wrap (4 * (byteN b 0 - 64)) = 4 * (byteN b 0 - 64) := i64_in (by omega) (by omega)
        simp only [getD_byteN, e1, e2, e3, ac_skip, ac_seq, ac_cond, ac_region, at_normal, ao_nil, ao_cons, if_f, as_move, as_assign, as_binOp, as_convert, as_load, as_indexAddr, as_len, fr_false, List.contains_nil, beq_self_eq_true, hk_some, hopG, hopF, rd, aopsD, constT, evT, lk, putT, lenF, binF, convF, loadF, constA, cellA, TK.isAgg, Option.map_some, Nat.reduceSub, Nat.reduceEqDiff, Nat.reduceLeDiff, Nat.succ_ne_zero, true_and, eq_self, Bool.false_eq_true, ↓reduceIte, Int.toNat_zero, Int.reduceLE, TT3, TT5, TT38]
        refine ⟨by omega, ?_⟩
        obtain ⟨n, hn⟩ : ∃ n : Nat, 4 * (byteN b 0 - 64) = (n : Int) := ⟨(4 * (byteN b 0 - 64)).toNat, by omega⟩
        rw [hn]
        cases c4 : decide ((b.length : Int) < (n : Int))
        · rw [dF] at c4
          rw [if_neg (by omega)]
          simp only [Int.toNat_natCast, ac_skip, ac_seq, ac_region, at_normal, ao_cons, if_f, as_call, as_move, as_buildSlice, as_slice, fr_false, List.contains_nil, beq_self_eq_true, hk_some, hopG, rd, aopsD, frzW, frzR, constT, evT, lk, putT, cellsF, ovw, fillF, makeSF, bndF, cutF, partsF, argsF, constA, cellA, List.length_cons, List.length_nil, List.getElem?_nil, List.drop_zero, List.set_cons_zero, List.replicate_succ, List.replicate_zero, List.flatten_cons, List.flatten_nil, List.append_nil, Option.map_some, Option.map_none, Option.bind_some, Nat.reduceSub, Nat.reduceEqDiff, Nat.reduceLeDiff, Nat.succ_ne_zero, true_and, and_self, eq_self, Bool.false_eq_true, ↓reduceIte, Int.toNat_zero, Int.reduceLE, Nat.mul_one, Nat.zero_add, Nat.zero_lt_succ, Nat.le_refl, TT38, TT237]
          refine ⟨⟨by omega, by omega⟩, ?_⟩
          have hz : ((n : Int) - 0).toNat = n := by omega
          simp only [hz]
          refine ACall.intro (right_a [b.take n] (by simp [small]; omega)) ?_
          simp only [ac_cond, at_normal, ao_nil, ao_cons, as_unOp, boA, beq_self_eq_true, hk_some, hopG, rd, evT, lk, putT, unF, List.flatten_cons, List.flatten_nil, List.append_nil, Option.map_some, Nat.reduceSub, true_and, eq_self, ↓reduceIte]
          cases hq : (onesF (b.take n) == 65535)
          · have hq' : ¬ onesF (b.take n) = 65535 := by simpa using hq
            rw [if_pos hq']
            simp only [ac_ret, ac_seq, ac_region, at_normal, at_ret, ae_ret, ao_nil, ao_cons, if_t, as_assign, fr_false, List.contains_nil, beq_self_eq_true, rd, aopsD, constT, evT, lk, putT, resF, resL, constA, cellA, Option.map_some, Option.bind_some, Nat.reduceSub, Nat.reduceEqDiff, Nat.reduceLeDiff, and_true, and_self, eq_self, Bool.false_eq_true, Bool.not_false, ↓reduceIte]
            try rfl
          · have hq' : onesF (b.take n) = 65535 := by simpa using hq
            rw [if_neg (by simpa using hq')]
            simp only [ac_skip, ac_seq, ac_region, at_normal, ao_cons, if_f, as_call, as_move, fr_false, List.contains_nil, beq_self_eq_true, rd, aopsD, frzW, frzR, constT, evT, lk, putT, argsF, constA, cellA, Option.map_some, Nat.reduceSub, Nat.reduceLeDiff, Nat.succ_ne_zero, eq_self, Bool.false_eq_true, Bool.not_true, ↓reduceIte]
            refine ACall.intro (get16_a b 2 (by omega)) ?_
            simp only [ac_seq, ac_region, at_normal, ao_nil, ao_cons, as_call, as_move, as_assign, as_extract, u16A, boA, fr_false, List.contains_nil, beq_self_eq_true, hk_some, hopG, rd, aopsD, frzW, frzR, constT, evT, lk, putT, argsF, constA, cellA, List.getElem?_cons_zero, List.getElem?_cons_succ, Option.map_some, Nat.reduceSub, Nat.reduceEqDiff, Nat.reduceLeDiff, Nat.succ_ne_zero, true_and, eq_self, Bool.false_eq_true, ↓reduceIte]
            refine ACall.intro (get16_a b 6 (by omega)) ?_
            simp only [ac_seq, ac_block, ac_region, at_normal, ao_nil, ao_cons, ao_guard_f, as_move, as_assign, as_binOp, as_extract, u16A, boA, fr_false, List.contains_nil, beq_self_eq_true, hk_some, hopG, rd, aopsD, constT, evT, lk, putT, GV, gdst, binF, constA, cellA, List.getElem?_cons_zero, List.getElem?_cons_succ, Option.map_some, Nat.reduceSub, Nat.reduceEqDiff, Nat.reduceLeDiff, true_and, eq_self, Bool.false_eq_true, ↓reduceIte, TT23]
            cases c5 : decide ((32768 : Int) ≤ get16 b 6)
            · rw [dF] at c5
              simp only [i64_in (n := get16 b 2) (by omega) (by omega), ac_cond, at_normal, ao_nil, ao_cons, ao_guard_f, st_at, pk_at, if_f, as_pick, as_move, as_assign, as_binOp, as_convert, beq_self_eq_true, hk_some, hopG, rd, evT, lk, putT, GV, gdst, binF, convF, Option.map_some, Nat.reduceSub, Nat.reduceEqDiff, true_and, eq_self, ↓reduceIte, TT3, TT23]
              cases c6 : decide (get16 b 2 < (n : Int))
              · rw [dF] at c6
                rw [if_neg (by omega)]
                simp only [i64_in (n := get16 b 2) (by omega) (by omega), ac_seq, ac_cond, ac_region, at_normal, ao_nil, ao_cons, if_f, as_move, as_assign, as_binOp, as_convert, as_len, fr_false, List.contains_nil, beq_self_eq_true, hk_some, hopG, hopF, rd, aopsD, evT, lk, putT, lenF, binF, convF, Option.map_some, Nat.reduceSub, Nat.reduceEqDiff, Nat.reduceLeDiff, Nat.succ_ne_zero, true_and, eq_self, Bool.false_eq_true, ↓reduceIte, TT3, TT23, TT38]
                cases c7 : decide ((b.length : Int) < get16 b 2)
                · rw [dF] at c7
                  rw [if_neg (by omega)]
                  simp only [i64_in (n := get16 b 2) (by omega) (by omega), ac_skip, ac_ret, ac_seq, ac_region, at_normal, ab_normal, ae_ret, ao_nil, ao_cons, if_f, as_move, as_assign, as_convert, fr_false, List.contains_nil, beq_self_eq_true, hk_some, hopG, rd, aopsD, constT, evT, lk, putT, convF, resF, resL, constA, cellA, Option.map_some, Option.bind_some, Nat.reduceSub, Nat.reduceEqDiff, Nat.reduceLeDiff, and_true, and_self, eq_self, Bool.false_eq_true, ↓reduceIte, TT3, TT23]
                  try rfl
                · rw [dT] at c7
                  rw [if_pos (by omega)]
                  simp only [ac_ret, ac_seq, ac_region, at_normal, at_ret, ab_ret, ae_ret, ao_nil, ao_cons, if_t, as_assign, fr_false, List.contains_nil, beq_self_eq_true, rd, aopsD, constT, evT, lk, putT, resF, resL, constA, cellA, Option.map_some, Option.bind_some, Nat.reduceSub, Nat.reduceEqDiff, Nat.reduceLeDiff, and_true, and_self, eq_self, Bool.false_eq_true, ↓reduceIte]
                  try rfl
              · rw [dT] at c6
                rw [if_pos (.inr c6)]
                simp only [ac_ret, ac_seq, ac_region, at_normal, at_ret, ab_ret, ae_ret, ao_nil, ao_cons, if_t, as_assign, fr_false, List.contains_nil, beq_self_eq_true, rd, aopsD, constT, evT, lk, putT, resF, resL, constA, cellA, Option.map_some, Option.bind_some, Nat.reduceSub, Nat.reduceEqDiff, Nat.reduceLeDiff, and_true, and_self, eq_self, Bool.false_eq_true, ↓reduceIte]
                try rfl
            · rw [dT] at c5
              rw [if_pos (.inl c5)]
              simp only [ac_ret, ac_seq, ac_cond, ac_region, at_normal, at_ret, ab_ret, ae_ret, ao_nil, ao_cons, ao_guard_f, sk_at, pk_at, if_t, as_pick, as_assign, fr_false, List.contains_nil, beq_self_eq_true, rd, aopsD, constT, evT, lk, putT, GV, gdst, resF, resL, constA, cellA, Option.map_some, Option.bind_some, Nat.reduceSub, Nat.reduceEqDiff, Nat.reduceLeDiff, and_true, and_self, eq_self, Bool.false_eq_true, ↓reduceIte]
              try rfl
        · rw [dT] at c4
          rw [if_pos (by omega)]
          simp only [ac_ret, ac_seq, ac_region, at_normal, at_ret, ae_ret, ao_nil, ao_cons, if_t, as_assign, fr_false, List.contains_nil, beq_self_eq_true, rd, aopsD, constT, evT, lk, putT, resF, resL, constA, cellA, Option.map_some, Option.bind_some, Nat.reduceSub, Nat.reduceEqDiff, Nat.reduceLeDiff, and_true, and_self, eq_self, Bool.false_eq_true, ↓reduceIte]
          try rfl
      · rw [dT] at c3
        rw [if_pos (.inr c3)]
        simp only [ac_ret, ac_seq, ac_region, at_normal, at_ret, ae_ret, ao_nil, ao_cons, if_t, as_assign, fr_false, List.contains_nil, beq_self_eq_true, rd, aopsD, constT, evT, lk, putT, resF, resL, constA, cellA, Option.map_some, Option.bind_some, Nat.reduceSub, Nat.reduceEqDiff, Nat.reduceLeDiff, and_true, and_self, eq_self, Bool.false_eq_true, ↓reduceIte]
        try rfl
    · rw [dT] at c2
      rw [if_pos (.inl c2)]
      simp only [ac_ret, ac_seq, ac_cond, ac_region, at_normal, at_ret, ae_ret, ao_nil, ao_cons, ao_guard_f, sk_at, pk_at, if_t, as_pick, as_assign, fr_false, List.contains_nil, beq_self_eq_true, rd, aopsD, constT, evT, lk, putT, GV, gdst, resF, resL, constA, cellA, Option.map_some, Option.bind_some, Nat.reduceSub, Nat.reduceEqDiff, Nat.reduceLeDiff, and_true, and_self, eq_self, Bool.false_eq_true, ↓reduceIte]
      try rfl
  · rw [dT] at c1
    rw [show ipHd b = (0, 0, 4) from if_pos (by omega)]
    simp only [ac_ret, ac_seq, ac_region, at_normal, at_ret, ae_ret, ao_nil, ao_cons, if_t, as_assign, fr_false, List.contains_nil, beq_self_eq_true, rd, aopsD, constT, evT, lk, putT, resF, resL, constA, cellA, Option.map_some, Option.bind_some, Nat.reduceSub, Nat.reduceEqDiff, Nat.reduceLeDiff, and_true, and_self, eq_self, Bool.false_eq_true, ↓reduceIte]
    try rfl
def pkt0 : PktN := ⟨0, 0, false, false, 0, 0, 0, 0, 0, [], []⟩
/-- The packet that bytes begin with, or why it is none. -/
def ipP (b : List UInt8) : PktN × Int :=
  if (ipHd b).2.2 = 0 then (⟨byteN b 1, get16 b 4, decide (get16 b 6 / 16384 % 2 = 1), decide (get16 b 6 / 8192 % 2 = 1), get16 b 6 % 8192, byteN b 8, byteN b 9, get32 b 12, get32 b 16, cutB b 20 ((ipHd b).1 - 20), cutB b (ipHd b).1 ((ipHd b).2.1 - (ipHd b).1)⟩, 0)
  else (pkt0, (ipHd b).2.2)
theorem ipHd_cases (b : List UInt8) : ((ipHd b).2.2 = 3 ∨ (ipHd b).2.2 = 4 ∨ (ipHd b).2.2 = 5) ∨
    ((ipHd b).2.2 = 0 ∧ 20 ≤ b.length ∧ 69 ≤ byteN b 0 ∧ byteN b 0 ≤ 79 ∧ (ipHd b).1 = 4 * (byteN b 0 - 64) ∧ (ipHd b).2.1 = get16 b 2 ∧ (ipHd b).1 ≤ b.length ∧ onesF (b.take (ipHd b).1.toNat) = 65535 ∧ get16 b 6 < 32768 ∧ (ipHd b).1 ≤ get16 b 2 ∧ get16 b 2 ≤ b.length) := by
  unfold ipHd
  split
  · simp
  · split
    · simp
    · split
      · simp
      · split
        · simp
        · split
          · simp
          · split
            · simp
            · rename_i h1 h2 h3 h4 h5 h6
              simp only [Decidable.not_not] at h4
              refine .inr ⟨rfl, by omega, by omega, by omega, rfl, rfl, by omega, h4, by omega, by omega, by omega⟩
set_option maxRecDepth 100000 in
theorem ipParse_a (b : List UInt8) (hl : b.length ≤ 1000000) : ASpec Try.prog 84 [.bs b] (.tup [pktA (ipP b).1, i64 (ipP b).2]) := by
  have hsm : small b := by simp only [small]; omega
  have n6 := get16_bd b 6
  have n2 := get16_bd b 2
  have d1 := df_b _ n6
  have d2 := mf_b _ n6
  have d3 : (get16 b 6).tmod 8192 = get16 b 6 % 8192 := tmodN n6.1
  have hc := ipHd_cases b
  refine ASpec.of_body TT_ok Try.mixed _ [.cell 2 92, .tmp 3] ([], []) Try.func84 (by kernel_rfl) rfl rfl (by simp only [Try.ntmps84, List.length_cons, List.length_nil]; omega) rfl (by kernel_rfl) ?_
  simp only [argE_cons, argE_nil, ac_seq, ac_region, at_normal, ao_nil, ao_cons, as_call, as_alloc, as_move, as_assign, pktL, pktA, u8A, u16A, u32A, i64, boA, fr_false, List.contains_nil, beq_self_eq_true, rd, aopsD, heapF, frzW, frzR, constT, evT, lk, putT, argsF, constA, cellA, List.length_nil, List.nil_append, Option.map_some, Nat.reduceSub, Nat.reduceLeDiff, Nat.succ_ne_zero, true_and, eq_self, Bool.false_eq_true, ↓reduceIte, Nat.zero_add, TT92]
  refine ACall.intro (ipHeads_a b hl) ?_
  generalize hH : ipHd b = H at *
  obtain ⟨sz, al, e⟩ := H
  simp only at hc
  rcases hc with hc | ⟨rfl, h1, h2, h3, h4, h5, h6, h7, h8, h9, h10⟩
  · have hne : decide (e = 0) = false := by rw [dF]; omega
    have hP : ipP b = (pkt0, e) := by rw [ipP, hH, if_neg (by simp only; omega)]
    rw [hP]
    simp only [hne, ac_ret, ac_seq, ac_cond, ac_region, at_normal, at_ret, ae_ret, ao_nil, ao_cons, if_t, as_store, as_move, as_assign, as_binOp, as_extract, as_build, i64, fr_false, fr_nil, fr_cons, List.contains_nil, beq_self_eq_true, Bool.and_self, hk_some, hopG, rd, aopsD, heapF, constT, evT, lk, putT, binF, loadF, cellsF, ovw, fillF, buildF, partsF, okCell, resF, resL, constA, cellA, TK.isAgg, Value.oneCell', List.length_cons, List.length_nil, List.getElem?_cons_zero, List.getElem?_cons_succ, List.drop_zero, List.take_succ_cons, List.take_nil, List.set_cons_zero, List.set_cons_succ, List.all_cons, List.all_nil, Option.map_some, Option.bind_some, Nat.reduceAdd, Nat.reduceSub, Nat.reduceEqDiff, Nat.reduceLeDiff, true_and, and_true, and_self, eq_self, Bool.false_eq_true, Bool.not_false, ↓reduceIte, Nat.zero_add, Nat.le_refl, TT61, TT92]
    try rfl
  · have hP : ipP b = (⟨byteN b 1, get16 b 4, decide (get16 b 6 / 16384 % 2 = 1), decide (get16 b 6 / 8192 % 2 = 1), get16 b 6 % 8192, byteN b 8, byteN b 9, get32 b 12, get32 b 16, cutB b 20 (sz - 20), cutB b sz (al - sz)⟩, 0) := by rw [ipP, hH, if_pos rfl]
    rw [hP]
    simp only [getD_byteN, ac_skip, ac_seq, ac_cond, ac_region, at_normal, ao_nil, ao_cons, if_f, as_call, as_alloc, as_store, as_move, as_assign, as_binOp, as_load, as_indexAddr, as_extract, as_build, i64, fr_false, List.contains_nil, Nat.reduceBEq, beq_self_eq_true, decide_true, Bool.and_self, hk_some, hopG, rd, aopsD, heapF, frzW, frzR, tlN, constT, evT, lk, putT, binF, loadF, cellsF, ovw, fillF, buildF, partsF, argsF, okCell, constA, cellA, TK.isAgg, Value.oneCell', List.length_cons, List.length_nil, List.getElem?_cons_zero, List.getElem?_cons_succ, List.set_cons_zero, List.set_cons_succ, List.nil_append, List.cons_append, List.all_cons, List.all_nil, Option.map_some, Nat.reduceAdd, Nat.reduceSub, Nat.reduceEqDiff, Nat.reduceLeDiff, Nat.succ_ne_zero, true_and, and_self, eq_self, Bool.false_eq_true, Bool.not_true, ↓reduceIte, Int.reduceToNat, Int.reduceLE, Nat.zero_add, Nat.le_refl, TT5, TT38, TT61, TT92]
    refine ⟨by omega, by omega, by omega, ?_⟩
    refine ACall.intro (get16_a b 6 (by omega)) ?_
    simp only [ac_seq, ac_region, at_normal, ao_nil, ao_cons, as_call, as_move, as_assign, as_extract, u16A, boA, fr_false, List.contains_nil, beq_self_eq_true, hk_some, hopG, rd, aopsD, frzW, frzR, constT, evT, lk, putT, argsF, constA, cellA, List.getElem?_cons_zero, List.getElem?_cons_succ, Option.map_some, Nat.reduceSub, Nat.reduceEqDiff, Nat.reduceLeDiff, Nat.succ_ne_zero, true_and, eq_self, Bool.false_eq_true, ↓reduceIte]
    refine ACall.intro (get16_a b 4 (by omega)) ?_
    simp only [d1, d2, d3, ac_seq, ac_region, at_normal, ao_nil, ao_cons, as_call, as_store, as_move, as_binOp, as_fieldAddr, as_extract, u16A, boA, fr_false, List.contains_nil, beq_self_eq_true, Bool.and_self, Int.reduceEq, hk_some, hopG, rd, aopsD, heapF, frzW, frzR, constT, evT, lk, putT, binF, cellsF, ovw, argsF, okCell, constA, cellA, Value.oneCell', List.length_cons, List.length_nil, List.getElem?_cons_zero, List.getElem?_cons_succ, List.set_cons_zero, List.set_cons_succ, List.all_cons, List.all_nil, Option.map_some, Nat.reduceAdd, Nat.reduceSub, Nat.reduceEqDiff, Nat.reduceLeDiff, Nat.succ_ne_zero, ne_eq, not_false_eq_true, true_and, and_self, eq_self, Bool.false_eq_true, ↓reduceIte, Nat.zero_add, TT4, TT23, TT92]
    refine ACall.intro (get32_a b 12 (by omega)) ?_
    simp only [ac_seq, ac_region, at_normal, ao_nil, ao_cons, as_call, as_store, as_move, as_fieldAddr, as_extract, u32A, boA, fr_false, List.contains_nil, beq_self_eq_true, Bool.and_self, hk_some, hopG, rd, aopsD, heapF, frzW, frzR, constT, evT, lk, putT, cellsF, ovw, argsF, okCell, constA, cellA, Value.oneCell', List.length_cons, List.length_nil, List.getElem?_cons_zero, List.getElem?_cons_succ, List.set_cons_zero, List.set_cons_succ, List.all_cons, List.all_nil, Option.map_some, Nat.reduceAdd, Nat.reduceSub, Nat.reduceEqDiff, Nat.reduceLeDiff, Nat.succ_ne_zero, ne_eq, not_false_eq_true, true_and, and_self, eq_self, Bool.false_eq_true, ↓reduceIte, Nat.zero_add, TT22, TT92]
    refine ACall.intro (get32_a b 16 (by omega)) ?_
    simp only [i64_in (n := sz - 20) (by omega) (by omega), ac_seq, ac_region, at_normal, ao_nil, ao_cons, as_call, as_store, as_move, as_binOp, as_fieldAddr, as_extract, u32A, boA, fr_false, List.contains_nil, beq_self_eq_true, Bool.and_self, hk_some, hopG, rd, aopsD, heapF, frzW, frzR, constT, evT, lk, putT, binF, cellsF, ovw, argsF, okCell, constA, cellA, Value.oneCell', List.length_cons, List.length_nil, List.getElem?_cons_zero, List.getElem?_cons_succ, List.set_cons_zero, List.set_cons_succ, List.all_cons, List.all_nil, Option.map_some, Nat.reduceAdd, Nat.reduceSub, Nat.reduceEqDiff, Nat.reduceLeDiff, Nat.succ_ne_zero, ne_eq, not_false_eq_true, true_and, and_self, eq_self, Bool.false_eq_true, ↓reduceIte, Nat.zero_add, TT3, TT22, TT92]
    refine ACall.intro (cut_a b 20 _ (by omega) hsm) ?_
    simp only [i64_in (n := al - sz) (by omega) (by omega), ac_seq, ac_region, at_normal, ao_nil, ao_cons, as_call, as_store, as_move, as_binOp, as_fieldAddr, as_extract, boA, fr_false, List.contains_nil, beq_self_eq_true, Bool.and_self, hk_some, hopG, rd, aopsD, heapF, frzW, frzR, evT, lk, putT, binF, cellsF, ovw, argsF, okCell, List.length_cons, List.length_nil, List.getElem?_cons_zero, List.getElem?_cons_succ, List.set_cons_zero, List.set_cons_succ, List.all_cons, List.all_nil, Option.map_some, Nat.reduceAdd, Nat.reduceSub, Nat.reduceEqDiff, Nat.reduceLeDiff, Nat.succ_ne_zero, ne_eq, not_false_eq_true, true_and, and_self, eq_self, Bool.false_eq_true, ↓reduceIte, Nat.zero_add, TT3, TT38, TT92]
    refine ACall.intro (cut_a b sz _ (by omega) hsm) ?_
    simp only [ac_ret, ac_seq, ac_region, at_normal, ae_ret, ao_nil, ao_cons, as_store, as_move, as_assign, as_load, as_fieldAddr, as_extract, boA, fr_false, fr_nil, fr_cons, List.contains_nil, beq_self_eq_true, Bool.and_self, hk_some, hopG, rd, aopsD, heapF, constT, evT, lk, putT, loadF, cellsF, ovw, okCell, resF, resL, constA, cellA, TK.isAgg, Value.oneCell', List.length_cons, List.length_nil, List.getElem?_cons_zero, List.getElem?_cons_succ, List.drop_zero, List.take_succ_cons, List.take_nil, List.set_cons_zero, List.set_cons_succ, List.all_cons, List.all_nil, Option.map_some, Option.bind_some, Nat.reduceAdd, Nat.reduceSub, Nat.reduceEqDiff, Nat.reduceLeDiff, Nat.succ_ne_zero, ne_eq, not_false_eq_true, and_true, and_self, eq_self, Bool.false_eq_true, ↓reduceIte, Nat.zero_add, Nat.le_refl, TT38, TT92]
    try rfl
end Go.Proofs.Ytafajmnlknmfiaa
