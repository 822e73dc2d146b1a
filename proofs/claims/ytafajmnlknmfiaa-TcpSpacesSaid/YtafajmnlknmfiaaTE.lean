/- Flags and spaces. -/
import Derived.Test.YtafajmnlknmfiaaTD
namespace Go.Proofs.Ytafajmnlknmfiaa
set_option linter.unusedSimpArgs false
set_option linter.unusedVariables false
open Go.RowKit

def pfxT (f : Nat → Bool) : Nat → Bool
  | 0 => true
  | n + 1 => pfxT f n && f n
theorem pfxT_s (f : Nat → Bool) (k : Nat) (b : Bool) (h : b = pfxT f k) : (b && f k) = pfxT f (k + 1) := by rw [h]; rfl
def pw2 : Nat → Int
  | 0 => 1
  | 1 => 2
  | 2 => 4
  | 3 => 8
  | 4 => 16
  | 5 => 32
  | 6 => 64
  | 7 => 128
  | _ => 256
abbrev FT (f g : Int) (i : Nat) : Bool := !decide (f / pw2 i % 2 = 1) || decide (g / pw2 i % 2 = 1)
theorem bits_and8 (a b : Nat) (ha : a < 256) (hb : b < 256) : bits .and .u8 (a : Int) (b : Int) = ((a &&& b : Nat) : Int) := by
  have h : a &&& b < 256 := Nat.lt_of_le_of_lt Nat.and_le_left ha
  show IntKind.u8.wrap (((BitVec.ofInt 8 (a : Int) &&& BitVec.ofInt 8 (b : Int)).toNat : Nat) : Int) = _
  rw [BitVec.toNat_and, BitVec.toNat_ofInt, BitVec.toNat_ofInt]
  have e1 : ((a : Int) % ((2 ^ 8 : Nat) : Int)).toNat = a := by
    have : ((2 ^ 8 : Nat) : Int) = 256 := by decide
    omega
  have e2 : ((b : Int) % ((2 ^ 8 : Nat) : Int)).toNat = b := by
    have : ((2 ^ 8 : Nat) : Int) = 256 := by decide
    omega
  rw [e1, e2]
  exact u8_in (by omega) (by omega)
theorem bit_of (a i : Nat) (hi : i < 8) : decide ((a : Int) / pw2 i % 2 = 1) = a.testBit i := by
  rw [Nat.testBit_eq_decide_div_mod_eq, Bool.eq_iff_iff, decide_eq_true_eq, decide_eq_true_eq]
  rcases (show i = 0 ∨ i = 1 ∨ i = 2 ∨ i = 3 ∨ i = 4 ∨ i = 5 ∨ i = 6 ∨ i = 7 by omega) with h | h | h | h | h | h | h | h <;> subst h <;> simp only [pw2] <;> omega
theorem pfxT_all (f : Nat → Bool) (n : Nat) : pfxT f n = true ↔ ∀ i, i < n → f i = true := by
  induction n with
  | zero => simp [pfxT]
  | succ n ih =>
    rw [pfxT, Bool.and_eq_true, ih]
    constructor
    · rintro ⟨h1, h2⟩ i hi
      by_cases h : i = n
      · rw [h]; exact h2
      · exact h1 i (by omega)
    · intro h
      exact ⟨fun i hi => h i (by omega), h n (by omega)⟩
theorem has_pfx (f g : Int) (hf : 0 ≤ f ∧ f ≤ 255) (hg : 0 ≤ g ∧ g ≤ 255) : decide (bits .and .u8 g f = f) = pfxT (FT f g) 8 := by
  obtain ⟨a, rfl⟩ := Int.eq_ofNat_of_zero_le hf.1
  obtain ⟨b, rfl⟩ := Int.eq_ofNat_of_zero_le hg.1
  have ha : a < 256 := by omega
  have hb : b < 256 := by omega
  rw [Bool.eq_iff_iff, decide_eq_true_eq, pfxT_all, bits_and8 b a hb ha]
  have hl : ∀ i, 8 ≤ i → a.testBit i = false := fun i hi => Nat.testBit_lt_two_pow (Nat.lt_of_lt_of_le ha (by
    calc 256 = 2 ^ 8 := by decide
      _ ≤ 2 ^ i := Nat.pow_le_pow_right (by omega) hi))
  constructor
  · intro h i hi
    rw [FT, bit_of a i hi, bit_of b i hi]
    have h' : b &&& a = a := by omega
    have := congrArg (fun n => n.testBit i) h'
    simp only [Nat.testBit_and] at this
    cases c1 : a.testBit i <;> cases c2 : b.testBit i <;> simp_all
  · intro h
    have : b &&& a = a := by
      apply Nat.eq_of_testBit_eq
      intro i
      rw [Nat.testBit_and]
      by_cases hi : i < 8
      · have := h i hi
        rw [FT, bit_of a i hi, bit_of b i hi] at this
        cases c1 : a.testBit i <;> cases c2 : b.testBit i <;> simp_all
      · rw [hl i (by omega), Bool.and_false]
    omega
structure TsK (f g : Int) where
  j : Nat
  b : Int
  a : Bool
  hj : j ≤ 8
  hb : b = pw2 j
  ha : a = pfxT (FT f g) j
def tsI (f : Int) (t : SegN) (b : Int) (a : Bool) : AE :=
  ⟨[(6, .v (i64 b)), (5, .v (boA a)), (4, .v (boA false)), (2, .p 0 0), (1, .v (u8A f))], [(true, segL t)]⟩
theorem leT5 {E : AE} {L : Nat} {v0 v1 v2 v3 v4 : TV} (h0 : lk E.t 6 = v0) (h1 : lk E.t 5 = v1) (h2 : lk E.t 4 = v2) (h3 : lk E.t 2 = v3) (h4 : lk E.t 1 = v4)
    (p0 : PtOk L v0) (p1 : PtOk L v1) (p2 : PtOk L v2) (p3 : PtOk L v3) (p4 : PtOk L v4) :
    ∀ p ∈ [(6, v0), (5, v1), (4, v2), (2, v3), (1, v4)], lk E.t p.1 = p.2 ∧ PtOk L p.2 := by
  intro p hp
  simp only [List.mem_cons, List.not_mem_nil, or_false] at hp
  rcases hp with rfl | rfl | rfl | rfl | rfl
  · exact ⟨h0, p0⟩
  · exact ⟨h1, p1⟩
  · exact ⟨h2, p2⟩
  · exact ⟨h3, p3⟩
  · exact ⟨h4, p4⟩
theorem pT1_0 : PtOk 1 (.p 0 0) := (show (0 : Nat) < 1 by decide)
theorem ts1 {f g : Int} (k : Nat) (c : decide (f / pw2 k % 2 = 1) = false) (h : true = pfxT (FT f g) k) : true = pfxT (FT f g) (k + 1) := by
  rw [← pfxT_s _ k true h, FT, c]; rfl
theorem ts2 {f g : Int} (k : Nat) (c : decide (f / pw2 k % 2 = 1) = true) (h : true = pfxT (FT f g) k) : decide (g / pw2 k % 2 = 1) = pfxT (FT f g) (k + 1) := by
  rw [← pfxT_s _ k true h, FT, c]; rfl
set_option maxHeartbeats 4000000 in
set_option maxRecDepth 100000 in
theorem tcpSpaces_a (s : SegN) (f : Int) (hs : s.ok) (hf : 0 ≤ f ∧ f ≤ 255) : ASpec Try.prog 14 [segA s, u8A f] (boA true) := by
  obtain ⟨t, ht⟩ : ∃ t : SegN, t = { s with opts := s.opts.take 50, data := s.data.take 200 } := ⟨_, rfl⟩
  have hto : t.ok := by subst ht; obtain ⟨k1, k2, k3, k4, k5, k6, k7, k8⟩ := hs; constructor <;> assumption
  have l1 : t.opts.length ≤ 50 := by subst ht; simp; omega
  have l2 : t.data.length ≤ 200 := by subst ht; simp; omega
  refine ASpec.of_body TT_ok Try.mixed _ [.tmp 4] ([], []) Try.func14 (by kernel_rfl) rfl rfl (by simp only [Try.ntmps14, List.length_cons, List.length_nil]; omega) rfl (by kernel_rfl) ?_
  simp only [argE_cons, argE_nil, ac_seq, ac_region, at_normal, ao_nil, ao_cons, as_call, as_box, as_assign, as_load, segL, segA, u8A, u16A, u32A, boA, fr_false, List.contains_nil, beq_self_eq_true, hk_some, hopG, rd, aopsD, heapF, frzW, frzR, constT, evT, lk, putT, loadF, cellsF, argsF, constA, cellA, TK.isAgg, List.length_cons, List.length_nil, List.getElem?_cons_zero, List.drop_zero, List.take_succ_cons, List.take_nil, List.nil_append, Option.map_some, Nat.reduceAdd, Nat.reduceSub, Nat.reduceEqDiff, Nat.reduceLeDiff, true_and, eq_self, Bool.false_eq_true, ↓reduceIte, Nat.zero_add, Nat.le_refl, TT40]
  refine ACall.intro (refFew09_a s) ?_
  rw [← ht]
  clear ht
  simp only [ac_seq, ac_block, ac_region, ac_loop, at_normal, ao_nil, ao_cons, as_store, as_assign, segL, segA, u8A, u16A, u32A, fr_false, List.contains_nil, beq_self_eq_true, Bool.and_self, rd, aopsD, heapF, constT, evT, lk, putT, cellsF, ovw, okCell, constA, cellA, Value.oneCell', List.length_cons, List.length_nil, List.getElem?_cons_zero, List.set_cons_zero, List.set_cons_succ, List.all_cons, List.all_nil, Nat.reduceAdd, Nat.reduceSub, Nat.reduceEqDiff, Nat.reduceLeDiff, true_and, and_self, eq_self, Bool.false_eq_true, ↓reduceIte, Nat.zero_add, Nat.le_refl, TT40]
  refine .inr ⟨TsK f t.flags, fun x => tsI f t x.b x.a, fun x => 8 - x.j, ⟨0, 1, true, by decide, rfl, rfl⟩, ⟨rfl, leT5 rfl rfl rfl rfl rfl trivial trivial trivial pT1_0 trivial⟩, ?_⟩
  rintro ⟨j, b, a, hj, hb, ha⟩
  rcases (show j = 0 ∨ j = 1 ∨ j = 2 ∨ j = 3 ∨ j = 4 ∨ j = 5 ∨ j = 6 ∨ j = 7 ∨ j = 8 by omega) with hk' | hk' | hk' | hk' | hk' | hk' | hk' | hk' | hk'
  · subst hk'
    simp only [pw2] at hb
    subst hb
    cases a
    · simp only [tsI, ac_skip, ac_seq, ac_block, ac_cond, ac_region, at_normal, ab_normal, ao_nil, ao_cons, ao_guard_t, ao_guard_f, sk_at, pk_at, if_t, if_f, as_pick, as_move, as_assign, as_binOp, segL, u8A, u16A, u32A, i64, boA, fr_false, List.contains_nil, beq_self_eq_true, decide_true, hk_some, hopG, rd, aopsD, constT, evT, lk, putT, GV, gdst, binF, constA, cellA, Option.map_some, Nat.reduceSub, Nat.reduceEqDiff, Nat.reduceLeDiff, true_and, eq_self, Bool.false_eq_true, ↓reduceIte, Int.reduceLE, Int.reduceMul, TT3]
      exact ⟨⟨1, _, _, by decide, rfl, pfxT_s _ 0 _ ha⟩, ⟨rfl, leT5 rfl rfl rfl rfl rfl trivial trivial trivial pT1_0 trivial⟩, (show 8 - 1 < 8 - 0 by decide)⟩
    · simp only [tsI, ac_skip, ac_seq, ac_block, ac_cond, ac_region, at_normal, ao_nil, ao_cons, ao_guard_t, st_at, if_t, as_call, as_move, as_binOp, segL, u8A, u16A, u32A, i64, boA, fr_false, List.contains_nil, beq_self_eq_true, decide_true, hk_some, hopG, rd, aopsD, frzW, frzR, constT, evT, lk, putT, GV, gdst, binF, argsF, constA, cellA, Option.map_some, Nat.reduceSub, Nat.reduceEqDiff, Nat.reduceLeDiff, true_and, eq_self, Bool.false_eq_true, ↓reduceIte, Int.reduceLE, TT3]
      refine ACall.intro (refBit09_a f 1 hf (by decide)) ?_
      cases c1 : decide (f / 1 % 2 = 1)
      · simp only [ac_region, at_normal, ab_normal, ao_nil, ao_cons, ao_guard_t, ao_guard_f, st_at, sk_at, pk_at, if_t, as_pick, as_move, as_assign, as_binOp, as_unOp, boA, fr_false, List.contains_nil, beq_self_eq_true, hk_some, hopG, rd, aopsD, constT, evT, lk, putT, GV, gdst, binF, unF, constA, cellA, Option.map_some, Nat.reduceSub, Nat.reduceEqDiff, Nat.reduceLeDiff, true_and, eq_self, Bool.false_eq_true, Bool.not_false, ↓reduceIte, Int.reduceMul, TT3]
        exact ⟨⟨1, _, _, by decide, rfl, ts1 0 c1 ha⟩, ⟨rfl, leT5 rfl rfl rfl rfl rfl trivial trivial trivial pT1_0 trivial⟩, (show 8 - 1 < 8 - 0 by decide)⟩
      · simp only [ao_guard_t, ao_guard_f, st_at, if_t, if_f, as_call, as_move, as_unOp, as_load, as_fieldAddr, boA, beq_self_eq_true, hk_some, hopG, rd, frzW, frzR, evT, lk, putT, GV, gdst, unF, loadF, argsF, TK.isAgg, List.getElem?_cons_zero, List.getElem?_cons_succ, List.drop_zero, List.drop_succ_cons, Option.map_some, Nat.reduceSub, Nat.reduceEqDiff, Nat.succ_ne_zero, ne_eq, not_false_eq_true, true_and, eq_self, Bool.false_eq_true, Bool.not_true, ↓reduceIte, Nat.zero_add, TT5, TT40]
        refine ACall.intro (refBit09_a t.flags 1 hto.flags (by decide)) ?_
        simp only [ac_region, at_normal, ab_normal, ao_nil, ao_cons, ao_guard_t, st_at, pk_at, if_t, if_f, as_pick, as_move, as_assign, as_binOp, boA, fr_false, List.contains_nil, beq_self_eq_true, hk_some, hopG, rd, aopsD, constT, evT, lk, putT, GV, gdst, binF, constA, cellA, Option.map_some, Nat.reduceSub, Nat.reduceEqDiff, Nat.reduceLeDiff, true_and, eq_self, Bool.false_eq_true, ↓reduceIte, Int.reduceMul, TT3]
        exact ⟨⟨1, _, _, by decide, rfl, ts2 0 c1 ha⟩, ⟨rfl, leT5 rfl rfl rfl rfl rfl trivial trivial trivial pT1_0 trivial⟩, (show 8 - 1 < 8 - 0 by decide)⟩
  · subst hk'
    simp only [pw2] at hb
    subst hb
    cases a
    · simp only [tsI, ac_skip, ac_seq, ac_block, ac_cond, ac_region, at_normal, ab_normal, ao_nil, ao_cons, ao_guard_t, ao_guard_f, sk_at, pk_at, if_t, if_f, as_pick, as_move, as_assign, as_binOp, segL, u8A, u16A, u32A, i64, boA, fr_false, List.contains_nil, beq_self_eq_true, decide_true, hk_some, hopG, rd, aopsD, constT, evT, lk, putT, GV, gdst, binF, constA, cellA, Option.map_some, Nat.reduceSub, Nat.reduceEqDiff, Nat.reduceLeDiff, true_and, eq_self, Bool.false_eq_true, ↓reduceIte, Int.reduceLE, Int.reduceMul, TT3]
      exact ⟨⟨2, _, _, by decide, rfl, pfxT_s _ 1 _ ha⟩, ⟨rfl, leT5 rfl rfl rfl rfl rfl trivial trivial trivial pT1_0 trivial⟩, (show 8 - 2 < 8 - 1 by decide)⟩
    · simp only [tsI, ac_skip, ac_seq, ac_block, ac_cond, ac_region, at_normal, ao_nil, ao_cons, ao_guard_t, st_at, if_t, as_call, as_move, as_binOp, segL, u8A, u16A, u32A, i64, boA, fr_false, List.contains_nil, beq_self_eq_true, decide_true, hk_some, hopG, rd, aopsD, frzW, frzR, constT, evT, lk, putT, GV, gdst, binF, argsF, constA, cellA, Option.map_some, Nat.reduceSub, Nat.reduceEqDiff, Nat.reduceLeDiff, true_and, eq_self, Bool.false_eq_true, ↓reduceIte, Int.reduceLE, TT3]
      refine ACall.intro (refBit09_a f 2 hf (by decide)) ?_
      cases c1 : decide (f / 2 % 2 = 1)
      · simp only [ac_region, at_normal, ab_normal, ao_nil, ao_cons, ao_guard_t, ao_guard_f, st_at, sk_at, pk_at, if_t, as_pick, as_move, as_assign, as_binOp, as_unOp, boA, fr_false, List.contains_nil, beq_self_eq_true, hk_some, hopG, rd, aopsD, constT, evT, lk, putT, GV, gdst, binF, unF, constA, cellA, Option.map_some, Nat.reduceSub, Nat.reduceEqDiff, Nat.reduceLeDiff, true_and, eq_self, Bool.false_eq_true, Bool.not_false, ↓reduceIte, Int.reduceMul, TT3]
        exact ⟨⟨2, _, _, by decide, rfl, ts1 1 c1 ha⟩, ⟨rfl, leT5 rfl rfl rfl rfl rfl trivial trivial trivial pT1_0 trivial⟩, (show 8 - 2 < 8 - 1 by decide)⟩
      · simp only [ao_guard_t, ao_guard_f, st_at, if_t, if_f, as_call, as_move, as_unOp, as_load, as_fieldAddr, boA, beq_self_eq_true, hk_some, hopG, rd, frzW, frzR, evT, lk, putT, GV, gdst, unF, loadF, argsF, TK.isAgg, List.getElem?_cons_zero, List.getElem?_cons_succ, List.drop_zero, List.drop_succ_cons, Option.map_some, Nat.reduceSub, Nat.reduceEqDiff, Nat.succ_ne_zero, ne_eq, not_false_eq_true, true_and, eq_self, Bool.false_eq_true, Bool.not_true, ↓reduceIte, Nat.zero_add, TT5, TT40]
        refine ACall.intro (refBit09_a t.flags 2 hto.flags (by decide)) ?_
        simp only [ac_region, at_normal, ab_normal, ao_nil, ao_cons, ao_guard_t, st_at, pk_at, if_t, if_f, as_pick, as_move, as_assign, as_binOp, boA, fr_false, List.contains_nil, beq_self_eq_true, hk_some, hopG, rd, aopsD, constT, evT, lk, putT, GV, gdst, binF, constA, cellA, Option.map_some, Nat.reduceSub, Nat.reduceEqDiff, Nat.reduceLeDiff, true_and, eq_self, Bool.false_eq_true, ↓reduceIte, Int.reduceMul, TT3]
        exact ⟨⟨2, _, _, by decide, rfl, ts2 1 c1 ha⟩, ⟨rfl, leT5 rfl rfl rfl rfl rfl trivial trivial trivial pT1_0 trivial⟩, (show 8 - 2 < 8 - 1 by decide)⟩
  · subst hk'
    simp only [pw2] at hb
    subst hb
    cases a
    · simp only [tsI, ac_skip, ac_seq, ac_block, ac_cond, ac_region, at_normal, ab_normal, ao_nil, ao_cons, ao_guard_t, ao_guard_f, sk_at, pk_at, if_t, if_f, as_pick, as_move, as_assign, as_binOp, segL, u8A, u16A, u32A, i64, boA, fr_false, List.contains_nil, beq_self_eq_true, decide_true, hk_some, hopG, rd, aopsD, constT, evT, lk, putT, GV, gdst, binF, constA, cellA, Option.map_some, Nat.reduceSub, Nat.reduceEqDiff, Nat.reduceLeDiff, true_and, eq_self, Bool.false_eq_true, ↓reduceIte, Int.reduceLE, Int.reduceMul, TT3]
      exact ⟨⟨3, _, _, by decide, rfl, pfxT_s _ 2 _ ha⟩, ⟨rfl, leT5 rfl rfl rfl rfl rfl trivial trivial trivial pT1_0 trivial⟩, (show 8 - 3 < 8 - 2 by decide)⟩
    · simp only [tsI, ac_skip, ac_seq, ac_block, ac_cond, ac_region, at_normal, ao_nil, ao_cons, ao_guard_t, st_at, if_t, as_call, as_move, as_binOp, segL, u8A, u16A, u32A, i64, boA, fr_false, List.contains_nil, beq_self_eq_true, decide_true, hk_some, hopG, rd, aopsD, frzW, frzR, constT, evT, lk, putT, GV, gdst, binF, argsF, constA, cellA, Option.map_some, Nat.reduceSub, Nat.reduceEqDiff, Nat.reduceLeDiff, true_and, eq_self, Bool.false_eq_true, ↓reduceIte, Int.reduceLE, TT3]
      refine ACall.intro (refBit09_a f 4 hf (by decide)) ?_
      cases c1 : decide (f / 4 % 2 = 1)
      · simp only [ac_region, at_normal, ab_normal, ao_nil, ao_cons, ao_guard_t, ao_guard_f, st_at, sk_at, pk_at, if_t, as_pick, as_move, as_assign, as_binOp, as_unOp, boA, fr_false, List.contains_nil, beq_self_eq_true, hk_some, hopG, rd, aopsD, constT, evT, lk, putT, GV, gdst, binF, unF, constA, cellA, Option.map_some, Nat.reduceSub, Nat.reduceEqDiff, Nat.reduceLeDiff, true_and, eq_self, Bool.false_eq_true, Bool.not_false, ↓reduceIte, Int.reduceMul, TT3]
        exact ⟨⟨3, _, _, by decide, rfl, ts1 2 c1 ha⟩, ⟨rfl, leT5 rfl rfl rfl rfl rfl trivial trivial trivial pT1_0 trivial⟩, (show 8 - 3 < 8 - 2 by decide)⟩
      · simp only [ao_guard_t, ao_guard_f, st_at, if_t, if_f, as_call, as_move, as_unOp, as_load, as_fieldAddr, boA, beq_self_eq_true, hk_some, hopG, rd, frzW, frzR, evT, lk, putT, GV, gdst, unF, loadF, argsF, TK.isAgg, List.getElem?_cons_zero, List.getElem?_cons_succ, List.drop_zero, List.drop_succ_cons, Option.map_some, Nat.reduceSub, Nat.reduceEqDiff, Nat.succ_ne_zero, ne_eq, not_false_eq_true, true_and, eq_self, Bool.false_eq_true, Bool.not_true, ↓reduceIte, Nat.zero_add, TT5, TT40]
        refine ACall.intro (refBit09_a t.flags 4 hto.flags (by decide)) ?_
        simp only [ac_region, at_normal, ab_normal, ao_nil, ao_cons, ao_guard_t, st_at, pk_at, if_t, if_f, as_pick, as_move, as_assign, as_binOp, boA, fr_false, List.contains_nil, beq_self_eq_true, hk_some, hopG, rd, aopsD, constT, evT, lk, putT, GV, gdst, binF, constA, cellA, Option.map_some, Nat.reduceSub, Nat.reduceEqDiff, Nat.reduceLeDiff, true_and, eq_self, Bool.false_eq_true, ↓reduceIte, Int.reduceMul, TT3]
        exact ⟨⟨3, _, _, by decide, rfl, ts2 2 c1 ha⟩, ⟨rfl, leT5 rfl rfl rfl rfl rfl trivial trivial trivial pT1_0 trivial⟩, (show 8 - 3 < 8 - 2 by decide)⟩
  · subst hk'
    simp only [pw2] at hb
    subst hb
    cases a
    · simp only [tsI, ac_skip, ac_seq, ac_block, ac_cond, ac_region, at_normal, ab_normal, ao_nil, ao_cons, ao_guard_t, ao_guard_f, sk_at, pk_at, if_t, if_f, as_pick, as_move, as_assign, as_binOp, segL, u8A, u16A, u32A, i64, boA, fr_false, List.contains_nil, beq_self_eq_true, decide_true, hk_some, hopG, rd, aopsD, constT, evT, lk, putT, GV, gdst, binF, constA, cellA, Option.map_some, Nat.reduceSub, Nat.reduceEqDiff, Nat.reduceLeDiff, true_and, eq_self, Bool.false_eq_true, ↓reduceIte, Int.reduceLE, Int.reduceMul, TT3]
      exact ⟨⟨4, _, _, by decide, rfl, pfxT_s _ 3 _ ha⟩, ⟨rfl, leT5 rfl rfl rfl rfl rfl trivial trivial trivial pT1_0 trivial⟩, (show 8 - 4 < 8 - 3 by decide)⟩
    · simp only [tsI, ac_skip, ac_seq, ac_block, ac_cond, ac_region, at_normal, ao_nil, ao_cons, ao_guard_t, st_at, if_t, as_call, as_move, as_binOp, segL, u8A, u16A, u32A, i64, boA, fr_false, List.contains_nil, beq_self_eq_true, decide_true, hk_some, hopG, rd, aopsD, frzW, frzR, constT, evT, lk, putT, GV, gdst, binF, argsF, constA, cellA, Option.map_some, Nat.reduceSub, Nat.reduceEqDiff, Nat.reduceLeDiff, true_and, eq_self, Bool.false_eq_true, ↓reduceIte, Int.reduceLE, TT3]
      refine ACall.intro (refBit09_a f 8 hf (by decide)) ?_
      cases c1 : decide (f / 8 % 2 = 1)
      · simp only [ac_region, at_normal, ab_normal, ao_nil, ao_cons, ao_guard_t, ao_guard_f, st_at, sk_at, pk_at, if_t, as_pick, as_move, as_assign, as_binOp, as_unOp, boA, fr_false, List.contains_nil, beq_self_eq_true, hk_some, hopG, rd, aopsD, constT, evT, lk, putT, GV, gdst, binF, unF, constA, cellA, Option.map_some, Nat.reduceSub, Nat.reduceEqDiff, Nat.reduceLeDiff, true_and, eq_self, Bool.false_eq_true, Bool.not_false, ↓reduceIte, Int.reduceMul, TT3]
        exact ⟨⟨4, _, _, by decide, rfl, ts1 3 c1 ha⟩, ⟨rfl, leT5 rfl rfl rfl rfl rfl trivial trivial trivial pT1_0 trivial⟩, (show 8 - 4 < 8 - 3 by decide)⟩
      · simp only [ao_guard_t, ao_guard_f, st_at, if_t, if_f, as_call, as_move, as_unOp, as_load, as_fieldAddr, boA, beq_self_eq_true, hk_some, hopG, rd, frzW, frzR, evT, lk, putT, GV, gdst, unF, loadF, argsF, TK.isAgg, List.getElem?_cons_zero, List.getElem?_cons_succ, List.drop_zero, List.drop_succ_cons, Option.map_some, Nat.reduceSub, Nat.reduceEqDiff, Nat.succ_ne_zero, ne_eq, not_false_eq_true, true_and, eq_self, Bool.false_eq_true, Bool.not_true, ↓reduceIte, Nat.zero_add, TT5, TT40]
        refine ACall.intro (refBit09_a t.flags 8 hto.flags (by decide)) ?_
        simp only [ac_region, at_normal, ab_normal, ao_nil, ao_cons, ao_guard_t, st_at, pk_at, if_t, if_f, as_pick, as_move, as_assign, as_binOp, boA, fr_false, List.contains_nil, beq_self_eq_true, hk_some, hopG, rd, aopsD, constT, evT, lk, putT, GV, gdst, binF, constA, cellA, Option.map_some, Nat.reduceSub, Nat.reduceEqDiff, Nat.reduceLeDiff, true_and, eq_self, Bool.false_eq_true, ↓reduceIte, Int.reduceMul, TT3]
        exact ⟨⟨4, _, _, by decide, rfl, ts2 3 c1 ha⟩, ⟨rfl, leT5 rfl rfl rfl rfl rfl trivial trivial trivial pT1_0 trivial⟩, (show 8 - 4 < 8 - 3 by decide)⟩
  · subst hk'
    simp only [pw2] at hb
    subst hb
    cases a
    · simp only [tsI, ac_skip, ac_seq, ac_block, ac_cond, ac_region, at_normal, ab_normal, ao_nil, ao_cons, ao_guard_t, ao_guard_f, sk_at, pk_at, if_t, if_f, as_pick, as_move, as_assign, as_binOp, segL, u8A, u16A, u32A, i64, boA, fr_false, List.contains_nil, beq_self_eq_true, decide_true, hk_some, hopG, rd, aopsD, constT, evT, lk, putT, GV, gdst, binF, constA, cellA, Option.map_some, Nat.reduceSub, Nat.reduceEqDiff, Nat.reduceLeDiff, true_and, eq_self, Bool.false_eq_true, ↓reduceIte, Int.reduceLE, Int.reduceMul, TT3]
      exact ⟨⟨5, _, _, by decide, rfl, pfxT_s _ 4 _ ha⟩, ⟨rfl, leT5 rfl rfl rfl rfl rfl trivial trivial trivial pT1_0 trivial⟩, (show 8 - 5 < 8 - 4 by decide)⟩
    · simp only [tsI, ac_skip, ac_seq, ac_block, ac_cond, ac_region, at_normal, ao_nil, ao_cons, ao_guard_t, st_at, if_t, as_call, as_move, as_binOp, segL, u8A, u16A, u32A, i64, boA, fr_false, List.contains_nil, beq_self_eq_true, decide_true, hk_some, hopG, rd, aopsD, frzW, frzR, constT, evT, lk, putT, GV, gdst, binF, argsF, constA, cellA, Option.map_some, Nat.reduceSub, Nat.reduceEqDiff, Nat.reduceLeDiff, true_and, eq_self, Bool.false_eq_true, ↓reduceIte, Int.reduceLE, TT3]
      refine ACall.intro (refBit09_a f 16 hf (by decide)) ?_
      cases c1 : decide (f / 16 % 2 = 1)
      · simp only [ac_region, at_normal, ab_normal, ao_nil, ao_cons, ao_guard_t, ao_guard_f, st_at, sk_at, pk_at, if_t, as_pick, as_move, as_assign, as_binOp, as_unOp, boA, fr_false, List.contains_nil, beq_self_eq_true, hk_some, hopG, rd, aopsD, constT, evT, lk, putT, GV, gdst, binF, unF, constA, cellA, Option.map_some, Nat.reduceSub, Nat.reduceEqDiff, Nat.reduceLeDiff, true_and, eq_self, Bool.false_eq_true, Bool.not_false, ↓reduceIte, Int.reduceMul, TT3]
        exact ⟨⟨5, _, _, by decide, rfl, ts1 4 c1 ha⟩, ⟨rfl, leT5 rfl rfl rfl rfl rfl trivial trivial trivial pT1_0 trivial⟩, (show 8 - 5 < 8 - 4 by decide)⟩
      · simp only [ao_guard_t, ao_guard_f, st_at, if_t, if_f, as_call, as_move, as_unOp, as_load, as_fieldAddr, boA, beq_self_eq_true, hk_some, hopG, rd, frzW, frzR, evT, lk, putT, GV, gdst, unF, loadF, argsF, TK.isAgg, List.getElem?_cons_zero, List.getElem?_cons_succ, List.drop_zero, List.drop_succ_cons, Option.map_some, Nat.reduceSub, Nat.reduceEqDiff, Nat.succ_ne_zero, ne_eq, not_false_eq_true, true_and, eq_self, Bool.false_eq_true, Bool.not_true, ↓reduceIte, Nat.zero_add, TT5, TT40]
        refine ACall.intro (refBit09_a t.flags 16 hto.flags (by decide)) ?_
        simp only [ac_region, at_normal, ab_normal, ao_nil, ao_cons, ao_guard_t, st_at, pk_at, if_t, if_f, as_pick, as_move, as_assign, as_binOp, boA, fr_false, List.contains_nil, beq_self_eq_true, hk_some, hopG, rd, aopsD, constT, evT, lk, putT, GV, gdst, binF, constA, cellA, Option.map_some, Nat.reduceSub, Nat.reduceEqDiff, Nat.reduceLeDiff, true_and, eq_self, Bool.false_eq_true, ↓reduceIte, Int.reduceMul, TT3]
        exact ⟨⟨5, _, _, by decide, rfl, ts2 4 c1 ha⟩, ⟨rfl, leT5 rfl rfl rfl rfl rfl trivial trivial trivial pT1_0 trivial⟩, (show 8 - 5 < 8 - 4 by decide)⟩
  · subst hk'
    simp only [pw2] at hb
    subst hb
    cases a
    · simp only [tsI, ac_skip, ac_seq, ac_block, ac_cond, ac_region, at_normal, ab_normal, ao_nil, ao_cons, ao_guard_t, ao_guard_f, sk_at, pk_at, if_t, if_f, as_pick, as_move, as_assign, as_binOp, segL, u8A, u16A, u32A, i64, boA, fr_false, List.contains_nil, beq_self_eq_true, decide_true, hk_some, hopG, rd, aopsD, constT, evT, lk, putT, GV, gdst, binF, constA, cellA, Option.map_some, Nat.reduceSub, Nat.reduceEqDiff, Nat.reduceLeDiff, true_and, eq_self, Bool.false_eq_true, ↓reduceIte, Int.reduceLE, Int.reduceMul, TT3]
      exact ⟨⟨6, _, _, by decide, rfl, pfxT_s _ 5 _ ha⟩, ⟨rfl, leT5 rfl rfl rfl rfl rfl trivial trivial trivial pT1_0 trivial⟩, (show 8 - 6 < 8 - 5 by decide)⟩
    · simp only [tsI, ac_skip, ac_seq, ac_block, ac_cond, ac_region, at_normal, ao_nil, ao_cons, ao_guard_t, st_at, if_t, as_call, as_move, as_binOp, segL, u8A, u16A, u32A, i64, boA, fr_false, List.contains_nil, beq_self_eq_true, decide_true, hk_some, hopG, rd, aopsD, frzW, frzR, constT, evT, lk, putT, GV, gdst, binF, argsF, constA, cellA, Option.map_some, Nat.reduceSub, Nat.reduceEqDiff, Nat.reduceLeDiff, true_and, eq_self, Bool.false_eq_true, ↓reduceIte, Int.reduceLE, TT3]
      refine ACall.intro (refBit09_a f 32 hf (by decide)) ?_
      cases c1 : decide (f / 32 % 2 = 1)
      · simp only [ac_region, at_normal, ab_normal, ao_nil, ao_cons, ao_guard_t, ao_guard_f, st_at, sk_at, pk_at, if_t, as_pick, as_move, as_assign, as_binOp, as_unOp, boA, fr_false, List.contains_nil, beq_self_eq_true, hk_some, hopG, rd, aopsD, constT, evT, lk, putT, GV, gdst, binF, unF, constA, cellA, Option.map_some, Nat.reduceSub, Nat.reduceEqDiff, Nat.reduceLeDiff, true_and, eq_self, Bool.false_eq_true, Bool.not_false, ↓reduceIte, Int.reduceMul, TT3]
        exact ⟨⟨6, _, _, by decide, rfl, ts1 5 c1 ha⟩, ⟨rfl, leT5 rfl rfl rfl rfl rfl trivial trivial trivial pT1_0 trivial⟩, (show 8 - 6 < 8 - 5 by decide)⟩
      · simp only [ao_guard_t, ao_guard_f, st_at, if_t, if_f, as_call, as_move, as_unOp, as_load, as_fieldAddr, boA, beq_self_eq_true, hk_some, hopG, rd, frzW, frzR, evT, lk, putT, GV, gdst, unF, loadF, argsF, TK.isAgg, List.getElem?_cons_zero, List.getElem?_cons_succ, List.drop_zero, List.drop_succ_cons, Option.map_some, Nat.reduceSub, Nat.reduceEqDiff, Nat.succ_ne_zero, ne_eq, not_false_eq_true, true_and, eq_self, Bool.false_eq_true, Bool.not_true, ↓reduceIte, Nat.zero_add, TT5, TT40]
        refine ACall.intro (refBit09_a t.flags 32 hto.flags (by decide)) ?_
        simp only [ac_region, at_normal, ab_normal, ao_nil, ao_cons, ao_guard_t, st_at, pk_at, if_t, if_f, as_pick, as_move, as_assign, as_binOp, boA, fr_false, List.contains_nil, beq_self_eq_true, hk_some, hopG, rd, aopsD, constT, evT, lk, putT, GV, gdst, binF, constA, cellA, Option.map_some, Nat.reduceSub, Nat.reduceEqDiff, Nat.reduceLeDiff, true_and, eq_self, Bool.false_eq_true, ↓reduceIte, Int.reduceMul, TT3]
        exact ⟨⟨6, _, _, by decide, rfl, ts2 5 c1 ha⟩, ⟨rfl, leT5 rfl rfl rfl rfl rfl trivial trivial trivial pT1_0 trivial⟩, (show 8 - 6 < 8 - 5 by decide)⟩
  · subst hk'
    simp only [pw2] at hb
    subst hb
    cases a
    · simp only [tsI, ac_skip, ac_seq, ac_block, ac_cond, ac_region, at_normal, ab_normal, ao_nil, ao_cons, ao_guard_t, ao_guard_f, sk_at, pk_at, if_t, if_f, as_pick, as_move, as_assign, as_binOp, segL, u8A, u16A, u32A, i64, boA, fr_false, List.contains_nil, beq_self_eq_true, decide_true, hk_some, hopG, rd, aopsD, constT, evT, lk, putT, GV, gdst, binF, constA, cellA, Option.map_some, Nat.reduceSub, Nat.reduceEqDiff, Nat.reduceLeDiff, true_and, eq_self, Bool.false_eq_true, ↓reduceIte, Int.reduceLE, Int.reduceMul, TT3]
      exact ⟨⟨7, _, _, by decide, rfl, pfxT_s _ 6 _ ha⟩, ⟨rfl, leT5 rfl rfl rfl rfl rfl trivial trivial trivial pT1_0 trivial⟩, (show 8 - 7 < 8 - 6 by decide)⟩
    · simp only [tsI, ac_skip, ac_seq, ac_block, ac_cond, ac_region, at_normal, ao_nil, ao_cons, ao_guard_t, st_at, if_t, as_call, as_move, as_binOp, segL, u8A, u16A, u32A, i64, boA, fr_false, List.contains_nil, beq_self_eq_true, decide_true, hk_some, hopG, rd, aopsD, frzW, frzR, constT, evT, lk, putT, GV, gdst, binF, argsF, constA, cellA, Option.map_some, Nat.reduceSub, Nat.reduceEqDiff, Nat.reduceLeDiff, true_and, eq_self, Bool.false_eq_true, ↓reduceIte, Int.reduceLE, TT3]
      refine ACall.intro (refBit09_a f 64 hf (by decide)) ?_
      cases c1 : decide (f / 64 % 2 = 1)
      · simp only [ac_region, at_normal, ab_normal, ao_nil, ao_cons, ao_guard_t, ao_guard_f, st_at, sk_at, pk_at, if_t, as_pick, as_move, as_assign, as_binOp, as_unOp, boA, fr_false, List.contains_nil, beq_self_eq_true, hk_some, hopG, rd, aopsD, constT, evT, lk, putT, GV, gdst, binF, unF, constA, cellA, Option.map_some, Nat.reduceSub, Nat.reduceEqDiff, Nat.reduceLeDiff, true_and, eq_self, Bool.false_eq_true, Bool.not_false, ↓reduceIte, Int.reduceMul, TT3]
        exact ⟨⟨7, _, _, by decide, rfl, ts1 6 c1 ha⟩, ⟨rfl, leT5 rfl rfl rfl rfl rfl trivial trivial trivial pT1_0 trivial⟩, (show 8 - 7 < 8 - 6 by decide)⟩
      · simp only [ao_guard_t, ao_guard_f, st_at, if_t, if_f, as_call, as_move, as_unOp, as_load, as_fieldAddr, boA, beq_self_eq_true, hk_some, hopG, rd, frzW, frzR, evT, lk, putT, GV, gdst, unF, loadF, argsF, TK.isAgg, List.getElem?_cons_zero, List.getElem?_cons_succ, List.drop_zero, List.drop_succ_cons, Option.map_some, Nat.reduceSub, Nat.reduceEqDiff, Nat.succ_ne_zero, ne_eq, not_false_eq_true, true_and, eq_self, Bool.false_eq_true, Bool.not_true, ↓reduceIte, Nat.zero_add, TT5, TT40]
        refine ACall.intro (refBit09_a t.flags 64 hto.flags (by decide)) ?_
        simp only [ac_region, at_normal, ab_normal, ao_nil, ao_cons, ao_guard_t, st_at, pk_at, if_t, if_f, as_pick, as_move, as_assign, as_binOp, boA, fr_false, List.contains_nil, beq_self_eq_true, hk_some, hopG, rd, aopsD, constT, evT, lk, putT, GV, gdst, binF, constA, cellA, Option.map_some, Nat.reduceSub, Nat.reduceEqDiff, Nat.reduceLeDiff, true_and, eq_self, Bool.false_eq_true, ↓reduceIte, Int.reduceMul, TT3]
        exact ⟨⟨7, _, _, by decide, rfl, ts2 6 c1 ha⟩, ⟨rfl, leT5 rfl rfl rfl rfl rfl trivial trivial trivial pT1_0 trivial⟩, (show 8 - 7 < 8 - 6 by decide)⟩
  · subst hk'
    simp only [pw2] at hb
    subst hb
    cases a
    · simp only [tsI, ac_skip, ac_seq, ac_block, ac_cond, ac_region, at_normal, ab_normal, ao_nil, ao_cons, ao_guard_t, ao_guard_f, sk_at, pk_at, if_t, if_f, as_pick, as_move, as_assign, as_binOp, segL, u8A, u16A, u32A, i64, boA, fr_false, List.contains_nil, beq_self_eq_true, decide_true, hk_some, hopG, rd, aopsD, constT, evT, lk, putT, GV, gdst, binF, constA, cellA, Option.map_some, Nat.reduceSub, Nat.reduceEqDiff, Nat.reduceLeDiff, true_and, eq_self, Bool.false_eq_true, ↓reduceIte, Int.reduceLE, Int.reduceMul, TT3]
      exact ⟨⟨8, _, _, by decide, rfl, pfxT_s _ 7 _ ha⟩, ⟨rfl, leT5 rfl rfl rfl rfl rfl trivial trivial trivial pT1_0 trivial⟩, (show 8 - 8 < 8 - 7 by decide)⟩
    · simp only [tsI, ac_skip, ac_seq, ac_block, ac_cond, ac_region, at_normal, ao_nil, ao_cons, ao_guard_t, st_at, if_t, as_call, as_move, as_binOp, segL, u8A, u16A, u32A, i64, boA, fr_false, List.contains_nil, beq_self_eq_true, decide_true, hk_some, hopG, rd, aopsD, frzW, frzR, constT, evT, lk, putT, GV, gdst, binF, argsF, constA, cellA, Option.map_some, Nat.reduceSub, Nat.reduceEqDiff, Nat.reduceLeDiff, true_and, eq_self, Bool.false_eq_true, ↓reduceIte, Int.reduceLE, TT3]
      refine ACall.intro (refBit09_a f 128 hf (by decide)) ?_
      cases c1 : decide (f / 128 % 2 = 1)
      · simp only [ac_region, at_normal, ab_normal, ao_nil, ao_cons, ao_guard_t, ao_guard_f, st_at, sk_at, pk_at, if_t, as_pick, as_move, as_assign, as_binOp, as_unOp, boA, fr_false, List.contains_nil, beq_self_eq_true, hk_some, hopG, rd, aopsD, constT, evT, lk, putT, GV, gdst, binF, unF, constA, cellA, Option.map_some, Nat.reduceSub, Nat.reduceEqDiff, Nat.reduceLeDiff, true_and, eq_self, Bool.false_eq_true, Bool.not_false, ↓reduceIte, Int.reduceMul, TT3]
        exact ⟨⟨8, _, _, by decide, rfl, ts1 7 c1 ha⟩, ⟨rfl, leT5 rfl rfl rfl rfl rfl trivial trivial trivial pT1_0 trivial⟩, (show 8 - 8 < 8 - 7 by decide)⟩
      · simp only [ao_guard_t, ao_guard_f, st_at, if_t, if_f, as_call, as_move, as_unOp, as_load, as_fieldAddr, boA, beq_self_eq_true, hk_some, hopG, rd, frzW, frzR, evT, lk, putT, GV, gdst, unF, loadF, argsF, TK.isAgg, List.getElem?_cons_zero, List.getElem?_cons_succ, List.drop_zero, List.drop_succ_cons, Option.map_some, Nat.reduceSub, Nat.reduceEqDiff, Nat.succ_ne_zero, ne_eq, not_false_eq_true, true_and, eq_self, Bool.false_eq_true, Bool.not_true, ↓reduceIte, Nat.zero_add, TT5, TT40]
        refine ACall.intro (refBit09_a t.flags 128 hto.flags (by decide)) ?_
        simp only [ac_region, at_normal, ab_normal, ao_nil, ao_cons, ao_guard_t, st_at, pk_at, if_t, if_f, as_pick, as_move, as_assign, as_binOp, boA, fr_false, List.contains_nil, beq_self_eq_true, hk_some, hopG, rd, aopsD, constT, evT, lk, putT, GV, gdst, binF, constA, cellA, Option.map_some, Nat.reduceSub, Nat.reduceEqDiff, Nat.reduceLeDiff, true_and, eq_self, Bool.false_eq_true, ↓reduceIte, Int.reduceMul, TT3]
        exact ⟨⟨8, _, _, by decide, rfl, ts2 7 c1 ha⟩, ⟨rfl, leT5 rfl rfl rfl rfl rfl trivial trivial trivial pT1_0 trivial⟩, (show 8 - 8 < 8 - 7 by decide)⟩
  · subst hk'
    simp only [pw2] at hb
    subst hb
    have e1 : a = decide (bits .and .u8 t.flags f = f) := ha.trans (has_pfx f t.flags hf hto.flags).symm
    simp only [tsI, ac_exit, ac_seq, ac_cond, ac_region, at_normal, at_exit, ab_exit, ao_nil, ao_cons, if_f, as_call, as_move, as_binOp, as_load, as_fieldAddr, segL, u8A, u16A, u32A, i64, boA, fr_false, List.contains_nil, beq_self_eq_true, decide_false, hk_some, hopG, rd, aopsD, frzW, frzR, constT, evT, lk, putT, binF, loadF, argsF, constA, cellA, TK.isAgg, List.getElem?_cons_zero, List.getElem?_cons_succ, List.drop_zero, List.drop_succ_cons, Option.map_some, Nat.reduceSub, Nat.reduceEqDiff, Nat.reduceLeDiff, Nat.succ_ne_zero, ne_eq, not_false_eq_true, true_and, and_false, eq_self, Bool.false_eq_true, ↓reduceIte, Int.reduceLE, Nat.zero_add, Nat.add_zero, Nat.not_lt_zero, TT3, TT22, TT23, TT40]
    refine ACall.intro (tcpPlain_a t.src t.dst t.seq t.ack f) ?_
    simp only [ac_seq, ac_region, at_normal, ao_nil, ao_cons, as_call, as_alloc, as_store, as_move, as_load, as_fieldAddr, as_build, segL, segA, u8A, u16A, u32A, fr_false, List.contains_nil, beq_self_eq_true, Bool.and_self, hk_some, hopG, rd, aopsD, heapF, frzW, frzR, constT, evT, lk, putT, loadF, cellsF, ovw, fillF, buildF, partsF, argsF, okCell, constA, cellA, TK.isAgg, Value.oneCell', List.length_cons, List.length_nil, List.getElem?_cons_zero, List.getElem?_cons_succ, List.drop_zero, List.drop_succ_cons, List.take_succ_cons, List.take_nil, List.set_cons_zero, List.set_cons_succ, List.nil_append, List.cons_append, List.all_cons, List.all_nil, Option.map_some, Nat.reduceAdd, Nat.reduceSub, Nat.reduceEqDiff, Nat.reduceLeDiff, Nat.succ_ne_zero, ne_eq, not_false_eq_true, true_and, and_self, eq_self, Bool.false_eq_true, ↓reduceIte, Nat.zero_add, Nat.add_zero, Nat.le_refl, TT22, TT23, TT40]
    refine ACall.intro (refSame09_self ⟨t.src, t.dst, t.seq, t.ack, 0, f, 65535, 0, [], []⟩) ?_
    simp only [ac_skip, ac_seq, ac_cond, ac_region, at_normal, ao_nil, ao_cons, if_f, as_call, as_move, as_unOp, as_load, boA, fr_false, List.contains_nil, Nat.reduceBEq, beq_self_eq_true, hk_some, hopG, rd, aopsD, frzW, tlN, evT, lk, putT, unF, loadF, argsF, TK.isAgg, List.length_cons, List.length_nil, List.getElem?_cons_zero, List.drop_zero, List.take_succ_cons, List.take_nil, Option.map_some, Nat.reduceAdd, Nat.reduceSub, Nat.reduceEqDiff, Nat.reduceLeDiff, true_and, eq_self, Bool.not_true, ↓reduceIte, Nat.zero_add, Nat.le_refl, TT40]
    refine ACall.intro (tcpHas_a t f) ?_
    rw [e1]
    simp only [ao_cons, ao_guard_t, st_at, if_t, as_call, as_move, as_binOp, as_load, boA, Nat.reduceBEq, beq_self_eq_true, hk_some, hopG, rd, frzW, evT, lk, putT, GV, gdst, binF, loadF, argsF, TK.isAgg, List.length_cons, List.length_nil, List.getElem?_cons_zero, List.drop_zero, List.take_succ_cons, List.take_nil, Option.map_some, Nat.reduceAdd, Nat.reduceSub, Nat.reduceEqDiff, true_and, eq_self, ↓reduceIte, Nat.zero_add, Nat.le_refl, TT4, TT40]
    refine ACall.intro (tcpSpace_a t (by omega)) ?_
    simp only [ao_guard_t, st_at, if_t, as_call, as_load, u32A, Nat.reduceBEq, hk_some, hopG, rd, frzW, evT, lk, putT, GV, gdst, loadF, argsF, TK.isAgg, List.length_cons, List.length_nil, List.getElem?_cons_zero, List.drop_zero, List.take_succ_cons, List.take_nil, Option.map_some, Nat.reduceAdd, Nat.reduceSub, Nat.reduceEqDiff, true_and, eq_self, ↓reduceIte, Nat.zero_add, Nat.le_refl, TT40]
    refine ACall.intro (refSpace09_a t hto (by omega)) ?_
    simp only [ao_cons, ao_guard_t, st_at, pk_at, if_t, as_pick, as_call, as_move, as_binOp, as_load, u32A, Nat.reduceBEq, decide_true, hk_some, hopG, rd, frzW, evT, lk, putT, GV, gdst, binF, loadF, argsF, TK.isAgg, List.length_cons, List.length_nil, List.getElem?_cons_zero, List.drop_zero, List.take_succ_cons, List.take_nil, Option.map_some, Nat.reduceAdd, Nat.reduceSub, Nat.reduceEqDiff, true_and, eq_self, ↓reduceIte, Nat.zero_add, Nat.le_refl, TT22, TT40]
    refine ACall.intro (tcpNext_a t (by omega)) ?_
    simp only [ao_guard_t, st_at, if_t, as_call, as_load, as_fieldAddr, u32A, Nat.reduceBEq, hk_some, hopG, rd, frzW, evT, lk, putT, GV, gdst, loadF, argsF, TK.isAgg, List.length_cons, List.length_nil, List.getElem?_cons_zero, List.getElem?_cons_succ, List.drop_zero, List.drop_succ_cons, List.take_succ_cons, List.take_nil, Option.map_some, Nat.reduceAdd, Nat.reduceSub, Nat.reduceEqDiff, Nat.succ_ne_zero, ne_eq, not_false_eq_true, true_and, eq_self, Bool.false_eq_true, ↓reduceIte, Nat.zero_add, Nat.le_refl, TT22, TT40]
    refine ACall.intro (refSpace09_a t hto (by omega)) ?_
    simp only [ao_cons, ao_guard_t, st_at, pk_at, if_t, as_pick, as_call, as_move, as_binOp, u32A, Nat.reduceBEq, decide_true, hk_some, hopG, rd, frzW, evT, lk, putT, GV, gdst, binF, argsF, Option.map_some, Nat.reduceSub, Nat.reduceEqDiff, true_and, eq_self, ↓reduceIte, TT22]
    refine ACall.intro lives09_a ?_
    simp only [ac_ret, at_normal, ae_ret, ao_nil, ao_cons, pk_at, if_t, as_pick, as_assign, boA, Nat.reduceBEq, rd, evT, lk, putT, resF, resL, Option.map_some, Option.bind_some, Nat.reduceSub, Nat.reduceEqDiff, and_true, and_self, eq_self, ↓reduceIte]
end Go.Proofs.Ytafajmnlknmfiaa
