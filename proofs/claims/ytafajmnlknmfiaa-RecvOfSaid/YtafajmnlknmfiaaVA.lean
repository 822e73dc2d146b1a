/- Package ipv4, through its own text. -/
import Derived.Test.YtafajmnlknmfiaaTC
namespace Go.Proofs.Ytafajmnlknmfiaa
set_option linter.unusedSimpArgs false
set_option linter.unusedVariables false
open Go.RowKit

theorem or_flags (off : Int) (df mf : Bool) (h : 0 ≤ off ∧ off < 8192) : bits .or .u16 (bits .or .u16 off (if df then 16384 else 0)) (if mf then 8192 else 0) = off + (if df then 16384 else 0) + (if mf then 8192 else 0) := by
  obtain ⟨n, rfl⟩ := Int.eq_ofNat_of_zero_le h.1
  have hn : n < 8192 := by omega
  have w16 : ∀ n : Int, 0 ≤ n → n < 2 ^ 16 → IntKind.u16.wrap n = n := fun n h0 h1 => u16_in h0 (by omega)
  have B := fun a b (ha : a < 2 ^ 16) (hb : b < 2 ^ 16) => (bits_nat .u16 16 (by decide) w16 a b ha hb).2
  have o1 : n ||| 16384 = n + 16384 := by
    have := Nat.two_pow_add_eq_or_of_lt (i := 14) (b := n) (by omega) 1
    simp only [Nat.mul_one, Nat.reducePow] at this
    rw [Nat.or_comm]; omega
  have o2 : n ||| 8192 = n + 8192 := by
    have := Nat.two_pow_add_eq_or_of_lt (i := 13) (b := n) (by omega) 1
    simp only [Nat.mul_one, Nat.reducePow] at this
    rw [Nat.or_comm]; omega
  have o3 : (n + 8192) ||| 16384 = n + 8192 + 16384 := by
    have := Nat.two_pow_add_eq_or_of_lt (i := 14) (b := n + 8192) (by omega) 1
    simp only [Nat.mul_one, Nat.reducePow] at this
    rw [Nat.or_comm]; omega
  have o4 : (n + 16384) ||| 8192 = n + 16384 + 8192 := by
    rw [← o1, Nat.or_assoc, Nat.or_comm 16384, ← Nat.or_assoc, o2, o3]; omega
  have e0 : bits .or .u16 (n : Int) 0 = n := by have := B n 0 (by omega) (by omega); simpa using this
  have e1 : bits .or .u16 (n : Int) 16384 = ((n + 16384 : Nat) : Int) := by have := B n 16384 (by omega) (by omega); rw [o1] at this; exact this
  have e2 : bits .or .u16 (n : Int) 8192 = ((n + 8192 : Nat) : Int) := by have := B n 8192 (by omega) (by omega); rw [o2] at this; exact this
  have e3 : bits .or .u16 ((n + 16384 : Nat) : Int) 8192 = ((n + 16384 + 8192 : Nat) : Int) := by have := B (n + 16384) 8192 (by omega) (by omega); rw [o4] at this; exact this
  have e4 : bits .or .u16 ((n + 16384 : Nat) : Int) 0 = ((n + 16384 : Nat) : Int) := by have := B (n + 16384) 0 (by omega) (by omega); simpa using this
  cases df <;> cases mf
  · simp [e0]
  · simp [e0, e2]
  · simp [e1]; simpa using e4
  · simp [e1]; simpa using e3

def pktMay (p : PktN) : Bool := decide (p.opts.length ≤ 40) && (decide (p.opts.length % 4 = 0) && (decide (p.off < 8192) && decide (p.data.length + p.opts.length ≤ 65515)))
set_option maxRecDepth 100000 in
theorem ipSize_a (p : PktN) (ho : p.opts.length ≤ 100000) : ASpec Try.prog 91 [pktA p] (i64 (20 + (p.opts.length : Int))) := by
  refine ASpec.of_body TT_ok Try.mixed _ [.tmp 2] ([], []) Try.func91 (by kernel_rfl) rfl rfl (by simp only [Try.ntmps91, List.length_cons, List.length_nil]; omega) rfl (by kernel_rfl) ?_
  simp only [i64_in (n := 20 + (p.opts.length : Int)) (by omega) (by omega), argE_cons, argE_nil, ac_ret, ac_seq, ac_region, at_normal, ae_ret, ao_nil, ao_cons, as_box, as_assign, as_binOp, as_load, as_fieldAddr, as_len, pktL, pktA, u8A, u16A, u32A, i64, boA, fr_false, List.contains_nil, beq_self_eq_true, hk_some, hopG, hopF, rd, aopsD, heapF, constT, evT, lk, putT, lenF, binF, loadF, cellsF, resF, resL, constA, cellA, TK.isAgg, List.length_nil, List.getElem?_cons_zero, List.getElem?_cons_succ, List.drop_zero, List.drop_succ_cons, List.nil_append, Option.map_some, Option.bind_some, Nat.reduceSub, Nat.reduceEqDiff, Nat.reduceLeDiff, Nat.succ_ne_zero, ne_eq, not_false_eq_true, and_true, and_self, eq_self, Bool.false_eq_true, ↓reduceIte, Nat.zero_add, TT3, TT38, TT92]
set_option maxRecDepth 100000 in
theorem ipCheck_a (p : PktN) (ho : p.opts.length ≤ 100000) (hd : p.data.length ≤ 1000000) : ASpec Try.prog 90 [pktA p] (i64 (if pktMay p then 0 else 2)) := by
  have e1 : ((p.opts.length : Int)).tmod 4 = ((p.opts.length % 4 : Nat) : Int) := by rw [tmodN (by omega)]; omega
  have e2 : IntKind.i64.wrap (65535 - (20 + (p.opts.length : Int))) = 65535 - (20 + (p.opts.length : Int)) := i64_in (by omega) (by omega)
  refine ASpec.of_body TT_ok Try.mixed _ [.tmp 2] ([], []) Try.func90 (by kernel_rfl) rfl rfl (by simp only [Try.ntmps90, List.length_cons, List.length_nil]; omega) rfl (by kernel_rfl) ?_
  simp only [argE_cons, argE_nil, ac_seq, ac_region, at_normal, ao_nil, ao_cons, ao_guard_f, as_box, as_move, as_assign, as_binOp, as_load, as_fieldAddr, as_len, pktL, pktA, u8A, u16A, u32A, i64, boA, fr_false, List.contains_nil, Nat.reduceBEq, beq_self_eq_true, hk_some, hopG, hopF, rd, aopsD, heapF, tlN, constT, evT, lk, putT, GV, gdst, lenF, binF, loadF, cellsF, constA, cellA, TK.isAgg, List.length_cons, List.length_nil, List.getElem?_cons_zero, List.getElem?_cons_succ, List.drop_zero, List.drop_succ_cons, List.nil_append, Option.map_some, Nat.reduceAdd, Nat.reduceSub, Nat.reduceEqDiff, Nat.reduceLeDiff, Nat.succ_ne_zero, ne_eq, not_false_eq_true, true_and, eq_self, Bool.false_eq_true, ↓reduceIte, Nat.zero_add, TT3, TT38, TT92]
  cases c1 : decide ((40 : Int) < (p.opts.length : Int))
  · rw [dF] at c1
    simp only [e1, ao_cons, ao_guard_f, st_at, pk_at, if_f, as_pick, as_move, as_binOp, as_load, as_fieldAddr, as_len, Nat.reduceBEq, Int.reduceEq, hk_some, hopG, hopF, rd, constT, evT, lk, putT, GV, gdst, lenF, binF, loadF, constA, cellA, TK.isAgg, List.getElem?_cons_zero, List.getElem?_cons_succ, List.drop_zero, List.drop_succ_cons, Option.map_some, Nat.reduceSub, Nat.reduceEqDiff, Nat.succ_ne_zero, ne_eq, not_false_eq_true, true_and, and_self, eq_self, Bool.false_eq_true, ↓reduceIte, Nat.zero_add, TT3, TT38, TT92]
    cases c2 : decide (((p.opts.length % 4 : Nat) : Int) = 0)
    · rw [dF] at c2
      simp only [ac_ret, ac_seq, ac_cond, ac_region, at_normal, at_ret, ae_ret, ao_nil, ao_cons, ao_guard_f, sk_at, pk_at, if_t, as_pick, as_move, as_assign, fr_false, List.contains_nil, Nat.reduceBEq, beq_self_eq_true, rd, aopsD, constT, evT, lk, putT, GV, gdst, resF, resL, constA, cellA, Option.map_some, Option.bind_some, Nat.reduceSub, Nat.reduceEqDiff, Nat.reduceLeDiff, true_and, and_true, eq_self, Bool.false_eq_true, Bool.not_false, ↓reduceIte]
      rw [show pktMay p = false by simp [pktMay]; omega]
      try rfl
    · rw [dT] at c2
      simp only [ao_cons, ao_guard_f, st_at, pk_at, if_f, as_pick, as_move, as_binOp, as_load, as_fieldAddr, Nat.reduceBEq, hk_some, hopG, rd, constT, evT, lk, putT, GV, gdst, binF, loadF, constA, cellA, TK.isAgg, List.getElem?_cons_zero, List.getElem?_cons_succ, List.drop_zero, List.drop_succ_cons, Option.map_some, Nat.reduceSub, Nat.reduceEqDiff, Nat.succ_ne_zero, ne_eq, not_false_eq_true, true_and, eq_self, Bool.false_eq_true, Bool.not_true, ↓reduceIte, Nat.zero_add, TT23, TT92]
      cases c3 : decide (8192 ≤ p.off)
      · rw [dF] at c3
        simp only [ao_guard_f, st_at, if_f, as_call, as_load, as_fieldAddr, as_len, Nat.reduceBEq, hk_some, hopG, hopF, rd, frzW, evT, lk, putT, GV, gdst, lenF, loadF, argsF, TK.isAgg, List.length_cons, List.length_nil, List.getElem?_cons_zero, List.getElem?_cons_succ, List.drop_zero, List.drop_succ_cons, List.take_succ_cons, List.take_nil, Option.map_some, Nat.reduceAdd, Nat.reduceSub, Nat.reduceEqDiff, Nat.succ_ne_zero, ne_eq, not_false_eq_true, true_and, eq_self, Bool.false_eq_true, ↓reduceIte, Nat.zero_add, Nat.le_refl, TT38, TT92]
        refine ACall.intro (ipSize_a p ho) ?_
        simp only [e2, ac_cond, at_normal, ao_nil, ao_cons, ao_guard_f, st_at, pk_at, if_f, as_pick, as_binOp, i64, Nat.reduceBEq, hk_some, hopG, rd, constT, evT, lk, putT, GV, gdst, binF, constA, cellA, Option.map_some, Nat.reduceSub, Nat.reduceEqDiff, true_and, eq_self, ↓reduceIte, TT3]
        cases c4 : decide (65535 - (20 + (p.opts.length : Int)) < (p.data.length : Int))
        · rw [dF] at c4
          simp only [ac_skip, ac_ret, ac_seq, ac_region, at_normal, ae_ret, ao_nil, ao_cons, if_f, as_assign, fr_false, List.contains_nil, beq_self_eq_true, rd, aopsD, constT, evT, lk, putT, resF, resL, constA, cellA, Option.map_some, Option.bind_some, Nat.reduceSub, Nat.reduceLeDiff, true_and, and_true, eq_self, Bool.false_eq_true, ↓reduceIte]
          rw [show pktMay p = true by simp [pktMay]; omega]
          try rfl
        · rw [dT] at c4
          simp only [ac_ret, ac_seq, ac_region, at_normal, at_ret, ae_ret, ao_nil, ao_cons, if_t, as_assign, fr_false, List.contains_nil, beq_self_eq_true, rd, aopsD, constT, evT, lk, putT, resF, resL, constA, cellA, Option.map_some, Option.bind_some, Nat.reduceSub, Nat.reduceLeDiff, true_and, and_true, eq_self, Bool.false_eq_true, ↓reduceIte]
          rw [show pktMay p = false by simp [pktMay]; omega]
          try rfl
      · rw [dT] at c3
        simp only [ac_ret, ac_seq, ac_cond, ac_region, at_normal, at_ret, ae_ret, ao_nil, ao_cons, ao_guard_f, sk_at, pk_at, if_t, as_pick, as_assign, fr_false, List.contains_nil, Nat.reduceBEq, beq_self_eq_true, rd, aopsD, constT, evT, lk, putT, GV, gdst, resF, resL, constA, cellA, Option.map_some, Option.bind_some, Nat.reduceSub, Nat.reduceEqDiff, Nat.reduceLeDiff, true_and, and_true, eq_self, Bool.false_eq_true, ↓reduceIte]
        rw [show pktMay p = false by simp [pktMay]; omega]
        try rfl
  · rw [dT] at c1
    simp only [ac_ret, ac_seq, ac_cond, ac_region, at_normal, at_ret, ae_ret, ao_nil, ao_cons, ao_guard_f, sk_at, pk_at, if_t, as_pick, as_move, as_assign, fr_false, List.contains_nil, Nat.reduceBEq, beq_self_eq_true, rd, aopsD, constT, evT, lk, putT, GV, gdst, resF, resL, constA, cellA, Option.map_some, Option.bind_some, Nat.reduceSub, Nat.reduceEqDiff, Nat.reduceLeDiff, true_and, and_true, eq_self, Bool.false_eq_true, ↓reduceIte]
    rw [show pktMay p = false by simp [pktMay]; omega]
    try rfl
set_option maxRecDepth 100000 in
theorem ipBit_a (b : Bool) (n : Int) : ASpec Try.prog 189 [boA b, u16A n] (u16A (if b then n else 0)) := by
  refine ASpec.of_body TT_ok Try.mixed _ [.tmp 4] ([], []) Try.func189 (by kernel_rfl) rfl rfl (by simp only [Try.ntmps189, List.length_cons, List.length_nil]; omega) rfl (by kernel_rfl) ?_
  cases b
  · simp only [argE_cons, argE_nil, ac_skip, ac_ret, ac_seq, ac_cond, ac_region, at_normal, ae_ret, ao_nil, ao_cons, if_f, as_move, as_assign, u16A, boA, fr_false, List.contains_nil, beq_self_eq_true, rd, aopsD, constT, evT, lk, putT, resF, resL, constA, cellA, Option.map_some, Option.bind_some, Nat.reduceAdd, Nat.reduceSub, Nat.reduceLeDiff, Nat.succ_ne_zero, and_true, and_self, eq_self, Bool.false_eq_true, ↓reduceIte, Nat.zero_add]
  · simp only [argE_cons, argE_nil, ac_ret, ac_seq, ac_cond, ac_region, at_normal, at_ret, ae_ret, ao_nil, ao_cons, if_t, as_move, as_assign, u16A, boA, fr_false, List.contains_nil, beq_self_eq_true, rd, aopsD, constT, evT, lk, putT, resF, resL, constA, cellA, Option.map_some, Option.bind_some, Nat.reduceAdd, Nat.reduceSub, Nat.reduceEqDiff, Nat.reduceLeDiff, Nat.succ_ne_zero, and_true, and_self, eq_self, reduceCtorEq, Bool.false_eq_true, ↓reduceIte, Nat.zero_add]
set_option maxRecDepth 100000 in
theorem ipPart_a (p : PktN) : ASpec Try.prog 92 [pktA p] (boA (p.mf || decide (0 < p.off))) := by
  refine ASpec.of_body TT_ok Try.mixed _ [.tmp 2] ([], []) Try.func92 (by kernel_rfl) rfl rfl (by simp only [Try.ntmps92, List.length_cons, List.length_nil]; omega) rfl (by kernel_rfl) ?_
  simp only [argE_cons, argE_nil, ac_seq, ac_region, at_normal, ao_nil, ao_cons, ao_guard_f, as_box, as_move, as_assign, as_load, as_fieldAddr, pktL, pktA, u8A, u16A, u32A, boA, fr_false, List.contains_nil, beq_self_eq_true, hk_some, hopG, rd, aopsD, heapF, constT, evT, lk, putT, GV, gdst, loadF, cellsF, constA, cellA, TK.isAgg, List.length_nil, List.getElem?_cons_zero, List.getElem?_cons_succ, List.drop_zero, List.drop_succ_cons, List.nil_append, Option.map_some, Nat.reduceSub, Nat.reduceEqDiff, Nat.reduceLeDiff, Nat.succ_ne_zero, ne_eq, not_false_eq_true, true_and, eq_self, Bool.false_eq_true, ↓reduceIte, Nat.zero_add, TT4, TT92]
  cases hm : p.mf
  · simp only [ac_ret, at_normal, ae_ret, ao_nil, ao_cons, ao_guard_f, st_at, pk_at, if_f, as_pick, as_assign, as_binOp, as_load, as_fieldAddr, Bool.false_or, beq_self_eq_true, hk_some, hopG, rd, constT, evT, lk, putT, GV, gdst, binF, loadF, resF, resL, constA, cellA, TK.isAgg, List.getElem?_cons_zero, List.getElem?_cons_succ, List.drop_zero, List.drop_succ_cons, Option.map_some, Option.bind_some, Nat.reduceSub, Nat.reduceEqDiff, Nat.succ_ne_zero, ne_eq, not_false_eq_true, and_true, and_self, eq_self, Bool.false_eq_true, ↓reduceIte, Nat.zero_add, TT23, TT92]
  · simp only [ac_ret, at_normal, ae_ret, ao_nil, ao_cons, ao_guard_f, sk_at, pk_at, if_t, as_pick, as_assign, Bool.true_or, beq_self_eq_true, rd, constT, evT, lk, putT, GV, gdst, resF, resL, constA, cellA, Option.map_some, Option.bind_some, Nat.reduceSub, Nat.reduceEqDiff, and_true, and_self, eq_self, ↓reduceIte]
/-- A head's bytes, with a sum. -/
def wordP (p : PktN) : Int := p.off + (if p.df then 16384 else 0) + (if p.mf then 8192 else 0)
def ipHeadB (p : PktN) (x : Int) : List UInt8 := [u8 (64 + (5 + p.opts.length / 4 : Nat)), u8 p.tos] ++ (put16 [(20 + p.opts.length + p.data.length : Nat), p.id, wordP p] ++ ([u8 p.ttl, u8 p.proto] ++ (put16 [x] ++ (put32 [p.src, p.dst] ++ p.opts))))
theorem ipHeadB_len (p : PktN) (x : Int) : (ipHeadB p x).length = 20 + p.opts.length := by simp [ipHeadB, length_put16, length_put32]; omega
theorem ipHeadB_set (p : PktN) (x : Int) : set16 (ipHeadB p 0) 10 x = ipHeadB p x := by
  have hb : thereB (ipHeadB p 0).length 10 2 = true := thereB_iff.2 (by rw [ipHeadB_len]; omega)
  rw [set16, if_pos hb]
  simp [ipHeadB, put16, put32]
def ipX (p : PktN) : Int := 65535 - onesF (ipHeadB p 0)
def topB (p : PktN) : List UInt8 := ipHeadB p (ipX p)
def ipB (p : PktN) : List UInt8 := topB p ++ p.data
set_option maxRecDepth 100000 in
theorem ipTop_a (p : PktN) (hp : p.ok) (hm : pktMay p = true) : ASpec Try.prog 158 [pktA p] (.bs (topB p)) := by
  obtain ⟨k1, k2, k3, k4, k5, k6, k7⟩ := hp
  have hm' := hm
  simp only [pktMay, Bool.and_eq_true, decide_eq_true_eq] at hm'
  obtain ⟨m1, m2, m3, m4⟩ := hm'
  have e1 : (20 + (p.opts.length : Int)).tdiv 4 = ((5 + p.opts.length / 4 : Nat) : Int) := by rw [tdivN (by omega)]; omega
  have e2 : IntKind.i64.wrap ((5 + p.opts.length / 4 : Nat) : Int) = ((5 + p.opts.length / 4 : Nat) : Int) := i64_in (by omega) (by omega)
  have e3 : IntKind.i64.wrap (64 + ((5 + p.opts.length / 4 : Nat) : Int)) = 64 + ((5 + p.opts.length / 4 : Nat) : Int) := i64_in (by omega) (by omega)
  have e4 : IntKind.u8.wrap (64 + ((5 + p.opts.length / 4 : Nat) : Int)) = 64 + ((5 + p.opts.length / 4 : Nat) : Int) := u8_in (by omega) (by omega)
  have e5 : IntKind.i64.wrap (20 + (p.opts.length : Int) + (p.data.length : Int)) = ((20 + p.opts.length + p.data.length : Nat) : Int) := by rw [i64_in (by omega) (by omega)]; omega
  have e6 : IntKind.u16.wrap ((20 + p.opts.length + p.data.length : Nat) : Int) = ((20 + p.opts.length + p.data.length : Nat) : Int) := u16_in (by omega) (by omega)
  have e7 := or_flags p.off p.df p.mf ⟨k3.1, m3⟩
  have hw : 0 ≤ wordP p ∧ wordP p ≤ 65535 := by unfold wordP; split <;> split <;> omega
  refine ASpec.of_body TT_ok Try.mixed _ [.tmp 2] ([], [(2, 21), (3, 2612)]) Try.func158 (by kernel_rfl) rfl rfl (by simp only [Try.ntmps158, List.length_cons, List.length_nil]; omega) rfl (by kernel_rfl) ?_
  simp only [argE_cons, argE_nil, ac_seq, ac_region, at_normal, ao_nil, ao_cons, as_call, as_box, as_assign, as_load, pktL, pktA, u8A, u16A, u32A, boA, fr_false, List.contains_nil, Nat.reduceBEq, beq_self_eq_true, hk_some, hopG, rd, aopsD, heapF, frzW, tlN, constT, evT, lk, putT, loadF, cellsF, argsF, TK.isAgg, List.length_cons, List.length_nil, List.getElem?_cons_zero, List.drop_zero, List.take_succ_cons, List.take_nil, List.nil_append, Option.map_some, Nat.reduceAdd, Nat.reduceSub, Nat.reduceEqDiff, Nat.reduceLeDiff, true_and, eq_self, Bool.false_eq_true, ↓reduceIte, Nat.zero_add, Nat.le_refl, TT92]
  refine ACall.intro (ipSize_a p (by omega)) ?_
  simp only [e1, e2, e3, e4, ac_seq, ac_region, at_normal, ao_nil, ao_cons, as_call, as_move, as_assign, as_binOp, as_convert, as_load, as_fieldAddr, as_buildSlice, i64, fr_false, List.contains_nil, Nat.reduceBEq, Int.reduceEq, hk_some, hopG, rd, aopsD, frzW, tlN, constT, evT, lk, putT, binF, convF, loadF, cellsF, ovw, fillF, bytesOf, makeSF, partsF, argsF, constA, cellA, TK.isAgg, Value.oneCell', List.length_cons, List.length_nil, List.getElem?_cons_zero, List.drop_zero, List.take_succ_cons, List.take_nil, List.set_cons_zero, List.set_cons_succ, List.nil_append, List.cons_append, List.replicate_succ, List.replicate_zero, List.flatten_cons, List.flatten_nil, List.append_nil, Option.map_some, Nat.reduceAdd, Nat.reduceSub, Nat.reduceEqDiff, Nat.reduceLeDiff, Nat.succ_ne_zero, ne_eq, not_false_eq_true, true_and, and_true, and_self, eq_self, Bool.false_eq_true, ↓reduceIte, Nat.mul_one, Nat.zero_add, Nat.add_zero, Nat.le_refl, TT3, TT5, TT38, TT92]
  refine ⟨⟨⟨by omega, by omega⟩, k1⟩, ?_⟩
  refine ACall.intro (ipSize_a p (by omega)) ?_
  simp only [ao_cons, as_call, as_binOp, as_convert, as_load, as_fieldAddr, as_len, i64, Nat.reduceBEq, hk_some, hopG, hopF, rd, frzW, constT, evT, lk, putT, lenF, binF, convF, loadF, argsF, constA, cellA, TK.isAgg, List.getElem?_cons_zero, List.getElem?_cons_succ, List.drop_zero, List.drop_succ_cons, Option.map_some, Nat.reduceSub, Nat.reduceEqDiff, Nat.succ_ne_zero, ne_eq, not_false_eq_true, true_and, eq_self, Bool.false_eq_true, ↓reduceIte, Nat.zero_add, TT3, TT4, TT23, TT38, TT92]
  refine ACall.intro (ipBit_a p.df 16384) ?_
  simp only [ao_cons, as_call, as_binOp, as_load, as_fieldAddr, u16A, Nat.reduceBEq, hk_some, hopG, rd, frzW, constT, evT, lk, putT, binF, loadF, argsF, constA, cellA, TK.isAgg, List.getElem?_cons_zero, List.getElem?_cons_succ, List.drop_zero, List.drop_succ_cons, Option.map_some, Nat.reduceSub, Nat.reduceEqDiff, Nat.succ_ne_zero, ne_eq, not_false_eq_true, true_and, eq_self, Bool.false_eq_true, ↓reduceIte, Nat.zero_add, TT4, TT23, TT92]
  refine ACall.intro (ipBit_a p.mf 8192) ?_
  simp only [e5, e6, e7, ao_cons, as_call, as_binOp, as_buildSlice, u16A, Nat.reduceBEq, beq_self_eq_true, hk_some, hopG, rd, frzW, frzR, evT, lk, putT, binF, cellsF, ovw, fillF, makeSF, partsF, argsF, Value.oneCell', List.length_cons, List.length_nil, List.set_cons_zero, List.set_cons_succ, List.nil_append, List.cons_append, List.replicate_succ, List.replicate_zero, List.flatten_cons, List.flatten_nil, List.append_nil, Option.map_some, Nat.reduceAdd, Nat.reduceSub, Nat.reduceEqDiff, Nat.reduceLeDiff, true_and, and_self, eq_self, ↓reduceIte, Nat.mul_one, Nat.zero_add, Nat.zero_lt_succ, Nat.le_refl, TT23, TT241]
  refine ACall.introW (put16_w _ [((20 + p.opts.length + p.data.length : Nat) : Int), p.id, wordP p] (by simp) (by simp; omega)) (by simp [neA, length_put16]) ?_
  simp only [ac_seq, ac_region, at_normal, ao_nil, ao_cons, as_call, as_move, as_assign, as_load, as_fieldAddr, as_buildSlice, fr_false, List.contains_nil, Nat.reduceBEq, beq_self_eq_true, hk_some, hopG, rd, oa_zero, oa_cons, rowAt, Nat.reduceMod, aopsD, as_append, appF, catA, dropT, dropV, frzW, frzR, frz1, tlN, constT, evT, lk, putT, loadF, cellsF, ovw, fillF, bytesOf, makeSF, partsF, argsF, constA, cellA, TK.isAgg, Value.oneCell', List.length_cons, List.length_nil, List.getElem?_cons_zero, List.getElem?_cons_succ, List.drop_zero, List.drop_succ_cons, List.set_cons_zero, List.set_cons_succ, List.nil_append, List.cons_append, List.replicate_succ, List.replicate_zero, List.flatten_cons, List.flatten_nil, List.append_nil, Option.map_some, Nat.reduceAdd, Nat.reduceSub, Nat.reduceEqDiff, Nat.reduceLeDiff, Nat.reduceDiv, Nat.succ_ne_zero, ne_eq, not_false_eq_true, true_and, and_true, and_self, eq_self, reduceCtorEq, Bool.false_eq_true, ↓reduceIte, Int.reduceLE, Nat.mul_one, Nat.zero_add, Nat.zero_lt_succ, Nat.le_refl, TT5, TT22, TT38, TT92, TT244]
  refine ⟨⟨k4, k5⟩, by simp [length_put16], ?_⟩
  refine ACall.intro (put32_a _ [p.src, p.dst] (by simp [length_put16]) (by simp; omega)) ?_
  simp only [ac_seq, ac_region, at_normal, ao_nil, ao_cons, as_call, as_move, as_assign, as_load, as_fieldAddr, as_buildSlice, fr_false, List.contains_nil, beq_self_eq_true, hk_some, hopG, rd, aopsD, frzW, frzR, evT, lk, putT, loadF, cellsF, ovw, fillF, makeSF, partsF, argsF, TK.isAgg, List.length_cons, List.length_nil, List.getElem?_cons_zero, List.getElem?_cons_succ, List.drop_zero, List.drop_succ_cons, List.set_cons_zero, List.set_cons_succ, List.nil_append, List.cons_append, List.replicate_succ, List.replicate_zero, List.flatten_cons, List.flatten_nil, List.append_nil, Option.map_some, Nat.reduceAdd, Nat.reduceSub, Nat.reduceEqDiff, Nat.reduceLeDiff, Nat.succ_ne_zero, ne_eq, not_false_eq_true, true_and, and_self, eq_self, Bool.false_eq_true, ↓reduceIte, Nat.mul_one, Nat.zero_add, Nat.zero_lt_succ, Nat.le_refl, TT38, TT92, TT237]
  refine ACall.intro (join_a [_, p.opts] (by simp [small, length_put16, length_put32]; omega)) ?_
  have eB : [u8 (64 + ((5 + p.opts.length / 4 : Nat) : Int)) :: u8 p.tos :: (put16 [((20 + p.opts.length + p.data.length : Nat) : Int), p.id, wordP p] ++ [u8 p.ttl, u8 p.proto, u8 0, u8 0]) ++ put32 [p.src, p.dst], p.opts].flatten = ipHeadB p 0 := by simp [ipHeadB, put16]
  try rw [eB]
  simp only [ac_seq, ac_region, at_normal, ao_nil, ao_cons, as_call, as_move, as_assign, as_buildSlice, fr_false, List.contains_nil, beq_self_eq_true, hk_some, hopG, rd, aopsD, frzW, frzR, evT, lk, putT, cellsF, ovw, fillF, makeSF, partsF, argsF, List.length_cons, List.length_nil, List.set_cons_zero, List.cons_append, List.replicate_succ, List.replicate_zero, List.flatten_cons, List.flatten_nil, List.append_nil, Option.map_some, Nat.reduceSub, Nat.reduceEqDiff, Nat.reduceLeDiff, true_and, and_self, eq_self, Bool.false_eq_true, ↓reduceIte, Nat.mul_one, Nat.zero_add, Nat.zero_lt_succ, Nat.le_refl, TT38, TT237]
  refine ACall.intro (sumOf_a [ipHeadB p 0] (by simp [small, ipHeadB_len]; omega)) ?_
  simp only [ao_cons, as_call, u16A, beq_self_eq_true, rd, frzW, frzR, constT, evT, lk, putT, argsF, constA, cellA, List.flatten_cons, List.flatten_nil, List.append_nil, Option.map_some, Nat.reduceSub, Nat.reduceEqDiff, eq_self, ↓reduceIte]
  have hb := onesF_bd (ipHeadB p 0)
  refine ACall.intro (set16_a (ipHeadB p 0) 10 _ (by omega) (by simp only [small, ipHeadB_len]; omega) (by omega)) ?_
  simp only [ac_ret, ac_seq, ac_region, at_normal, ae_ret, ao_nil, ao_cons, as_move, as_assign, as_extract, boA, fr_false, List.contains_nil, beq_self_eq_true, hk_some, hopG, rd, aopsD, evT, lk, putT, resF, resL, List.getElem?_cons_zero, List.getElem?_cons_succ, Option.map_some, Option.bind_some, Nat.reduceSub, Nat.reduceEqDiff, Nat.reduceLeDiff, true_and, and_true, eq_self, Bool.false_eq_true, ↓reduceIte]
  rw [ipHeadB_set]
  rfl
set_option maxRecDepth 100000 in
theorem ipPut_a (p : PktN) (hp : p.ok) (hm : pktMay p = true) : ASpec Try.prog 88 [pktA p] (.tup [.bs (ipB p), i64 0]) := by
  have hm' := hm
  simp only [pktMay, Bool.and_eq_true, decide_eq_true_eq] at hm'
  obtain ⟨m1, m2, m3, m4⟩ := hm'
  have hl : (topB p).length = 20 + p.opts.length := ipHeadB_len _ _
  refine ASpec.of_body TT_ok Try.mixed _ [.tmp 2, .tmp 3] ([], []) Try.func88 (by kernel_rfl) rfl rfl (by simp only [Try.ntmps88, List.length_cons, List.length_nil]; omega) rfl (by kernel_rfl) ?_
  simp only [argE_cons, argE_nil, ac_seq, ac_region, at_normal, ao_nil, ao_cons, as_call, as_box, as_assign, as_load, pktL, pktA, u8A, u16A, u32A, i64, boA, fr_false, List.contains_nil, beq_self_eq_true, hk_some, hopG, rd, aopsD, heapF, frzW, frzR, constT, evT, lk, putT, loadF, cellsF, argsF, constA, cellA, TK.isAgg, List.length_cons, List.length_nil, List.getElem?_cons_zero, List.drop_zero, List.take_succ_cons, List.take_nil, List.nil_append, Option.map_some, Nat.reduceAdd, Nat.reduceSub, Nat.reduceEqDiff, Nat.reduceLeDiff, true_and, eq_self, Bool.false_eq_true, ↓reduceIte, Nat.zero_add, Nat.le_refl, TT92]
  refine ACall.intro (ipCheck_a p (by omega) (by omega)) ?_
  simp only [hm, ac_skip, ac_seq, ac_cond, ac_region, at_normal, ao_nil, ao_cons, if_f, as_call, as_move, as_assign, as_binOp, as_load, i64, fr_false, List.contains_nil, Nat.reduceBEq, beq_self_eq_true, decide_true, hk_some, hopG, rd, aopsD, frzW, tlN, constT, evT, lk, putT, binF, loadF, argsF, constA, cellA, TK.isAgg, List.length_cons, List.length_nil, List.getElem?_cons_zero, List.drop_zero, List.take_succ_cons, List.take_nil, Option.map_some, Nat.reduceAdd, Nat.reduceSub, Nat.reduceEqDiff, Nat.reduceLeDiff, true_and, eq_self, Bool.false_eq_true, Bool.not_true, ↓reduceIte, Nat.zero_add, Nat.le_refl, TT61, TT92]
  refine ACall.intro (ipTop_a p hp hm) ?_
  simp only [ao_cons, as_call, as_load, as_fieldAddr, as_buildSlice, Nat.reduceBEq, hk_some, hopG, rd, frzW, evT, lk, putT, loadF, cellsF, ovw, fillF, makeSF, partsF, argsF, TK.isAgg, List.length_cons, List.length_nil, List.getElem?_cons_zero, List.getElem?_cons_succ, List.drop_zero, List.drop_succ_cons, List.set_cons_zero, List.set_cons_succ, List.nil_append, List.cons_append, List.replicate_succ, List.replicate_zero, List.flatten_cons, List.flatten_nil, List.append_nil, Option.map_some, Nat.reduceAdd, Nat.reduceSub, Nat.reduceEqDiff, Nat.reduceLeDiff, Nat.succ_ne_zero, ne_eq, not_false_eq_true, true_and, and_self, eq_self, Bool.false_eq_true, ↓reduceIte, Nat.mul_one, Nat.zero_add, Nat.zero_lt_succ, Nat.le_refl, TT38, TT92, TT237]
  refine ACall.intro (join_a [topB p, p.data] (by simp [small]; omega)) ?_
  simp only [ac_ret, at_normal, ae_ret, ao_nil, ao_cons, as_assign, Nat.reduceBEq, rd, constT, evT, lk, putT, resF, resL, constA, cellA, List.flatten_cons, List.flatten_nil, List.append_nil, Option.map_some, Option.bind_some, Nat.reduceSub, Nat.reduceEqDiff, true_and, and_true, eq_self, ↓reduceIte]
  try rfl
set_option maxRecDepth 100000 in
theorem ipPut_no (p : PktN) (hm : pktMay p = false) (ho : p.opts.length ≤ 100000) (hd : p.data.length ≤ 1000000) : ASpec Try.prog 88 [pktA p] (.tup [.bs [], i64 2]) := by
  refine ASpec.of_body TT_ok Try.mixed _ [.tmp 2, .tmp 3] ([], []) Try.func88 (by kernel_rfl) rfl rfl (by simp only [Try.ntmps88, List.length_cons, List.length_nil]; omega) rfl (by kernel_rfl) ?_
  simp only [argE_cons, argE_nil, ac_seq, ac_region, at_normal, ao_nil, ao_cons, as_call, as_box, as_assign, as_load, pktL, pktA, u8A, u16A, u32A, i64, boA, fr_false, List.contains_nil, beq_self_eq_true, hk_some, hopG, rd, aopsD, heapF, frzW, frzR, constT, evT, lk, putT, loadF, cellsF, argsF, constA, cellA, TK.isAgg, List.length_cons, List.length_nil, List.getElem?_cons_zero, List.drop_zero, List.take_succ_cons, List.take_nil, List.nil_append, Option.map_some, Nat.reduceAdd, Nat.reduceSub, Nat.reduceEqDiff, Nat.reduceLeDiff, true_and, eq_self, Bool.false_eq_true, ↓reduceIte, Nat.zero_add, Nat.le_refl, TT92]
  refine ACall.intro (ipCheck_a p ho hd) ?_
  simp only [hm, ac_ret, ac_seq, ac_cond, ac_region, at_normal, at_ret, ae_ret, ao_nil, ao_cons, if_t, as_move, as_assign, as_binOp, i64, fr_false, List.contains_nil, beq_self_eq_true, decide_false, Int.reduceEq, hk_some, hopG, rd, aopsD, constT, evT, lk, putT, binF, resF, resL, constA, cellA, Option.map_some, Option.bind_some, Nat.reduceSub, Nat.reduceEqDiff, Nat.reduceLeDiff, and_true, and_self, eq_self, Bool.false_eq_true, Bool.not_false, ↓reduceIte, TT61]
  try rfl
end Go.Proofs.Ytafajmnlknmfiaa
