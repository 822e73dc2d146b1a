/- Package recv and its reference. -/
import Derived.Test.YtafajmnlknmfiaaCM
import Derived.Test.YtafajmnlknmfiaaVF
import Derived.Test.YtafajmnlknmfiaaCY
import Derived.Test.YtafajmnlknmfiaaTC
namespace Go.Proofs.Ytafajmnlknmfiaa
set_option linter.unusedSimpArgs false
set_option linter.unusedVariables false
open Go.RowKit

def specB (a : Int) : Bool := decide (a = 0) || (decide (a / 16777216 = 127) || decide (224 ≤ a / 16777216))
set_option maxRecDepth 100000 in
theorem special_a (a : Int) (h : 0 ≤ a ∧ a ≤ 4294967295) : ASpec Try.prog 191 [u32A a] (boA (specB a)) := by
  refine ASpec.of_body TT_ok Try.mixed _ [.tmp 2] ([], []) Try.func191 (by kernel_rfl) rfl rfl (by simp only [Try.ntmps191, List.length_cons, List.length_nil]; omega) rfl (by kernel_rfl) ?_
  simp only [argE_cons, argE_nil, ac_seq, ac_region, at_normal, ao_nil, ao_cons, ao_guard_f, as_move, as_assign, as_binOp, u32A, boA, fr_false, List.contains_nil, beq_self_eq_true, hk_some, hopG, rd, aopsD, constT, evT, lk, putT, GV, gdst, binF, constA, cellA, Option.map_some, Nat.reduceSub, Nat.reduceLeDiff, Nat.succ_ne_zero, true_and, eq_self, Bool.false_eq_true, ↓reduceIte, Nat.zero_add, TT22]
  cases c1 : decide (a = 0)
  · simp only [ao_cons, ao_guard_f, st_at, pk_at, if_f, as_pick, as_move, as_binOp, beq_self_eq_true, Int.cast_ofNat_Int, Int.reducePow, hk_some, hopG, rd, constT, evT, lk, putT, GV, gdst, binF, constA, cellA, IntKind.bits, Option.map_some, Nat.reduceSub, Nat.reduceEqDiff, Nat.succ_ne_zero, true_and, and_self, eq_self, ↓reduceIte, Int.reduceToNat, Int.reduceLE, TT22]
    cases c2 : decide (a / 16777216 = 127)
    · simp only [ac_ret, at_normal, ae_ret, ao_nil, ao_cons, ao_guard_f, st_at, pk_at, if_f, as_pick, as_move, as_assign, as_binOp, beq_self_eq_true, Int.cast_ofNat_Int, Int.reducePow, hk_some, hopG, rd, constT, evT, lk, putT, GV, gdst, binF, resF, resL, constA, cellA, IntKind.bits, Option.map_some, Option.bind_some, Nat.reduceSub, Nat.reduceEqDiff, Nat.succ_ne_zero, true_and, and_true, and_self, eq_self, ↓reduceIte, Int.reduceToNat, Int.reduceLE, TT22]
      simp only [specB, c1, c2, Bool.false_or]
    · simp only [ac_ret, at_normal, ae_ret, ao_nil, ao_cons, ao_guard_f, sk_at, pk_at, if_t, as_pick, as_assign, beq_self_eq_true, rd, constT, evT, lk, putT, GV, gdst, resF, resL, constA, cellA, Option.map_some, Option.bind_some, Nat.reduceSub, Nat.reduceEqDiff, true_and, and_true, eq_self, ↓reduceIte]
      simp only [specB, c1, c2, Bool.false_or, Bool.true_or]
  · simp only [ac_ret, at_normal, ae_ret, ao_nil, ao_cons, ao_guard_f, sk_at, pk_at, if_t, as_pick, as_move, as_assign, beq_self_eq_true, rd, constT, evT, lk, putT, GV, gdst, resF, resL, constA, cellA, Option.map_some, Option.bind_some, Nat.reduceSub, Nat.reduceEqDiff, true_and, and_true, eq_self, ↓reduceIte]
    simp only [specB, c1, Bool.true_or]
set_option maxRecDepth 100000 in
theorem refSpecial_a (a : Int) (h : 0 ≤ a ∧ a ≤ 4294967295) : ASpec Try.prog 170 [u32A a] (boA (specB a)) := by
  have e : decide (223 < a / 16777216) = decide (224 ≤ a / 16777216) := by rw [Bool.eq_iff_iff, dT, dT]; omega
  refine ASpec.of_body TT_ok Try.mixed _ [.tmp 2] ([], []) Try.func170 (by kernel_rfl) rfl rfl (by simp only [Try.ntmps170, List.length_cons, List.length_nil]; omega) rfl (by kernel_rfl) ?_
  simp only [tdivN (a := a) (b := 16777216) h.1, u32_in (n := a / 16777216) (by omega) (by omega), argE_cons, argE_nil, ac_seq, ac_region, at_normal, ao_nil, ao_cons, ao_guard_f, as_move, as_assign, as_binOp, u32A, boA, fr_false, List.contains_nil, beq_self_eq_true, Int.reduceEq, hk_some, hopG, rd, aopsD, constT, evT, lk, putT, GV, gdst, binF, constA, cellA, Option.map_some, Nat.reduceSub, Nat.reduceLeDiff, Nat.succ_ne_zero, ne_eq, not_false_eq_true, true_and, and_self, eq_self, Bool.false_eq_true, ↓reduceIte, Nat.zero_add, TT22]
  cases c1 : decide (a = 0)
  · simp only [ao_cons, ao_guard_f, st_at, pk_at, if_f, as_pick, as_move, as_binOp, beq_self_eq_true, hk_some, hopG, rd, constT, evT, lk, putT, GV, gdst, binF, constA, cellA, Option.map_some, Nat.reduceSub, Nat.reduceEqDiff, true_and, eq_self, ↓reduceIte, TT22]
    cases c2 : decide (a / 16777216 = 127)
    · simp only [e, ac_ret, at_normal, ae_ret, ao_nil, ao_cons, ao_guard_f, st_at, pk_at, if_f, as_pick, as_move, as_assign, as_binOp, beq_self_eq_true, hk_some, hopG, rd, constT, evT, lk, putT, GV, gdst, binF, resF, resL, constA, cellA, Option.map_some, Option.bind_some, Nat.reduceSub, Nat.reduceEqDiff, true_and, and_true, eq_self, ↓reduceIte, TT22]
      simp only [specB, c1, c2, Bool.false_or]
    · simp only [ac_ret, at_normal, ae_ret, ao_nil, ao_cons, ao_guard_f, sk_at, pk_at, if_t, as_pick, as_assign, beq_self_eq_true, rd, constT, evT, lk, putT, GV, gdst, resF, resL, constA, cellA, Option.map_some, Option.bind_some, Nat.reduceSub, Nat.reduceEqDiff, true_and, and_true, eq_self, ↓reduceIte]
      simp only [specB, c1, c2, Bool.false_or, Bool.true_or]
  · simp only [ac_ret, at_normal, ae_ret, ao_nil, ao_cons, ao_guard_f, sk_at, pk_at, if_t, as_pick, as_move, as_assign, beq_self_eq_true, rd, constT, evT, lk, putT, GV, gdst, resF, resL, constA, cellA, Option.map_some, Option.bind_some, Nat.reduceSub, Nat.reduceEqDiff, true_and, and_true, eq_self, ↓reduceIte]
    simp only [specB, c1, Bool.true_or]

/-- What came in. -/
inductive RO where
  | no (n : Int)
  | arp (o : Int) (s : Nat → Int) (x : Int) (d : Nat → Int) (y : Int)
  | pkt (p : PktN)
def RO.x : RO → AV
  | .no _ => .one .nilIface
  | .arp o s x d y => .ifc 155 (arpA o s x d y)
  | .pkt p => .ifc 92 (pktA p)
def RO.why : RO → Int
  | .no n => n
  | _ => -1
def roPk (b : List UInt8) : RO :=
  if (ipP b).2 = 0 then if specB (ipP b).1.src = true then .no 10 else if ((ipP b).1.mf || decide (0 < (ipP b).1.off)) = true then .no 12 else if (ipP b).1.ttl = 0 then .no 13 else .pkt (ipP b).1 else .no 10
theorem ipP_src (b : List UInt8) : 0 ≤ (ipP b).1.src ∧ (ipP b).1.src ≤ 4294967295 := by
  unfold ipP
  split
  · exact get32_bd6 _ _
  · simp [pkt0]
set_option maxRecDepth 100000 in
theorem recvPacket_a (d s : Nat → Int) (t : Int) (b : List UInt8) (hl : b.length ≤ 100000) : ASpec Try.prog 165 [frameA d s t b] (.tup [(if mEq d m255 = true then RO.no 11 else roPk b).x, i64 (if mEq d m255 = true then RO.no 11 else roPk b).why]) := by
  have hs := ipP_src b
  refine ASpec.of_body TT_ok Try.mixed _ [.tmp 2, .tmp 3] ([], []) Try.func165 (by kernel_rfl) rfl rfl (by simp only [Try.ntmps165, List.length_cons, List.length_nil]; omega) rfl (by kernel_rfl) ?_
  simp only [argE_cons, argE_nil, ac_seq, ac_region, at_normal, ao_nil, ao_cons, as_call, as_box, as_assign, as_load, as_fieldAddr, macL, frameA, u8A, u16A, i64, fr_false, List.contains_nil, Nat.reduceBEq, beq_self_eq_true, hk_some, hopG, rd, aopsD, heapF, frzW, tlN, constT, evT, lk, putT, loadF, cellsF, argsF, constA, cellA, TK.isAgg, List.length_cons, List.length_nil, List.getElem?_cons_zero, List.drop_zero, List.take_zero, List.take_succ_cons, List.nil_append, List.cons_append, Option.map_some, Nat.reduceAdd, Nat.reduceSub, Nat.reduceEqDiff, Nat.reduceLeDiff, Nat.succ_ne_zero, ne_eq, not_false_eq_true, true_and, eq_self, Bool.false_eq_true, ↓reduceIte, Int.reduceNeg, Nat.zero_add, Nat.add_zero, TT29, TT56]
  refine ACall.intro all_a ?_
  simp only [mEq_list, ac_cond, at_normal, ao_nil, ao_cons, as_binOp, macL, macA, u8A, Nat.reduceBEq, hk_some, hopG, rd, evT, lk, putT, binF, intsOf, List.length_cons, List.length_nil, Option.map_some, Option.bind_some, Nat.reduceAdd, Nat.reduceSub, Nat.reduceEqDiff, true_and, and_true, eq_self, ↓reduceIte, Int.reduceNeg, Nat.zero_add, TT29]
  cases c0 : mEq d m255
  · rw [if_neg (by simp)]
    simp only [ac_skip, ac_seq, ac_region, at_normal, ao_cons, if_f, as_call, as_load, as_fieldAddr, fr_false, List.contains_nil, beq_self_eq_true, hk_some, hopG, rd, aopsD, frzW, frzR, evT, lk, putT, loadF, argsF, TK.isAgg, List.getElem?_cons_zero, List.getElem?_cons_succ, List.drop_zero, List.drop_succ_cons, Option.map_some, Nat.reduceSub, Nat.reduceEqDiff, Nat.reduceLeDiff, Nat.succ_ne_zero, ne_eq, not_false_eq_true, true_and, eq_self, Bool.false_eq_true, ↓reduceIte, Int.reduceNeg, Nat.zero_add, TT38, TT56]
    refine ACall.intro (ipParse_a b (by omega)) ?_
    cases c1 : decide ((ipP b).2 = 0)
    · rw [show roPk b = .no 10 from if_neg (dF.1 c1)]
      simp only [c1, RO.x, RO.why, ac_ret, ac_seq, ac_block, ac_cond, ac_region, at_normal, at_ret, ab_ret, ae_ret, ao_nil, ao_cons, ao_guard_f, sk_at, pk_at, if_t, as_pick, as_alloc, as_store, as_move, as_assign, as_binOp, as_extract, pktL, pktA, u8A, u16A, u32A, i64, boA, fr_false, List.contains_nil, beq_self_eq_true, Bool.and_self, hk_some, hopG, rd, aopsD, heapF, constT, evT, lk, putT, GV, gdst, binF, cellsF, ovw, okCell, resF, resL, constA, cellA, Value.oneCell', List.length_cons, List.length_nil, List.getElem?_cons_zero, List.getElem?_cons_succ, List.set_cons_zero, List.set_cons_succ, List.nil_append, List.cons_append, List.all_cons, List.all_nil, Option.map_some, Option.bind_some, Nat.reduceAdd, Nat.reduceSub, Nat.reduceEqDiff, Nat.reduceLeDiff, and_true, and_self, eq_self, Bool.false_eq_true, Bool.not_false, ↓reduceIte, Int.reduceNeg, Nat.zero_add, Nat.le_refl, TT61, TT92]
    · have P : roPk b = if specB (ipP b).1.src = true then .no 10 else if ((ipP b).1.mf || decide (0 < (ipP b).1.off)) = true then .no 12 else if (ipP b).1.ttl = 0 then .no 13 else .pkt (ipP b).1 := if_pos (dT.1 c1)
      rw [P]
      simp only [c1, ac_seq, ac_block, ac_region, at_normal, ao_nil, ao_cons, ao_guard_f, st_at, if_f, as_call, as_alloc, as_store, as_move, as_assign, as_binOp, as_load, as_fieldAddr, as_extract, pktL, pktA, u8A, u16A, u32A, i64, boA, fr_false, List.contains_nil, beq_self_eq_true, Bool.and_self, hk_some, hopG, rd, aopsD, heapF, frzW, frzR, constT, evT, lk, putT, GV, gdst, binF, loadF, cellsF, ovw, argsF, okCell, constA, cellA, TK.isAgg, Value.oneCell', List.length_cons, List.length_nil, List.getElem?_cons_zero, List.getElem?_cons_succ, List.drop_zero, List.drop_succ_cons, List.set_cons_zero, List.set_cons_succ, List.nil_append, List.cons_append, List.all_cons, List.all_nil, Option.map_some, Nat.reduceAdd, Nat.reduceSub, Nat.reduceEqDiff, Nat.reduceLeDiff, Nat.succ_ne_zero, ne_eq, not_false_eq_true, true_and, and_self, eq_self, Bool.false_eq_true, Bool.not_true, ↓reduceIte, Int.reduceNeg, Nat.zero_add, Nat.le_refl, TT22, TT61, TT92]
      refine ACall.intro (special_a _ hs) ?_
      cases c2 : specB (ipP b).1.src
      · rw [if_neg (by simp)]
        simp only [ac_seq, ac_cond, ac_region, at_normal, ao_nil, ao_cons, pk_at, if_f, as_pick, as_call, as_assign, as_load, boA, fr_false, List.contains_nil, beq_self_eq_true, hk_some, hopG, rd, aopsD, frzW, frzR, evT, lk, putT, loadF, argsF, TK.isAgg, List.length_cons, List.length_nil, List.getElem?_cons_zero, List.getElem?_cons_succ, List.drop_zero, List.take_succ_cons, List.take_nil, Option.map_some, Nat.reduceAdd, Nat.reduceSub, Nat.reduceEqDiff, Nat.reduceLeDiff, true_and, eq_self, Bool.false_eq_true, ↓reduceIte, Int.reduceNeg, Nat.zero_add, Nat.le_refl, TT92]
        refine ACall.intro (ipPart_a (ipP b).1) ?_
        cases c3 : ((ipP b).1.mf || decide (0 < (ipP b).1.off))
        · rw [if_neg (by simp)]
          simp only [ac_seq, ac_cond, ac_region, at_normal, ao_nil, ao_cons, if_f, as_assign, as_binOp, as_load, as_fieldAddr, boA, fr_false, List.contains_nil, beq_self_eq_true, hk_some, hopG, rd, aopsD, constT, evT, lk, putT, binF, loadF, constA, cellA, TK.isAgg, List.getElem?_cons_zero, List.getElem?_cons_succ, List.drop_zero, List.drop_succ_cons, Option.map_some, Nat.reduceSub, Nat.reduceEqDiff, Nat.reduceLeDiff, Nat.succ_ne_zero, ne_eq, not_false_eq_true, true_and, eq_self, Bool.false_eq_true, ↓reduceIte, Int.reduceNeg, Nat.zero_add, TT5, TT92]
          cases c4 : decide ((ipP b).1.ttl = 0)
          · rw [if_neg (dF.1 c4)]
            simp only [RO.x, RO.why, ac_skip, ac_ret, ac_seq, ac_region, at_normal, ab_normal, ae_ret, ao_nil, ao_cons, if_f, as_assign, as_load, pktL, pktA, u8A, u16A, u32A, boA, fr_false, List.contains_nil, beq_self_eq_true, hk_some, hopG, rd, as_makeInterface, aopsD, constT, evT, lk, putT, loadF, resF, resL, constA, cellA, TK.isAgg, List.length_cons, List.length_nil, List.getElem?_cons_zero, List.getElem?_cons_succ, List.drop_zero, List.take_succ_cons, List.take_nil, Option.map_some, Option.bind_some, Nat.reduceAdd, Nat.reduceSub, Nat.reduceEqDiff, Nat.reduceLeDiff, and_true, and_self, eq_self, Bool.false_eq_true, ↓reduceIte, Int.reduceNeg, Nat.zero_add, Nat.le_refl, TT92]
          · rw [if_pos (dT.1 c4)]
            simp only [RO.x, RO.why, ac_ret, ac_seq, ac_region, at_normal, at_ret, ab_ret, ae_ret, ao_nil, ao_cons, if_t, as_assign, fr_false, List.contains_nil, beq_self_eq_true, rd, aopsD, constT, evT, lk, putT, resF, resL, constA, cellA, Option.map_some, Option.bind_some, Nat.reduceSub, Nat.reduceEqDiff, Nat.reduceLeDiff, and_true, and_self, eq_self, Bool.false_eq_true, ↓reduceIte, Int.reduceNeg]
        · rw [if_pos rfl]
          simp only [RO.x, RO.why, ac_ret, ac_seq, ac_cond, ac_region, at_normal, at_ret, ab_ret, ae_ret, ao_nil, ao_cons, if_t, as_assign, boA, fr_false, List.contains_nil, beq_self_eq_true, rd, aopsD, constT, evT, lk, putT, resF, resL, constA, cellA, Option.map_some, Option.bind_some, Nat.reduceSub, Nat.reduceEqDiff, Nat.reduceLeDiff, and_true, and_self, eq_self, Bool.false_eq_true, ↓reduceIte, Int.reduceNeg]
      · rw [if_pos rfl]
        simp only [RO.x, RO.why, ac_ret, ac_seq, ac_cond, ac_region, at_normal, at_ret, ab_ret, ae_ret, ao_nil, ao_cons, pk_at, if_t, if_f, as_pick, as_assign, boA, fr_false, List.contains_nil, beq_self_eq_true, rd, aopsD, constT, evT, lk, putT, resF, resL, constA, cellA, Option.map_some, Option.bind_some, Nat.reduceSub, Nat.reduceEqDiff, Nat.reduceLeDiff, and_true, and_self, eq_self, Bool.false_eq_true, ↓reduceIte, Int.reduceNeg]
  · rw [if_pos rfl]
    simp only [RO.x, RO.why, ac_ret, ac_seq, ac_region, at_normal, at_ret, ae_ret, ao_nil, ao_cons, if_t, as_assign, fr_false, List.contains_nil, beq_self_eq_true, rd, aopsD, constT, evT, lk, putT, resF, resL, constA, cellA, Option.map_some, Option.bind_some, Nat.reduceSub, Nat.reduceEqDiff, Nat.reduceLeDiff, and_true, and_self, eq_self, Bool.false_eq_true, ↓reduceIte, Int.reduceNeg]
end Go.Proofs.Ytafajmnlknmfiaa
