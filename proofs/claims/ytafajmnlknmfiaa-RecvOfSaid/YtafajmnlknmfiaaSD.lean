/- The kinds, and the statement about what came in. -/
import Derived.Test.YtafajmnlknmfiaaSB
namespace Go.Proofs.Ytafajmnlknmfiaa
set_option linter.unusedSimpArgs false
set_option linter.unusedVariables false
open Go.RowKit

theorem ASpec.weak6 {P : Program} {f : FuncId} {xs ys : List AV} {r : AV} (h : ASpec P f ys r) (hw : ∀ M w vs, RepL M w xs vs → RepL M w ys vs) : ASpec P f xs r := ⟨h.1, fun M w vs hM hv => h.2 M w vs hM (hw M w vs hv)⟩
theorem RepL.consW6 {M : Nat → Prop} {w : World} {a b : AV} {xs ys : List AV} {vs : List Value} (h : ∀ v, RepV M w a v → RepV M w b v) (hs : ∀ vs, RepL M w xs vs → RepL M w ys vs) : RepL M w (a :: xs) vs → RepL M w (b :: ys) vs := fun hh => by
  obtain ⟨v, vs, rfl, h1, h2⟩ := hh.cons_iff
  exact RepL.cons (h v h1) (hs vs h2)
theorem anyR6 {M : Nat → Prop} {w : World} {a : AV} : ∀ v, RepV M w a v → RepV M w .any v := fun v _ => by simp only [RepV]
theorem aggW6 {M : Nat → Prop} {w : World} {xs ys : List AV} (hs : ∀ vs, RepL M w xs vs → RepL M w ys vs) : ∀ v, RepV M w (.agg xs) v → RepV M w (.agg ys) v := fun v h => by
  simp only [RepV] at h ⊢
  obtain ⟨us, h1, h2⟩ := h
  exact ⟨us, h1, hs us h2⟩

set_option maxRecDepth 100000 in
theorem kind_nil : ASpec Try.prog 107 [.one .nilIface] (i64 0) := by
  refine ASpec.of_body TT_ok Try.mixed _ [.tmp 2] ([], []) Try.func107 (by kernel_rfl) rfl rfl (by simp only [Try.ntmps107, List.length_cons, List.length_nil]; omega) rfl (by kernel_rfl) ?_
  simp only [argE_cons, argE_nil, ac_skip, ac_ret, ac_seq, ac_cond, ac_region, at_normal, ae_ret, ao_nil, ao_cons, if_f, as_alloc, as_store, as_move, as_assign, as_extract, i64, fr_false, List.contains_nil, beq_self_eq_true, Bool.and_self, hk_some, hopG, rd, as_typeAssert, aopsD, heapF, constT, evT, lk, putT, cellsF, ovw, okCell, resF, resL, constA, cellA, Value.oneCell', List.length_cons, List.length_nil, List.getElem?_cons_zero, List.getElem?_cons_succ, List.set_cons_zero, List.set_cons_succ, List.nil_append, List.cons_append, List.all_cons, List.all_nil, Option.map_some, Option.bind_some, Nat.reduceAdd, Nat.reduceSub, Nat.reduceEqDiff, Nat.reduceLeDiff, Nat.succ_ne_zero, and_true, and_self, eq_self, Bool.false_eq_true, ↓reduceIte, Nat.zero_add, Nat.le_refl, TT40, TT92, TT134, TT155, TT164]
set_option maxRecDepth 100000 in
theorem kind_int (n : Int) : ASpec Try.prog 107 [.ifc 3 (i64 n)] (i64 0) := by
  refine ASpec.of_body TT_ok Try.mixed _ [.tmp 2] ([], []) Try.func107 (by kernel_rfl) rfl rfl (by simp only [Try.ntmps107, List.length_cons, List.length_nil]; omega) rfl (by kernel_rfl) ?_
  simp only [argE_cons, argE_nil, ac_skip, ac_ret, ac_seq, ac_cond, ac_region, at_normal, ae_ret, ao_nil, ao_cons, if_f, as_alloc, as_store, as_move, as_assign, as_extract, i64, fr_false, List.contains_nil, beq_self_eq_true, Bool.and_self, hk_some, hopG, rd, as_typeAssert, aopsD, heapF, constT, evT, lk, putT, cellsF, ovw, okCell, resF, resL, constA, cellA, Value.oneCell', List.length_cons, List.length_nil, List.getElem?_cons_zero, List.getElem?_cons_succ, List.set_cons_zero, List.set_cons_succ, List.nil_append, List.cons_append, List.all_cons, List.all_nil, Option.map_some, Option.bind_some, Nat.reduceAdd, Nat.reduceSub, Nat.reduceEqDiff, Nat.reduceLeDiff, Nat.succ_ne_zero, and_true, and_self, eq_self, Bool.false_eq_true, ↓reduceIte, Nat.zero_add, Nat.le_refl, TT40, TT92, TT134, TT155, TT164]
set_option maxRecDepth 100000 in
theorem kind_icmp (t c r : Int) (l : List UInt8) : ASpec Try.prog 107 [.ifc 134 (icmpA t c r l)] (i64 1) := by
  refine ASpec.of_body TT_ok Try.mixed _ [.tmp 2] ([], []) Try.func107 (by kernel_rfl) rfl rfl (by simp only [Try.ntmps107, List.length_cons, List.length_nil]; omega) rfl (by kernel_rfl) ?_
  simp only [argE_cons, argE_nil, ac_ret, ac_seq, ac_cond, ac_region, at_normal, at_ret, ae_ret, ao_nil, ao_cons, if_t, as_alloc, as_store, as_move, as_assign, as_extract, icmpA, u8A, u32A, i64, fr_false, List.contains_nil, beq_self_eq_true, Bool.and_self, hk_some, hopG, rd, as_typeAssert, aopsD, heapF, constT, evT, lk, putT, cellsF, ovw, okCell, resF, resL, constA, cellA, Value.oneCell', List.length_cons, List.length_nil, List.getElem?_cons_zero, List.getElem?_cons_succ, List.set_cons_zero, List.set_cons_succ, List.nil_append, List.all_cons, List.all_nil, Option.map_some, Option.bind_some, Nat.reduceAdd, Nat.reduceSub, Nat.reduceEqDiff, Nat.reduceLeDiff, Nat.succ_ne_zero, and_true, and_self, eq_self, Bool.false_eq_true, ↓reduceIte, Nat.zero_add, Nat.le_refl, TT134]
set_option maxRecDepth 100000 in
theorem kind_dat (s d : Int) (b : Bool) (l : List UInt8) : ASpec Try.prog 107 [.ifc 164 (datA s d b l)] (i64 2) := by
  refine ASpec.of_body TT_ok Try.mixed _ [.tmp 2] ([], []) Try.func107 (by kernel_rfl) rfl rfl (by simp only [Try.ntmps107, List.length_cons, List.length_nil]; omega) rfl (by kernel_rfl) ?_
  simp only [argE_cons, argE_nil, ac_skip, ac_ret, ac_seq, ac_cond, ac_region, at_normal, at_ret, ae_ret, ao_nil, ao_cons, if_t, if_f, as_alloc, as_store, as_move, as_assign, as_extract, datA, u16A, i64, boA, fr_false, List.contains_nil, beq_self_eq_true, Bool.and_self, hk_some, hopG, rd, as_typeAssert, aopsD, heapF, constT, evT, lk, putT, cellsF, ovw, okCell, resF, resL, constA, cellA, Value.oneCell', List.length_cons, List.length_nil, List.getElem?_cons_zero, List.getElem?_cons_succ, List.set_cons_zero, List.set_cons_succ, List.nil_append, List.cons_append, List.all_cons, List.all_nil, Option.map_some, Option.bind_some, Nat.reduceAdd, Nat.reduceSub, Nat.reduceEqDiff, Nat.reduceLeDiff, Nat.succ_ne_zero, and_true, and_self, eq_self, Bool.false_eq_true, ↓reduceIte, Nat.zero_add, Nat.le_refl, TT134, TT164]
set_option maxRecDepth 100000 in
theorem kind_seg (s : SegN) : ASpec Try.prog 107 [.ifc 40 (segA s)] (i64 3) := by
  refine ASpec.of_body TT_ok Try.mixed _ [.tmp 2] ([], []) Try.func107 (by kernel_rfl) rfl rfl (by simp only [Try.ntmps107, List.length_cons, List.length_nil]; omega) rfl (by kernel_rfl) ?_
  simp only [argE_cons, argE_nil, ac_skip, ac_ret, ac_seq, ac_cond, ac_region, at_normal, at_ret, ae_ret, ao_nil, ao_cons, if_t, if_f, as_alloc, as_store, as_move, as_assign, as_extract, segL, segA, u8A, u16A, u32A, i64, fr_false, List.contains_nil, beq_self_eq_true, Bool.and_self, hk_some, hopG, rd, as_typeAssert, aopsD, heapF, constT, evT, lk, putT, cellsF, ovw, okCell, resF, resL, constA, cellA, Value.oneCell', List.length_cons, List.length_nil, List.getElem?_cons_zero, List.getElem?_cons_succ, List.set_cons_zero, List.set_cons_succ, List.nil_append, List.cons_append, List.all_cons, List.all_nil, Option.map_some, Option.bind_some, Nat.reduceAdd, Nat.reduceSub, Nat.reduceEqDiff, Nat.reduceLeDiff, Nat.succ_ne_zero, and_true, and_self, eq_self, Bool.false_eq_true, ↓reduceIte, Nat.zero_add, Nat.le_refl, TT40, TT134, TT164]
set_option maxRecDepth 100000 in
theorem kind_arp (o : Int) (s : Nat → Int) (x : Int) (d : Nat → Int) (y : Int) : ASpec Try.prog 107 [.ifc 155 (arpA o s x d y)] (i64 4) := by
  refine ASpec.of_body TT_ok Try.mixed _ [.tmp 2] ([], []) Try.func107 (by kernel_rfl) rfl rfl (by simp only [Try.ntmps107, List.length_cons, List.length_nil]; omega) rfl (by kernel_rfl) ?_
  simp only [argE_cons, argE_nil, ac_skip, ac_ret, ac_seq, ac_cond, ac_region, at_normal, at_ret, ae_ret, ao_nil, ao_cons, if_t, if_f, as_alloc, as_store, as_move, as_assign, as_extract, macL, arpA, u8A, u16A, u32A, i64, fr_false, List.contains_nil, beq_self_eq_true, Bool.and_self, hk_some, hopG, rd, as_typeAssert, aopsD, heapF, constT, evT, lk, putT, cellsF, ovw, okCell, resF, resL, constA, cellA, Value.oneCell', List.length_cons, List.length_nil, List.getElem?_cons_zero, List.getElem?_cons_succ, List.set_cons_zero, List.set_cons_succ, List.nil_append, List.cons_append, List.all_cons, List.all_nil, Option.map_some, Option.bind_some, Nat.reduceAdd, Nat.reduceSub, Nat.reduceEqDiff, Nat.reduceLeDiff, Nat.succ_ne_zero, and_true, and_self, eq_self, Bool.false_eq_true, ↓reduceIte, Nat.zero_add, Nat.le_refl, TT40, TT134, TT155, TT164]
set_option maxRecDepth 100000 in
theorem kind_pkt (p : PktN) : ASpec Try.prog 107 [.ifc 92 (pktA p)] (i64 5) := by
  refine ASpec.of_body TT_ok Try.mixed _ [.tmp 2] ([], []) Try.func107 (by kernel_rfl) rfl rfl (by simp only [Try.ntmps107, List.length_cons, List.length_nil]; omega) rfl (by kernel_rfl) ?_
  simp only [argE_cons, argE_nil, ac_skip, ac_ret, ac_seq, ac_cond, ac_region, at_normal, at_ret, ae_ret, ao_nil, ao_cons, if_t, if_f, as_alloc, as_store, as_move, as_assign, as_extract, pktL, pktA, u8A, u16A, u32A, i64, boA, fr_false, List.contains_nil, beq_self_eq_true, Bool.and_self, hk_some, hopG, rd, as_typeAssert, aopsD, heapF, constT, evT, lk, putT, cellsF, ovw, okCell, resF, resL, constA, cellA, Value.oneCell', List.length_cons, List.length_nil, List.getElem?_cons_zero, List.getElem?_cons_succ, List.set_cons_zero, List.set_cons_succ, List.nil_append, List.cons_append, List.all_cons, List.all_nil, Option.map_some, Option.bind_some, Nat.reduceAdd, Nat.reduceSub, Nat.reduceEqDiff, Nat.reduceLeDiff, Nat.succ_ne_zero, and_true, and_self, eq_self, Bool.false_eq_true, ↓reduceIte, Nat.zero_add, Nat.le_refl, TT40, TT92, TT134, TT155, TT164]
set_option maxRecDepth 100000 in
theorem must_icmp (t c r : Int) (l : List UInt8) : ASpec Try.prog 111 [.ifc 134 (icmpA t c r l)] (icmpA t c r l) := by
  refine ASpec.of_body TT_ok Try.mixed _ [.cell 2 134] ([], []) Try.func111 (by kernel_rfl) rfl rfl (by simp only [Try.ntmps111, List.length_cons, List.length_nil]; omega) rfl (by kernel_rfl) ?_
  simp only [argE_cons, argE_nil, ac_ret, ac_seq, ac_region, at_normal, ae_ret, ao_nil, ao_cons, as_alloc, as_store, as_move, icmpA, u8A, u32A, fr_false, fr_nil, fr_cons, List.contains_nil, beq_self_eq_true, Bool.and_self, hk_some, hopG, rd, as_typeAssert, aopsD, heapF, evT, lk, putT, loadF, cellsF, ovw, okCell, resF, resL, TK.isAgg, Value.oneCell', List.length_cons, List.length_nil, List.getElem?_cons_zero, List.drop_zero, List.take_succ_cons, List.take_nil, List.set_cons_zero, List.set_cons_succ, List.nil_append, List.all_cons, List.all_nil, Option.map_some, Option.bind_some, Nat.reduceAdd, Nat.reduceSub, Nat.reduceEqDiff, Nat.reduceLeDiff, Nat.succ_ne_zero, and_true, and_self, eq_self, Bool.false_eq_true, ↓reduceIte, Nat.zero_add, Nat.le_refl, TT134]
set_option maxRecDepth 100000 in
theorem must_dat (s d : Int) (b : Bool) (l : List UInt8) : ASpec Try.prog 113 [.ifc 164 (datA s d b l)] (datA s d b l) := by
  refine ASpec.of_body TT_ok Try.mixed _ [.cell 2 164] ([], []) Try.func113 (by kernel_rfl) rfl rfl (by simp only [Try.ntmps113, List.length_cons, List.length_nil]; omega) rfl (by kernel_rfl) ?_
  simp only [argE_cons, argE_nil, ac_ret, ac_seq, ac_region, at_normal, ae_ret, ao_nil, ao_cons, as_alloc, as_store, as_move, datA, u16A, boA, fr_false, fr_nil, fr_cons, List.contains_nil, beq_self_eq_true, Bool.and_self, hk_some, hopG, rd, as_typeAssert, aopsD, heapF, evT, lk, putT, loadF, cellsF, ovw, okCell, resF, resL, TK.isAgg, Value.oneCell', List.length_cons, List.length_nil, List.getElem?_cons_zero, List.drop_zero, List.take_succ_cons, List.take_nil, List.set_cons_zero, List.set_cons_succ, List.nil_append, List.all_cons, List.all_nil, Option.map_some, Option.bind_some, Nat.reduceAdd, Nat.reduceSub, Nat.reduceEqDiff, Nat.reduceLeDiff, Nat.succ_ne_zero, and_true, and_self, eq_self, Bool.false_eq_true, ↓reduceIte, Nat.zero_add, Nat.le_refl, TT164]
set_option maxRecDepth 100000 in
theorem must_seg (s : SegN) : ASpec Try.prog 114 [.ifc 40 (segA s)] (segA s) := by
  refine ASpec.of_body TT_ok Try.mixed _ [.cell 2 40] ([], []) Try.func114 (by kernel_rfl) rfl rfl (by simp only [Try.ntmps114, List.length_cons, List.length_nil]; omega) rfl (by kernel_rfl) ?_
  simp only [argE_cons, argE_nil, ac_ret, ac_seq, ac_region, at_normal, ae_ret, ao_nil, ao_cons, as_alloc, as_store, as_move, segL, segA, u8A, u16A, u32A, fr_false, fr_nil, fr_cons, List.contains_nil, beq_self_eq_true, Bool.and_self, hk_some, hopG, rd, as_typeAssert, aopsD, heapF, evT, lk, putT, loadF, cellsF, ovw, okCell, resF, resL, TK.isAgg, Value.oneCell', List.length_cons, List.length_nil, List.getElem?_cons_zero, List.drop_zero, List.take_succ_cons, List.take_nil, List.set_cons_zero, List.set_cons_succ, List.nil_append, List.all_cons, List.all_nil, Option.map_some, Option.bind_some, Nat.reduceAdd, Nat.reduceSub, Nat.reduceEqDiff, Nat.reduceLeDiff, Nat.succ_ne_zero, and_true, and_self, eq_self, Bool.false_eq_true, ↓reduceIte, Nat.zero_add, Nat.le_refl, TT40]
def z13 : List UInt8 := List.replicate 13 0
def cfg26 : CfgN := ⟨fun _ => 0, fun _ => 0, 0, 0, 0⟩
set_option maxRecDepth 100000 in
theorem lives26_a : ASpec Try.prog 108 [] (boA true) := by
  have hw := recvOf_0 cfg26 (List.replicate 13 0) (by decide)
  have hz : roOf cfg26.m0 (List.replicate 13 0) = .no 8 := by
    unfold roOf
    rw [show (ethP (List.replicate 13 0)).2 = 4 from rfl]
    rfl
  rw [hz] at hw
  simp only [RO.x, RO.why] at hw
  refine ASpec.of_body TT_ok Try.mixed _ [.tmp 0] ([], []) Try.func108 (by kernel_rfl) rfl rfl (by simp only [Try.ntmps108, List.length_nil]; omega) rfl (by kernel_rfl) ?_
  simp only [argE_nil, ac_seq, ac_region, at_normal, ao_nil, ao_cons, as_call, as_assign, as_build, as_makeSlice, boA, fr_false, List.contains_nil, beq_self_eq_true, hk_some, hopG, rd, aopsD, frzW, frzR, constT, evT, lk, putT, fillF, buildF, zerosF, partsF, argsF, constA, cellA, List.replicate_succ, List.replicate_zero, Option.map_some, Nat.reduceSub, Nat.reduceEqDiff, Nat.reduceLeDiff, true_and, and_self, eq_self, Bool.false_eq_true, ↓reduceIte, Int.reduceToNat, Int.reduceLE, TT5, TT37, TT38]
  refine ACall.intro (hw.weak6 fun M w vs => RepL.consW6 (aggW6 ?_) fun vs h => h) ?_
  · intro vs
    repeat' first | exact id | refine RepL.consW6 (fun v h => h) fun vs => ?_ | refine RepL.consW6 anyR6 fun vs => ?_
  · simp only [ac_seq, ac_region, at_normal, ao_nil, ao_cons, ao_guard_t, st_at, pk_at, if_t, as_pick, as_call, as_move, as_assign, as_binOp, as_extract, as_build, i64, fr_false, List.contains_nil, beq_self_eq_true, decide_true, hk_some, hopG, rd, as_makeInterface, aopsD, frzW, frzR, constT, evT, lk, putT, GV, gdst, binF, fillF, buildF, partsF, argsF, constA, cellA, List.getElem?_cons_zero, List.getElem?_cons_succ, Option.map_some, Nat.reduceSub, Nat.reduceEqDiff, Nat.reduceLeDiff, true_and, eq_self, Bool.false_eq_true, ↓reduceIte, TT3, TT20, TT155]
    refine ACall.intro (kind_arp 0 m0 0 m0 0) ?_
    simp only [ao_cons, ao_guard_t, st_at, pk_at, if_t, as_pick, as_call, as_move, as_binOp, i64, beq_self_eq_true, decide_true, hk_some, hopG, rd, frzW, frzR, constT, evT, lk, putT, GV, gdst, binF, argsF, constA, cellA, Option.map_some, Nat.reduceSub, Nat.reduceEqDiff, true_and, eq_self, ↓reduceIte, TT3]
    refine ACall.intro kind_nil ?_
    simp only [ac_ret, at_normal, ae_ret, ao_nil, ao_cons, ao_guard_t, st_at, pk_at, if_t, as_pick, as_assign, as_binOp, i64, beq_self_eq_true, decide_true, hk_some, hopG, rd, constT, evT, lk, putT, GV, gdst, binF, resF, resL, constA, cellA, Option.map_some, Option.bind_some, Nat.reduceSub, Nat.reduceEqDiff, and_true, and_self, eq_self, ↓reduceIte, TT3]
end Go.Proofs.Ytafajmnlknmfiaa
