/- Rows of packets; frag's small functions. -/
import Derived.Test.YthjojkkapboonaaFA
namespace Go.Proofs.Ythjojkkapboonaa
set_option linter.unusedSimpArgs false
set_option linter.unusedVariables false
open Go.RowKit

def pktZ : PktN := ⟨0, 0, false, false, 0, 0, 0, 0, 0, [], []⟩
def pktsL (l : List PktN) : List AV := l.flatMap pktL
theorem pktsL_len (l : List PktN) : (pktsL l).length = l.length * 11 := by
  induction l with
  | nil => rfl
  | cons r l ih => simp only [pktsL, List.flatMap_cons, List.length_append] at ih ⊢; rw [ih]; simp; omega
theorem pkts_div (l : List PktN) : (pktsL l).length / 11 = l.length := by rw [pktsL_len]; omega
theorem pkts_drop : ∀ (l : List PktN) (k : Nat), (pktsL l).drop (k * 11) = pktsL (l.drop k)
  | l, 0 => by simp
  | [], k + 1 => by simp [pktsL]
  | r :: l, k + 1 => by
    rw [List.drop_succ_cons, ← pkts_drop l k, show (k + 1) * 11 = 11 + k * 11 by omega, ← List.drop_drop]
    congr 1
theorem pkts_take : ∀ (l : List PktN) (k : Nat), (pktsL l).take (k * 11) = pktsL (l.take k)
  | l, 0 => by simp [pktsL]
  | [], k + 1 => by simp [pktsL]
  | r :: l, k + 1 => by
    have := pkts_take l k
    rw [List.take_succ_cons, show (k + 1) * 11 = k * 11 + 11 by omega]
    simp only [pktsL] at this
    simp [pktsL, this]
theorem pkts_at (l : List PktN) (k : Nat) (h : k < l.length) : ((pktsL l).drop (k * 11)).take 11 = pktL (l.getD k pktZ) := by
  rw [pkts_drop, List.drop_eq_getElem_cons h, pktsL, List.flatMap_cons, show l.getD k pktZ = l[k] by simp [List.getD, h]]
  rfl
theorem pkts_snoc (l : List PktN) (r : PktN) : pktsL (l ++ [r]) = pktsL l ++ pktL r := by simp [pktsL]
theorem pkts_app (l m : List PktN) : pktsL (l ++ m) = pktsL l ++ pktsL m := by simp [pktsL]
theorem pkts_ok (l : List PktN) : (pktsL l).all okCell = true := by
  induction l with
  | nil => rfl
  | cons r l ih => simp only [pktsL, List.flatMap_cons, List.all_append] at ih ⊢; rw [ih]; rfl

theorem ASpec.conv {P : Program} {f : FuncId} {xs : List AV} {r r' : AV} (h : ASpec P f xs r) (hr : ∀ M w v, RepV M w r v → RepV M w r' v) : ASpec P f xs r' := by
  refine ⟨h.1, fun M w vs hM hvs => (h.2 M w vs hM hvs).mono ?_⟩
  rintro e w' ⟨v, he, h1, h2⟩
  exact ⟨v, he, hr _ _ _ h1, h2⟩
theorem RepV.bs_sl {M : Nat → Prop} {w : World} {v : Value} (k : Nat) (h : RepV M w (.bs []) v) : RepV M w (.sl k []) v := by
  rw [RepV.bs_iff] at h
  obtain ⟨p, len, cap, rfl, h1, h2, h3, h4, h5⟩ := h
  simp only [bytesV, List.map_nil, List.length_nil, Nat.mul_one] at h1
  subst h1
  simp only [RepV]
  exact ⟨[], ⟨p, 0, cap, rfl, by simp, h2, h3, h4, fun h => absurd h (by simp)⟩, RepL.nil⟩
def pktsV (l : List PktN) : AV := if l.length = 0 then .bs [] else .sl 11 (pktsL l)
theorem pktsV_rep {M : Nat → Prop} {w : World} {v : Value} (l : List PktN) (h : RepV M w (pktsV l) v) : RepV M w (.sl 11 (pktsL l)) v := by
  unfold pktsV at h
  split at h
  · rename_i h0
    rw [List.length_eq_zero_iff.1 h0]
    exact h.bs_sl 11
  · exact h
theorem le2 {E : AE} {L : Nat} {t0 t1 : Nat} {v0 v1 : TV} (h0 : lk E.t t0 = v0) (h1 : lk E.t t1 = v1) (p0 : PtOk L v0) (p1 : PtOk L v1) :
    ∀ p ∈ [(t0, v0), (t1, v1)], lk E.t p.1 = p.2 ∧ PtOk L p.2 := by
  intro p hp
  simp only [List.mem_cons, List.not_mem_nil, or_false] at hp
  rcases hp with rfl | rfl
  · exact ⟨h0, p0⟩
  · exact ⟨h1, p1⟩
theorem le3 {E : AE} {L : Nat} {t0 t1 t2 : Nat} {v0 v1 v2 : TV} (h0 : lk E.t t0 = v0) (h1 : lk E.t t1 = v1) (h2 : lk E.t t2 = v2) (p0 : PtOk L v0) (p1 : PtOk L v1) (p2 : PtOk L v2) :
    ∀ p ∈ [(t0, v0), (t1, v1), (t2, v2)], lk E.t p.1 = p.2 ∧ PtOk L p.2 := by
  intro p hp
  simp only [List.mem_cons, List.not_mem_nil, or_false] at hp
  rcases hp with rfl | rfl | rfl
  · exact ⟨h0, p0⟩
  · exact ⟨h1, p1⟩
  · exact ⟨h2, p2⟩
theorem le4 {E : AE} {L : Nat} {t0 t1 t2 t3 : Nat} {v0 v1 v2 v3 : TV} (h0 : lk E.t t0 = v0) (h1 : lk E.t t1 = v1) (h2 : lk E.t t2 = v2) (h3 : lk E.t t3 = v3) (p0 : PtOk L v0) (p1 : PtOk L v1) (p2 : PtOk L v2) (p3 : PtOk L v3) :
    ∀ p ∈ [(t0, v0), (t1, v1), (t2, v2), (t3, v3)], lk E.t p.1 = p.2 ∧ PtOk L p.2 := by
  intro p hp
  simp only [List.mem_cons, List.not_mem_nil, or_false] at hp
  rcases hp with rfl | rfl | rfl | rfl
  · exact ⟨h0, p0⟩
  · exact ⟨h1, p1⟩
  · exact ⟨h2, p2⟩
  · exact ⟨h3, p3⟩
theorem le5 {E : AE} {L : Nat} {t0 t1 t2 t3 t4 : Nat} {v0 v1 v2 v3 v4 : TV} (h0 : lk E.t t0 = v0) (h1 : lk E.t t1 = v1) (h2 : lk E.t t2 = v2) (h3 : lk E.t t3 = v3) (h4 : lk E.t t4 = v4) (p0 : PtOk L v0) (p1 : PtOk L v1) (p2 : PtOk L v2) (p3 : PtOk L v3) (p4 : PtOk L v4) :
    ∀ p ∈ [(t0, v0), (t1, v1), (t2, v2), (t3, v3), (t4, v4)], lk E.t p.1 = p.2 ∧ PtOk L p.2 := by
  intro p hp
  simp only [List.mem_cons, List.not_mem_nil, or_false] at hp
  rcases hp with rfl | rfl | rfl | rfl | rfl
  · exact ⟨h0, p0⟩
  · exact ⟨h1, p1⟩
  · exact ⟨h2, p2⟩
  · exact ⟨h3, p3⟩
  · exact ⟨h4, p4⟩
theorem le6 {E : AE} {L : Nat} {t0 t1 t2 t3 t4 t5 : Nat} {v0 v1 v2 v3 v4 v5 : TV} (h0 : lk E.t t0 = v0) (h1 : lk E.t t1 = v1) (h2 : lk E.t t2 = v2) (h3 : lk E.t t3 = v3) (h4 : lk E.t t4 = v4) (h5 : lk E.t t5 = v5) (p0 : PtOk L v0) (p1 : PtOk L v1) (p2 : PtOk L v2) (p3 : PtOk L v3) (p4 : PtOk L v4) (p5 : PtOk L v5) :
    ∀ p ∈ [(t0, v0), (t1, v1), (t2, v2), (t3, v3), (t4, v4), (t5, v5)], lk E.t p.1 = p.2 ∧ PtOk L p.2 := by
  intro p hp
  simp only [List.mem_cons, List.not_mem_nil, or_false] at hp
  rcases hp with rfl | rfl | rfl | rfl | rfl | rfl
  · exact ⟨h0, p0⟩
  · exact ⟨h1, p1⟩
  · exact ⟨h2, p2⟩
  · exact ⟨h3, p3⟩
  · exact ⟨h4, p4⟩
  · exact ⟨h5, p5⟩
theorem le7 {E : AE} {L : Nat} {t0 t1 t2 t3 t4 t5 t6 : Nat} {v0 v1 v2 v3 v4 v5 v6 : TV} (h0 : lk E.t t0 = v0) (h1 : lk E.t t1 = v1) (h2 : lk E.t t2 = v2) (h3 : lk E.t t3 = v3) (h4 : lk E.t t4 = v4) (h5 : lk E.t t5 = v5) (h6 : lk E.t t6 = v6) (p0 : PtOk L v0) (p1 : PtOk L v1) (p2 : PtOk L v2) (p3 : PtOk L v3) (p4 : PtOk L v4) (p5 : PtOk L v5) (p6 : PtOk L v6) :
    ∀ p ∈ [(t0, v0), (t1, v1), (t2, v2), (t3, v3), (t4, v4), (t5, v5), (t6, v6)], lk E.t p.1 = p.2 ∧ PtOk L p.2 := by
  intro p hp
  simp only [List.mem_cons, List.not_mem_nil, or_false] at hp
  rcases hp with rfl | rfl | rfl | rfl | rfl | rfl | rfl
  · exact ⟨h0, p0⟩
  · exact ⟨h1, p1⟩
  · exact ⟨h2, p2⟩
  · exact ⟨h3, p3⟩
  · exact ⟨h4, p4⟩
  · exact ⟨h5, p5⟩
  · exact ⟨h6, p6⟩
theorem le8 {E : AE} {L : Nat} {t0 t1 t2 t3 t4 t5 t6 t7 : Nat} {v0 v1 v2 v3 v4 v5 v6 v7 : TV} (h0 : lk E.t t0 = v0) (h1 : lk E.t t1 = v1) (h2 : lk E.t t2 = v2) (h3 : lk E.t t3 = v3) (h4 : lk E.t t4 = v4) (h5 : lk E.t t5 = v5) (h6 : lk E.t t6 = v6) (h7 : lk E.t t7 = v7) (p0 : PtOk L v0) (p1 : PtOk L v1) (p2 : PtOk L v2) (p3 : PtOk L v3) (p4 : PtOk L v4) (p5 : PtOk L v5) (p6 : PtOk L v6) (p7 : PtOk L v7) :
    ∀ p ∈ [(t0, v0), (t1, v1), (t2, v2), (t3, v3), (t4, v4), (t5, v5), (t6, v6), (t7, v7)], lk E.t p.1 = p.2 ∧ PtOk L p.2 := by
  intro p hp
  simp only [List.mem_cons, List.not_mem_nil, or_false] at hp
  rcases hp with rfl | rfl | rfl | rfl | rfl | rfl | rfl | rfl
  · exact ⟨h0, p0⟩
  · exact ⟨h1, p1⟩
  · exact ⟨h2, p2⟩
  · exact ⟨h3, p3⟩
  · exact ⟨h4, p4⟩
  · exact ⟨h5, p5⟩
  · exact ⟨h6, p6⟩
  · exact ⟨h7, p7⟩
theorem le9 {E : AE} {L : Nat} {t0 t1 t2 t3 t4 t5 t6 t7 t8 : Nat} {v0 v1 v2 v3 v4 v5 v6 v7 v8 : TV} (h0 : lk E.t t0 = v0) (h1 : lk E.t t1 = v1) (h2 : lk E.t t2 = v2) (h3 : lk E.t t3 = v3) (h4 : lk E.t t4 = v4) (h5 : lk E.t t5 = v5) (h6 : lk E.t t6 = v6) (h7 : lk E.t t7 = v7) (h8 : lk E.t t8 = v8) (p0 : PtOk L v0) (p1 : PtOk L v1) (p2 : PtOk L v2) (p3 : PtOk L v3) (p4 : PtOk L v4) (p5 : PtOk L v5) (p6 : PtOk L v6) (p7 : PtOk L v7) (p8 : PtOk L v8) :
    ∀ p ∈ [(t0, v0), (t1, v1), (t2, v2), (t3, v3), (t4, v4), (t5, v5), (t6, v6), (t7, v7), (t8, v8)], lk E.t p.1 = p.2 ∧ PtOk L p.2 := by
  intro p hp
  simp only [List.mem_cons, List.not_mem_nil, or_false] at hp
  rcases hp with rfl | rfl | rfl | rfl | rfl | rfl | rfl | rfl | rfl
  · exact ⟨h0, p0⟩
  · exact ⟨h1, p1⟩
  · exact ⟨h2, p2⟩
  · exact ⟨h3, p3⟩
  · exact ⟨h4, p4⟩
  · exact ⟨h5, p5⟩
  · exact ⟨h6, p6⟩
  · exact ⟨h7, p7⟩
  · exact ⟨h8, p8⟩
theorem join1_a (l : List UInt8) (h : l.length ≤ 100000000) : ASpec Try.prog 53 [.sl 1 [.bs l]] (.bs l) := by
  have := join_a [l] (by simp only [small]; simp; omega)
  simpa using this
set_option maxRecDepth 100000 in
theorem fgOwn_a (p : PktN) (ho : p.opts.length ≤ 100000) (hd : p.data.length ≤ 1000000) : ASpec Try.prog 75 [pktA p] (pktA p) := by
  refine ASpec.of_body TT_ok Try.mixed _ [.cell 2 87] ([], []) Try.func75 (by kernel_rfl) rfl rfl (by simp only [Try.ntmps75, List.length_cons, List.length_nil]; omega) rfl (by kernel_rfl) ?_
  simp only [argE_cons, argE_nil, ac_seq, ac_region, at_normal, ao_nil, ao_cons, as_call, as_box, as_alloc, as_load, as_fieldAddr, as_buildSlice, pktL, pktA, u8A, u16A, u32A, boA, fr_false, List.contains_nil, Nat.reduceBEq, beq_self_eq_true, hk_some, hopG, rd, aopsD, heapF, frzW, tlN, evT, lk, putT, loadF, cellsF, ovw, fillF, makeSF, partsF, argsF, TK.isAgg, List.length_cons, List.length_nil, List.getElem?_cons_zero, List.getElem?_cons_succ, List.drop_zero, List.drop_succ_cons, List.set_cons_zero, List.nil_append, List.cons_append, List.replicate_succ, List.replicate_zero, List.flatten_cons, List.flatten_nil, List.append_nil, Option.map_some, Nat.reduceAdd, Nat.reduceSub, Nat.reduceEqDiff, Nat.reduceLeDiff, Nat.succ_ne_zero, ne_eq, not_false_eq_true, true_and, and_self, eq_self, Bool.false_eq_true, ↓reduceIte, Nat.mul_one, Nat.zero_add, Nat.zero_lt_succ, Nat.le_refl, TT38, TT87, TT143]
  repeat' (first
    | refine ACall.intro (join1_a p.opts (by omega)) ?_
    | refine ACall.intro (join1_a p.data (by omega)) ?_
    | (simp only [ac_ret, ac_seq, ac_region, at_normal, ae_ret, ao_nil, ao_cons, as_call, as_store, as_load, as_fieldAddr, as_buildSlice, fr_false, fr_nil, fr_cons, List.contains_nil, Nat.reduceBEq, beq_self_eq_true, Bool.and_self, hk_some, hopG, rd, aopsD, heapF, frzW, frzR, evT, lk, putT, loadF, cellsF, ovw, fillF, makeSF, partsF, argsF, okCell, resF, resL, TK.isAgg, Value.oneCell', List.length_cons, List.length_nil, List.getElem?_cons_zero, List.getElem?_cons_succ, List.drop_zero, List.drop_succ_cons, List.take_succ_cons, List.take_nil, List.set_cons_zero, List.set_cons_succ, List.replicate_succ, List.replicate_zero, List.flatten_cons, List.flatten_nil, List.append_nil, List.all_cons, List.all_nil, Option.map_some, Option.bind_some, Nat.reduceAdd, Nat.reduceSub, Nat.reduceEqDiff, Nat.reduceLeDiff, Nat.succ_ne_zero, ne_eq, not_false_eq_true, true_and, and_true, and_self, eq_self, Bool.false_eq_true, ↓reduceIte, Nat.mul_one, Nat.zero_add, Nat.zero_lt_succ, Nat.le_refl, TT38, TT87, TT143]))
set_option maxRecDepth 100000 in
theorem fgFrom_a (p : PktN) (hp : 0 ≤ p.off ∧ p.off ≤ 65535) : ASpec Try.prog 96 [pktA p] (i64 (p.off * 8)) := by
  refine ASpec.of_body TT_ok Try.mixed _ [.tmp 2] ([], []) Try.func96 (by kernel_rfl) rfl rfl (by simp only [Try.ntmps96, List.length_cons, List.length_nil]; omega) rfl (by kernel_rfl) ?_
  simp only [i64_in (n := p.off) (by omega) (by omega), i64_in (n := p.off * 8) (by omega) (by omega), argE_cons, argE_nil, ac_ret, ac_seq, ac_region, at_normal, ae_ret, ao_nil, ao_cons, as_box, as_assign, as_binOp, as_convert, as_load, as_fieldAddr, pktL, pktA, u8A, u16A, u32A, i64, boA, fr_false, List.contains_nil, beq_self_eq_true, hk_some, hopG, rd, aopsD, heapF, constT, evT, lk, putT, binF, convF, loadF, cellsF, resF, resL, constA, cellA, TK.isAgg, List.length_nil, List.getElem?_cons_zero, List.getElem?_cons_succ, List.drop_zero, List.drop_succ_cons, List.nil_append, Option.map_some, Option.bind_some, Nat.reduceSub, Nat.reduceEqDiff, Nat.reduceLeDiff, Nat.succ_ne_zero, ne_eq, not_false_eq_true, and_true, and_self, eq_self, Bool.false_eq_true, ↓reduceIte, Nat.zero_add, TT3, TT23, TT87]
set_option maxRecDepth 100000 in
theorem fgTo_a (p : PktN) (hp : 0 ≤ p.off ∧ p.off ≤ 65535) (hd : p.data.length ≤ 1000000) : ASpec Try.prog 95 [pktA p] (i64 (p.off * 8 + p.data.length)) := by
  refine ASpec.of_body TT_ok Try.mixed _ [.tmp 2] ([], []) Try.func95 (by kernel_rfl) rfl rfl (by simp only [Try.ntmps95, List.length_cons, List.length_nil]; omega) rfl (by kernel_rfl) ?_
  simp only [argE_cons, argE_nil, ac_seq, ac_region, at_normal, ao_nil, ao_cons, as_call, as_box, as_assign, as_load, pktL, pktA, u8A, u16A, u32A, i64, boA, fr_false, List.contains_nil, Nat.reduceBEq, beq_self_eq_true, hk_some, hopG, rd, aopsD, heapF, frzW, tlN, constT, evT, lk, putT, loadF, cellsF, argsF, constA, cellA, TK.isAgg, List.length_cons, List.length_nil, List.getElem?_cons_zero, List.drop_zero, List.take_succ_cons, List.take_nil, List.nil_append, Option.map_some, Nat.reduceAdd, Nat.reduceSub, Nat.reduceEqDiff, Nat.reduceLeDiff, true_and, eq_self, Bool.false_eq_true, ↓reduceIte, Nat.zero_add, Nat.le_refl, TT87]
  refine ACall.intro (fgFrom_a p hp) ?_
  simp only [i64_in (n := p.off * 8 + (p.data.length : Int)) (by omega) (by omega), ac_ret, at_normal, ae_ret, ao_nil, ao_cons, as_assign, as_binOp, as_load, as_fieldAddr, as_len, i64, Nat.reduceBEq, hk_some, hopG, hopF, rd, evT, lk, putT, lenF, binF, loadF, resF, resL, TK.isAgg, List.getElem?_cons_zero, List.getElem?_cons_succ, List.drop_zero, List.drop_succ_cons, Option.map_some, Option.bind_some, Nat.reduceSub, Nat.reduceEqDiff, Nat.succ_ne_zero, ne_eq, not_false_eq_true, and_true, and_self, eq_self, Bool.false_eq_true, ↓reduceIte, Nat.zero_add, TT3, TT38, TT87]
def likeB (p q : PktN) : Bool := decide (p.id = q.id) && (decide (p.src = q.src) && (decide (p.dst = q.dst) && decide (p.proto = q.proto)))
set_option maxRecDepth 100000 in
theorem fgLike_a (p q : PktN) : ASpec Try.prog 67 [pktA p, pktA q] (boA (likeB p q)) := by
  refine ASpec.of_body TT_ok Try.mixed _ [.tmp 4] ([], []) Try.func67 (by kernel_rfl) rfl rfl (by simp only [Try.ntmps67, List.length_cons, List.length_nil]; omega) rfl (by kernel_rfl) ?_
  simp only [argE_cons, argE_nil, ac_seq, ac_region, at_normal, ao_nil, ao_cons, ao_guard_t, as_box, as_move, as_assign, as_binOp, as_load, as_fieldAddr, pktL, pktA, u8A, u16A, u32A, boA, fr_false, List.contains_nil, beq_self_eq_true, hk_some, hopG, rd, aopsD, heapF, constT, evT, lk, putT, GV, gdst, binF, loadF, cellsF, constA, cellA, TK.isAgg, List.length_cons, List.length_nil, List.getElem?_cons_zero, List.getElem?_cons_succ, List.drop_zero, List.drop_succ_cons, List.nil_append, List.cons_append, Option.map_some, Nat.reduceAdd, Nat.reduceSub, Nat.reduceEqDiff, Nat.reduceLeDiff, Nat.succ_ne_zero, ne_eq, not_false_eq_true, true_and, eq_self, reduceCtorEq, Bool.false_eq_true, ↓reduceIte, Nat.zero_add, TT23, TT87]
  unfold likeB
  cases c1 : decide (p.id = q.id) <;> simp only [ac_ret, at_normal, ae_ret, ao_nil, ao_cons, ao_guard_t, st_at, sk_at, pk_at, if_t, if_f, as_pick, as_move, as_assign, as_binOp, as_load, as_fieldAddr, beq_self_eq_true, Bool.true_and, Bool.false_and, hk_some, hopG, rd, constT, evT, lk, putT, GV, gdst, binF, loadF, resF, resL, constA, cellA, TK.isAgg, List.getElem?_cons_zero, List.getElem?_cons_succ, List.drop_zero, List.drop_succ_cons, Option.map_some, Option.bind_some, Nat.reduceSub, Nat.reduceEqDiff, Nat.succ_ne_zero, ne_eq, not_false_eq_true, true_and, and_true, and_self, eq_self, Bool.false_eq_true, ↓reduceIte, Nat.zero_add, TT22, TT87] <;> try rfl
  cases c2 : decide (p.src = q.src) <;> simp only [ac_ret, at_normal, ae_ret, ao_nil, ao_cons, ao_guard_t, st_at, sk_at, pk_at, if_t, if_f, as_pick, as_move, as_assign, as_binOp, as_load, as_fieldAddr, beq_self_eq_true, Bool.true_and, Bool.false_and, hk_some, hopG, rd, constT, evT, lk, putT, GV, gdst, binF, loadF, resF, resL, constA, cellA, TK.isAgg, List.getElem?_cons_zero, List.getElem?_cons_succ, List.drop_zero, List.drop_succ_cons, Option.map_some, Option.bind_some, Nat.reduceSub, Nat.reduceEqDiff, Nat.succ_ne_zero, ne_eq, not_false_eq_true, true_and, and_true, and_self, eq_self, Bool.false_eq_true, ↓reduceIte, Nat.zero_add, TT22, TT87] <;> try rfl
  cases c3 : decide (p.dst = q.dst) <;> simp only [ac_ret, at_normal, ae_ret, ao_nil, ao_cons, ao_guard_t, st_at, sk_at, pk_at, if_t, if_f, as_pick, as_assign, as_binOp, as_load, as_fieldAddr, beq_self_eq_true, Bool.true_and, Bool.false_and, hk_some, hopG, rd, constT, evT, lk, putT, GV, gdst, binF, loadF, resF, resL, constA, cellA, TK.isAgg, List.getElem?_cons_zero, List.getElem?_cons_succ, List.drop_zero, List.drop_succ_cons, Option.map_some, Option.bind_some, Nat.reduceSub, Nat.reduceEqDiff, Nat.succ_ne_zero, ne_eq, not_false_eq_true, and_true, and_self, eq_self, Bool.false_eq_true, ↓reduceIte, Nat.zero_add, TT5, TT87] <;> try rfl
end Go.Proofs.Ythjojkkapboonaa
