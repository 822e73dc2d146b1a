/- ipv4.Turn; the reference of ipv4. -/
import Derived.Test.YtafajmnlknmfiaaVB
namespace Go.Proofs.Ytafajmnlknmfiaa
set_option linter.unusedSimpArgs false
set_option linter.unusedVariables false
open Go.RowKit

def nextT (b : List UInt8) (ttl : Int) : Int := ttl * 256 + get16 b 8 % 256
def ipT (b : List UInt8) (ttl : Int) : List UInt8 := set16 (set16 b 8 (nextT b ttl)) 10 (turnF (get16 b 10) (get16 b 8) (nextT b ttl))
theorem bits_255 {x : Int} (h : 0 ≤ x ∧ x ≤ 65535) : bits .and .u16 x 255 = x % 256 :=
  bits_mask .u16 16 (by decide) (fun n g1 g2 => u16_in g1 (by omega)) 8 (by decide) x h.1 (by omega)
theorem or_8 {a b : Int} (ha : 0 ≤ a ∧ a ≤ 255) (hb : 0 ≤ b ∧ b ≤ 255) : bits .or .u16 (a * 256) b = a * 256 + b :=
  bits_join .u16 16 (by decide) (fun n g1 g2 => u16_in g1 (by omega)) 8 (a * 256) b (by omega) (by omega) (by omega) (by omega) (by omega) (by omega)
theorem length_set16 (l : List UInt8) (k : Int) (n : Int) (h : thereB l.length k 2 = true) : (set16 l k n).length = l.length := by
  rw [set16, if_pos h]; simp
set_option maxRecDepth 100000 in
theorem ipTurn_no (b : List UInt8) (ttl : Int) (hl : b.length ≤ 1000000) (he : ¬ (ipHd b).2.2 = 0) : ASpec Try.prog 99 [.bs b, u8A ttl] (.tup [.bs [], boA false]) := by
  refine ASpec.of_body TT_ok Try.mixed _ [.tmp 4, .tmp 5] ([], []) Try.func99 (by kernel_rfl) rfl rfl (by simp only [Try.ntmps99, List.length_cons, List.length_nil]; omega) rfl (by kernel_rfl) ?_
  simp only [argE_cons, argE_nil, ac_seq, ac_region, at_normal, ao_nil, ao_cons, as_call, as_move, as_assign, u8A, boA, fr_false, List.contains_nil, beq_self_eq_true, rd, aopsD, frzW, frzR, constT, evT, lk, putT, argsF, constA, cellA, Option.map_some, Nat.reduceAdd, Nat.reduceSub, Nat.reduceLeDiff, Nat.succ_ne_zero, eq_self, Bool.false_eq_true, ↓reduceIte, Nat.zero_add]
  refine ACall.intro (ipHeads_a b hl) ?_
  simp only [decide_eq_false he, ac_ret, ac_seq, ac_cond, ac_region, at_normal, at_ret, ae_ret, ao_nil, ao_cons, if_t, as_move, as_assign, as_binOp, as_extract, i64, fr_false, List.contains_nil, beq_self_eq_true, hk_some, hopG, rd, aopsD, constT, evT, lk, putT, binF, resF, resL, constA, cellA, List.getElem?_cons_zero, List.getElem?_cons_succ, Option.map_some, Option.bind_some, Nat.reduceSub, Nat.reduceEqDiff, Nat.reduceLeDiff, and_true, and_self, eq_self, Bool.false_eq_true, Bool.not_false, ↓reduceIte, TT61]
  try rfl
set_option maxRecDepth 100000 in
theorem ipTurn_a (b : List UInt8) (ttl : Int) (hl : b.length ≤ 1000000) (ht : 0 ≤ ttl ∧ ttl ≤ 255) (he : (ipHd b).2.2 = 0) : ASpec Try.prog 99 [.bs b, u8A ttl] (.tup [.bs (ipT (b.take (get16 b 2).toNat) ttl), boA true]) := by
  have hsm : small b := by simp only [small]; omega
  rcases ipHd_cases b with hc | ⟨h0, h1, h2, h3, h4, h5, h6, h7, h8, h9, h10⟩
  · omega
  have n2 := get16_bd b 2
  have hcut : cutB b 0 (get16 b 2) = b.take (get16 b 2).toNat := by
    obtain ⟨k, hk⟩ := Int.eq_ofNat_of_zero_le n2.1
    rw [hk]
    exact cutB_take b (by omega)
  refine ASpec.of_body TT_ok Try.mixed _ [.tmp 4, .tmp 5] ([], []) Try.func99 (by kernel_rfl) rfl rfl (by simp only [Try.ntmps99, List.length_cons, List.length_nil]; omega) rfl (by kernel_rfl) ?_
  simp only [argE_cons, argE_nil, ac_seq, ac_region, at_normal, ao_nil, ao_cons, as_call, as_move, as_assign, u8A, boA, fr_false, List.contains_nil, beq_self_eq_true, rd, aopsD, frzW, frzR, constT, evT, lk, putT, argsF, constA, cellA, Option.map_some, Nat.reduceAdd, Nat.reduceSub, Nat.reduceLeDiff, Nat.succ_ne_zero, eq_self, Bool.false_eq_true, ↓reduceIte, Nat.zero_add]
  refine ACall.intro (ipHeads_a b hl) ?_
  simp only [h0, h5, ac_skip, ac_seq, ac_cond, ac_region, at_normal, ao_nil, ao_cons, if_f, as_call, as_move, as_assign, as_binOp, as_extract, i64, fr_false, List.contains_nil, beq_self_eq_true, decide_true, hk_some, hopG, rd, aopsD, frzW, frzR, constT, evT, lk, putT, binF, argsF, constA, cellA, List.getElem?_cons_zero, List.getElem?_cons_succ, Option.map_some, Nat.reduceSub, Nat.reduceEqDiff, Nat.reduceLeDiff, Nat.succ_ne_zero, true_and, eq_self, Bool.false_eq_true, Bool.not_true, ↓reduceIte, TT61]
  refine ACall.intro (cut_a b 0 _ (by omega) hsm) ?_
  rw [hcut]
  have hlen : (b.take (get16 b 2).toNat).length = (get16 b 2).toNat := by simp; omega
  generalize b.take (get16 b 2).toNat = c at *
  simp only [ac_seq, ac_region, at_normal, ao_nil, ao_cons, as_call, as_move, as_assign, as_extract, boA, fr_false, List.contains_nil, beq_self_eq_true, hk_some, hopG, rd, aopsD, frzW, frzR, constT, evT, lk, putT, argsF, constA, cellA, List.getElem?_cons_zero, List.getElem?_cons_succ, Option.map_some, Nat.reduceSub, Nat.reduceEqDiff, Nat.reduceLeDiff, true_and, eq_self, Bool.false_eq_true, ↓reduceIte]
  have m8 := get16_bd c 8
  have m10 := get16_bd c 10
  have t8 : thereB c.length 8 2 = true := thereB_iff.2 (by omega)
  have t10 : thereB c.length 10 2 = true := thereB_iff.2 (by omega)
  have hnx : 0 ≤ nextT c ttl ∧ nextT c ttl ≤ 65535 := by unfold nextT; omega
  refine ACall.intro (get16_a c 8 (by omega)) ?_
  simp only [ac_seq, ac_region, at_normal, ao_nil, ao_cons, as_call, as_move, as_assign, as_extract, u16A, boA, fr_false, List.contains_nil, beq_self_eq_true, hk_some, hopG, rd, aopsD, frzW, frzR, constT, evT, lk, putT, argsF, constA, cellA, List.getElem?_cons_zero, List.getElem?_cons_succ, Option.map_some, Nat.reduceSub, Nat.reduceEqDiff, Nat.reduceLeDiff, true_and, eq_self, Bool.false_eq_true, ↓reduceIte]
  refine ACall.intro (get16_a c 10 (by omega)) ?_
  simp only [u16_in (n := ttl) (by omega) (by omega), u16_in (n := ttl * 256) (by omega) (by omega), bits_255 m8, or_8 (a := ttl) (b := get16 c 8 % 256) ht (by omega), ac_seq, ac_region, at_normal, ao_nil, ao_cons, as_call, as_move, as_assign, as_binOp, as_convert, as_extract, u16A, boA, fr_false, List.contains_nil, beq_self_eq_true, Int.cast_ofNat_Int, Int.reducePow, hk_some, hopG, rd, aopsD, frzW, frzR, constT, evT, lk, putT, binF, convF, argsF, constA, cellA, IntKind.bits, List.getElem?_cons_zero, List.getElem?_cons_succ, Option.map_some, Nat.reduceSub, Nat.reduceEqDiff, Nat.reduceLeDiff, true_and, and_self, eq_self, reduceCtorEq, Bool.false_eq_true, ↓reduceIte, Int.reduceToNat, Int.reduceLE, TT5, TT23]
  have en : ttl * 256 + get16 c 8 % 256 = nextT c ttl := rfl
  rw [en]
  refine ACall.intro (set16_a c 8 _ (by omega) (by simp only [small]; omega) hnx) ?_
  simp only [ac_seq, ac_region, at_normal, ao_nil, ao_cons, as_call, as_move, as_assign, as_extract, boA, fr_false, List.contains_nil, beq_self_eq_true, hk_some, hopG, rd, aopsD, frzW, frzR, evT, lk, putT, argsF, List.getElem?_cons_zero, List.getElem?_cons_succ, Option.map_some, Nat.reduceSub, Nat.reduceEqDiff, Nat.reduceLeDiff, true_and, eq_self, Bool.false_eq_true, ↓reduceIte]
  refine ACall.intro (turn_a _ _ _ m10 m8 hnx) ?_
  simp only [ao_cons, as_call, u16A, beq_self_eq_true, rd, frzW, frzR, constT, evT, lk, putT, argsF, constA, cellA, Option.map_some, Nat.reduceSub, Nat.reduceEqDiff, eq_self, ↓reduceIte]
  have htf : 0 ≤ turnF (get16 c 10) (get16 c 8) (nextT c ttl) ∧ turnF (get16 c 10) (get16 c 8) (nextT c ttl) ≤ 65535 := turnF_bd _ _ _
  have hl2 : (set16 c 8 (nextT c ttl)).length = c.length := length_set16 _ _ _ t8
  refine ACall.intro (set16_a (set16 c 8 (nextT c ttl)) 10 _ (by omega) (by simp only [small]; omega) htf) ?_
  simp only [ac_ret, at_normal, ae_ret, ao_nil, ao_cons, as_assign, as_extract, boA, beq_self_eq_true, hk_some, hopG, rd, evT, lk, putT, resF, resL, List.getElem?_cons_zero, List.getElem?_cons_succ, Option.map_some, Option.bind_some, Nat.reduceSub, Nat.reduceEqDiff, true_and, and_true, eq_self, ↓reduceIte]
  rw [hl2, t10]
  rfl
set_option maxRecDepth 100000 in
theorem refMay06_a (p : PktN) (hp : p.ok) (ho : p.opts.length ≤ 100000) (hd : p.data.length ≤ 1000000) : ASpec Try.prog 140 [pktA p] (boA (pktMay p)) := by
  have e1 : ((p.opts.length : Int)).tmod 4 = ((p.opts.length % 4 : Nat) : Int) := by rw [tmodN (by omega)]; omega
  have e2 : IntKind.i64.wrap (65515 - (p.opts.length : Int)) = 65515 - (p.opts.length : Int) := i64_in (by omega) (by omega)
  refine ASpec.of_body TT_ok Try.mixed _ [.tmp 2] ([], []) Try.func140 (by kernel_rfl) rfl rfl (by simp only [Try.ntmps140, List.length_cons, List.length_nil]; omega) rfl (by kernel_rfl) ?_
  simp only [argE_cons, argE_nil, ac_seq, ac_region, at_normal, ao_nil, ao_cons, ao_guard_t, as_box, as_move, as_assign, as_binOp, as_load, as_fieldAddr, as_len, pktL, pktA, u8A, u16A, u32A, boA, fr_false, List.contains_nil, beq_self_eq_true, hk_some, hopG, hopF, rd, aopsD, heapF, constT, evT, lk, putT, GV, gdst, lenF, binF, loadF, cellsF, constA, cellA, TK.isAgg, List.length_nil, List.getElem?_cons_zero, List.getElem?_cons_succ, List.drop_zero, List.drop_succ_cons, List.nil_append, Option.map_some, Nat.reduceSub, Nat.reduceEqDiff, Nat.reduceLeDiff, Nat.succ_ne_zero, ne_eq, not_false_eq_true, true_and, eq_self, Bool.false_eq_true, ↓reduceIte, Nat.zero_add, TT3, TT38, TT92]
  cases c1 : decide ((p.opts.length : Int) ≤ 40)
  · rw [dF] at c1
    simp only [ac_ret, at_normal, ae_ret, ao_nil, ao_cons, ao_guard_t, sk_at, pk_at, if_f, as_pick, as_move, as_assign, beq_self_eq_true, rd, constT, evT, lk, putT, GV, gdst, resF, resL, constA, cellA, Option.map_some, Option.bind_some, Nat.reduceSub, Nat.reduceEqDiff, true_and, and_true, eq_self, ↓reduceIte]
    rw [show pktMay p = false by simp [pktMay]; omega]
    try rfl
  · rw [dT] at c1
    simp only [e1, ao_cons, ao_guard_t, st_at, pk_at, if_t, as_pick, as_move, as_binOp, as_load, as_fieldAddr, as_len, beq_self_eq_true, Int.reduceEq, hk_some, hopG, hopF, rd, constT, evT, lk, putT, GV, gdst, lenF, binF, loadF, constA, cellA, TK.isAgg, List.getElem?_cons_zero, List.getElem?_cons_succ, List.drop_zero, List.drop_succ_cons, Option.map_some, Nat.reduceSub, Nat.reduceEqDiff, Nat.succ_ne_zero, ne_eq, not_false_eq_true, true_and, and_self, eq_self, Bool.false_eq_true, ↓reduceIte, Nat.zero_add, TT3, TT38, TT92]
    cases c2 : decide (((p.opts.length % 4 : Nat) : Int) = 0)
    · rw [dF] at c2
      simp only [ac_ret, at_normal, ae_ret, ao_nil, ao_cons, ao_guard_t, sk_at, pk_at, if_f, as_pick, as_move, as_assign, beq_self_eq_true, rd, constT, evT, lk, putT, GV, gdst, resF, resL, constA, cellA, Option.map_some, Option.bind_some, Nat.reduceSub, Nat.reduceEqDiff, true_and, and_true, eq_self, ↓reduceIte]
      rw [show pktMay p = false by simp [pktMay]; omega]
      try rfl
    · rw [dT] at c2
      simp only [ao_cons, ao_guard_t, st_at, pk_at, if_t, as_pick, as_move, as_binOp, as_load, as_fieldAddr, beq_self_eq_true, hk_some, hopG, rd, constT, evT, lk, putT, GV, gdst, binF, loadF, constA, cellA, TK.isAgg, List.getElem?_cons_zero, List.getElem?_cons_succ, List.drop_zero, List.drop_succ_cons, Option.map_some, Nat.reduceSub, Nat.reduceEqDiff, Nat.succ_ne_zero, ne_eq, not_false_eq_true, true_and, eq_self, Bool.false_eq_true, ↓reduceIte, Nat.zero_add, TT23, TT92]
      cases c3 : decide (p.off < 8192)
      · rw [dF] at c3
        simp only [ac_ret, at_normal, ae_ret, ao_nil, ao_cons, ao_guard_t, sk_at, pk_at, if_f, as_pick, as_assign, beq_self_eq_true, rd, constT, evT, lk, putT, GV, gdst, resF, resL, constA, cellA, Option.map_some, Option.bind_some, Nat.reduceSub, Nat.reduceEqDiff, true_and, and_true, eq_self, ↓reduceIte]
        rw [show pktMay p = false by simp [pktMay]; omega]
        try rfl
      · rw [dT] at c3
        simp only [e2, ac_ret, at_normal, ae_ret, ao_nil, ao_cons, ao_guard_t, st_at, pk_at, if_t, as_pick, as_assign, as_binOp, as_load, as_fieldAddr, as_len, beq_self_eq_true, hk_some, hopG, hopF, rd, constT, evT, lk, putT, GV, gdst, lenF, binF, loadF, resF, resL, constA, cellA, TK.isAgg, List.getElem?_cons_zero, List.getElem?_cons_succ, List.drop_zero, List.drop_succ_cons, Option.map_some, Option.bind_some, Nat.reduceSub, Nat.reduceEqDiff, Nat.succ_ne_zero, ne_eq, not_false_eq_true, true_and, and_true, eq_self, Bool.false_eq_true, ↓reduceIte, Nat.zero_add, TT3, TT38, TT92]
        congr 3
        rw [Bool.eq_iff_iff]
        simp [pktMay]
        omega
set_option maxRecDepth 100000 in
theorem refHead06_a (p : PktN) (x : Int) (hp : p.ok) (hm : pktMay p = true) (hx : 0 ≤ x ∧ x ≤ 65535) : ASpec Try.prog 159 [pktA p, i64 x] (.bs (ipHeadB p x)) := by
  obtain ⟨k1, k2, k3, k4, k5, k6, k7⟩ := hp
  have hm' := hm
  simp only [pktMay, Bool.and_eq_true, decide_eq_true_eq] at hm'
  obtain ⟨m1, m2, m3, m4⟩ := hm'
  obtain ⟨q, hq⟩ : ∃ q : Nat, q = 5 + p.opts.length / 4 := ⟨_, rfl⟩
  obtain ⟨al, hal⟩ : ∃ al : Nat, al = 20 + p.opts.length + p.data.length := ⟨_, rfl⟩
  have a0 : IntKind.i64.wrap (20 + (p.opts.length : Int)) = 20 + (p.opts.length : Int) := i64_in (by omega) (by omega)
  have a1 : (20 + (p.opts.length : Int)).tdiv 4 = (q : Int) := by rw [tdivN (by omega)]; omega
  have a2 : IntKind.i64.wrap (q : Int) = (q : Int) := i64_in (by omega) (by omega)
  have a3 : IntKind.i64.wrap (64 + (q : Int)) = 64 + (q : Int) := i64_in (by omega) (by omega)
  have a5 : IntKind.i64.wrap (20 + (p.opts.length : Int) + (p.data.length : Int)) = (al : Int) := by rw [i64_in (by omega) (by omega)]; omega
  have a6 : (p.off + (if p.df then 16384 else 0) + (if p.mf then 8192 else 0)) = wordP p := rfl
  have hw : 0 ≤ wordP p ∧ wordP p ≤ 65535 := by unfold wordP; split <;> split <;> omega
  have w0 : IntKind.i64.wrap p.off = p.off := i64_in (by omega) (by omega)
  have w1 : IntKind.i64.wrap (p.off + 16384) = p.off + 16384 := i64_in (by omega) (by omega)
  have w2 : IntKind.i64.wrap (p.off + 8192) = p.off + 8192 := i64_in (by omega) (by omega)
  have w3 : IntKind.i64.wrap (p.off + 16384 + 8192) = p.off + 16384 + 8192 := i64_in (by omega) (by omega)
  have hB : ipHeadB p x = [u8 (64 + (q : Int)), u8 p.tos, u8 ((al : Int) / 256), u8 (al : Int), u8 (p.id / 256), u8 p.id, u8 (wordP p / 256), u8 (wordP p), u8 p.ttl, u8 p.proto, u8 (x / 256), u8 x] ++ (put32 [p.src] ++ put32 [p.dst]) ++ p.opts := by
    rw [ipHeadB, ← hq, ← hal]
    simp [put16, put32]
  have key : ∀ wd : Int, wd = wordP p → 0 ≤ wd ∧ wd ≤ 65535 := fun wd h => by rw [h]; exact hw
  rw [hB]
  refine ASpec.of_body TT_ok Try.mixed _ [.tmp 4] ([], []) Try.func159 (by kernel_rfl) rfl rfl (by simp only [Try.ntmps159, List.length_cons, List.length_nil]; omega) rfl (by kernel_rfl) ?_
  simp only [argE_cons, argE_nil, ac_seq, ac_cond, ac_region, at_normal, ao_nil, ao_cons, as_box, as_assign, as_binOp, as_convert, as_load, as_fieldAddr, as_len, pktL, pktA, u8A, u16A, u32A, i64, boA, fr_false, List.contains_nil, beq_self_eq_true, hk_some, hopG, hopF, rd, aopsD, heapF, constT, evT, lk, putT, lenF, binF, convF, loadF, cellsF, constA, cellA, TK.isAgg, List.length_nil, List.getElem?_cons_zero, List.getElem?_cons_succ, List.drop_zero, List.drop_succ_cons, List.nil_append, List.cons_append, Option.map_some, Nat.reduceAdd, Nat.reduceSub, Nat.reduceEqDiff, Nat.reduceLeDiff, Nat.succ_ne_zero, ne_eq, not_false_eq_true, true_and, eq_self, Bool.false_eq_true, ↓reduceIte, Nat.zero_add, TT3, TT4, TT23, TT38, TT92]
  cases hdf : p.df <;> cases hmf : p.mf
  · have hwd : wordP p = p.off := by simp [wordP, hdf, hmf]
    rw [hwd] at hw ⊢
    simp only [a0, a1, a2, a3, a5, w0, u8bd, u8w, u8m, tdivN (a := (al : Int)) (b := 256) (by omega), tmodN (a := (al : Int)) (b := 256) (by omega), i64_in (n := (al : Int) / 256) (by omega) (by omega), tdivN (a := p.id) (b := 256) (by omega), tmodN (a := p.id) (b := 256) (by omega), u16_in (n := p.id / 256) (by omega) (by omega), tdivN (a := p.off) (b := 256) (by omega), tmodN (a := p.off) (b := 256) (by omega), i64_in (n := (p.off) / 256) (by omega) (by omega), tdivN (a := x) (b := 256) (by omega), tmodN (a := x) (b := 256) (by omega), i64_in (n := x / 256) (by omega) (by omega), ac_skip, ac_seq, ac_cond, ac_region, at_normal, ao_nil, ao_cons, if_f, as_call, as_move, as_assign, as_binOp, as_convert, as_load, as_fieldAddr, as_buildSlice, as_len, fr_false, List.contains_nil, Nat.reduceBEq, beq_self_eq_true, Int.reduceEq, hk_some, hopG, hopF, rd, aopsD, frzW, tlN, constT, evT, lk, putT, lenF, binF, convF, loadF, cellsF, ovw, fillF, bytesOf, makeSF, partsF, argsF, constA, cellA, TK.isAgg, Value.oneCell', List.length_cons, List.length_nil, List.getElem?_cons_zero, List.getElem?_cons_succ, List.drop_zero, List.drop_succ_cons, List.set_cons_zero, List.set_cons_succ, List.nil_append, List.cons_append, List.replicate_succ, List.replicate_zero, List.flatten_cons, List.flatten_nil, List.append_nil, Option.map_some, Nat.reduceAdd, Nat.reduceSub, Nat.reduceEqDiff, Nat.reduceLeDiff, Nat.succ_ne_zero, ne_eq, not_false_eq_true, true_and, and_true, and_self, eq_self, reduceCtorEq, Bool.false_eq_true, ↓reduceIte, Nat.mul_one, Nat.zero_add, Nat.add_zero, Nat.le_refl, TT3, TT4, TT5, TT22, TT23, TT38, TT92]
    refine ⟨⟨k1, k4, k5⟩, ACall.intro (refPut_a p.src 4 k6 (by omega)) ?_⟩
    simp only [lowB_four, ao_cons, as_call, as_load, as_fieldAddr, Nat.reduceBEq, hk_some, hopG, rd, frzW, constT, evT, lk, putT, loadF, argsF, constA, cellA, TK.isAgg, List.getElem?_cons_zero, List.getElem?_cons_succ, List.drop_zero, List.drop_succ_cons, Option.map_some, Nat.reduceSub, Nat.reduceEqDiff, Nat.succ_ne_zero, ne_eq, not_false_eq_true, true_and, eq_self, Bool.false_eq_true, ↓reduceIte, Nat.zero_add, TT22, TT92]
    refine ACall.intro (refPut_a p.dst 4 k7 (by omega)) ?_
    simp only [lowB_four, ao_cons, as_call, Nat.reduceBEq, rd, frzW, evT, lk, putT, argsF, Option.map_some, Nat.reduceSub, Nat.reduceEqDiff, eq_self, ↓reduceIte]
    refine ACall.intro (add_a _ _ (by simp [length_put32])) ?_
    simp only [ao_cons, as_call, Nat.reduceBEq, rd, frzW, evT, lk, putT, argsF, Option.map_some, Nat.reduceSub, Nat.reduceEqDiff, eq_self, ↓reduceIte]
    refine ACall.intro (add_a _ _ (by simp [length_put32])) ?_
    simp only [ao_cons, as_call, as_load, as_fieldAddr, Nat.reduceBEq, hk_some, hopG, rd, frzW, evT, lk, putT, loadF, argsF, TK.isAgg, List.getElem?_cons_zero, List.getElem?_cons_succ, List.drop_zero, List.drop_succ_cons, List.nil_append, List.cons_append, Option.map_some, Nat.reduceSub, Nat.reduceEqDiff, Nat.succ_ne_zero, ne_eq, not_false_eq_true, true_and, eq_self, Bool.false_eq_true, ↓reduceIte, Nat.zero_add, TT38, TT92]
    refine ACall.intro (add_a _ _ (by simp [length_put32]; omega)) ?_
    simp only [ac_ret, at_normal, ae_ret, ao_nil, ao_cons, as_assign, Nat.reduceBEq, rd, evT, lk, putT, resF, resL, List.cons_append, Option.map_some, Option.bind_some, Nat.reduceSub, and_true, and_self, eq_self, ↓reduceIte]
  · have hwd : wordP p = p.off + 8192 := by simp [wordP, hdf, hmf]
    rw [hwd] at hw ⊢
    simp only [a0, a1, a2, a3, a5, w0, w2, u8bd, u8w, u8m, tdivN (a := (al : Int)) (b := 256) (by omega), tmodN (a := (al : Int)) (b := 256) (by omega), i64_in (n := (al : Int) / 256) (by omega) (by omega), tdivN (a := p.id) (b := 256) (by omega), tmodN (a := p.id) (b := 256) (by omega), u16_in (n := p.id / 256) (by omega) (by omega), tdivN (a := p.off + 8192) (b := 256) (by omega), tmodN (a := p.off + 8192) (b := 256) (by omega), i64_in (n := (p.off + 8192) / 256) (by omega) (by omega), tdivN (a := x) (b := 256) (by omega), tmodN (a := x) (b := 256) (by omega), i64_in (n := x / 256) (by omega) (by omega), ac_skip, ac_seq, ac_cond, ac_region, at_normal, ao_nil, ao_cons, if_t, if_f, as_call, as_move, as_assign, as_binOp, as_convert, as_load, as_fieldAddr, as_buildSlice, as_len, fr_false, List.contains_nil, Nat.reduceBEq, beq_self_eq_true, Int.reduceEq, hk_some, hopG, hopF, rd, aopsD, frzW, tlN, constT, evT, lk, putT, lenF, binF, convF, loadF, cellsF, ovw, fillF, bytesOf, makeSF, partsF, argsF, constA, cellA, TK.isAgg, Value.oneCell', List.length_cons, List.length_nil, List.getElem?_cons_zero, List.getElem?_cons_succ, List.drop_zero, List.drop_succ_cons, List.set_cons_zero, List.set_cons_succ, List.nil_append, List.cons_append, List.replicate_succ, List.replicate_zero, List.flatten_cons, List.flatten_nil, List.append_nil, Option.map_some, Nat.reduceAdd, Nat.reduceSub, Nat.reduceEqDiff, Nat.reduceLeDiff, Nat.succ_ne_zero, ne_eq, not_false_eq_true, true_and, and_true, and_self, eq_self, reduceCtorEq, Bool.false_eq_true, ↓reduceIte, Nat.mul_one, Nat.zero_add, Nat.add_zero, Nat.le_refl, TT3, TT4, TT5, TT22, TT23, TT38, TT92]
    refine ⟨⟨k1, k4, k5⟩, ACall.intro (refPut_a p.src 4 k6 (by omega)) ?_⟩
    simp only [lowB_four, ao_cons, as_call, as_load, as_fieldAddr, Nat.reduceBEq, hk_some, hopG, rd, frzW, constT, evT, lk, putT, loadF, argsF, constA, cellA, TK.isAgg, List.getElem?_cons_zero, List.getElem?_cons_succ, List.drop_zero, List.drop_succ_cons, Option.map_some, Nat.reduceSub, Nat.reduceEqDiff, Nat.succ_ne_zero, ne_eq, not_false_eq_true, true_and, eq_self, Bool.false_eq_true, ↓reduceIte, Nat.zero_add, TT22, TT92]
    refine ACall.intro (refPut_a p.dst 4 k7 (by omega)) ?_
    simp only [lowB_four, ao_cons, as_call, Nat.reduceBEq, rd, frzW, evT, lk, putT, argsF, Option.map_some, Nat.reduceSub, Nat.reduceEqDiff, eq_self, ↓reduceIte]
    refine ACall.intro (add_a _ _ (by simp [length_put32])) ?_
    simp only [ao_cons, as_call, Nat.reduceBEq, rd, frzW, evT, lk, putT, argsF, Option.map_some, Nat.reduceSub, Nat.reduceEqDiff, eq_self, ↓reduceIte]
    refine ACall.intro (add_a _ _ (by simp [length_put32])) ?_
    simp only [ao_cons, as_call, as_load, as_fieldAddr, Nat.reduceBEq, hk_some, hopG, rd, frzW, evT, lk, putT, loadF, argsF, TK.isAgg, List.getElem?_cons_zero, List.getElem?_cons_succ, List.drop_zero, List.drop_succ_cons, List.nil_append, List.cons_append, Option.map_some, Nat.reduceSub, Nat.reduceEqDiff, Nat.succ_ne_zero, ne_eq, not_false_eq_true, true_and, eq_self, Bool.false_eq_true, ↓reduceIte, Nat.zero_add, TT38, TT92]
    refine ACall.intro (add_a _ _ (by simp [length_put32]; omega)) ?_
    simp only [ac_ret, at_normal, ae_ret, ao_nil, ao_cons, as_assign, Nat.reduceBEq, rd, evT, lk, putT, resF, resL, List.cons_append, Option.map_some, Option.bind_some, Nat.reduceSub, and_true, and_self, eq_self, ↓reduceIte]
  · have hwd : wordP p = p.off + 16384 := by simp [wordP, hdf, hmf]
    rw [hwd] at hw ⊢
    simp only [a0, a1, a2, a3, a5, w0, w1, u8bd, u8w, u8m, tdivN (a := (al : Int)) (b := 256) (by omega), tmodN (a := (al : Int)) (b := 256) (by omega), i64_in (n := (al : Int) / 256) (by omega) (by omega), tdivN (a := p.id) (b := 256) (by omega), tmodN (a := p.id) (b := 256) (by omega), u16_in (n := p.id / 256) (by omega) (by omega), tdivN (a := p.off + 16384) (b := 256) (by omega), tmodN (a := p.off + 16384) (b := 256) (by omega), i64_in (n := (p.off + 16384) / 256) (by omega) (by omega), tdivN (a := x) (b := 256) (by omega), tmodN (a := x) (b := 256) (by omega), i64_in (n := x / 256) (by omega) (by omega), ac_skip, ac_seq, ac_cond, ac_region, at_normal, ao_nil, ao_cons, if_t, if_f, as_call, as_move, as_assign, as_binOp, as_convert, as_load, as_fieldAddr, as_buildSlice, as_len, fr_false, List.contains_nil, Nat.reduceBEq, beq_self_eq_true, Int.reduceEq, hk_some, hopG, hopF, rd, aopsD, frzW, tlN, constT, evT, lk, putT, lenF, binF, convF, loadF, cellsF, ovw, fillF, bytesOf, makeSF, partsF, argsF, constA, cellA, TK.isAgg, Value.oneCell', List.length_cons, List.length_nil, List.getElem?_cons_zero, List.getElem?_cons_succ, List.drop_zero, List.drop_succ_cons, List.set_cons_zero, List.set_cons_succ, List.nil_append, List.cons_append, List.replicate_succ, List.replicate_zero, List.flatten_cons, List.flatten_nil, List.append_nil, Option.map_some, Nat.reduceAdd, Nat.reduceSub, Nat.reduceEqDiff, Nat.reduceLeDiff, Nat.succ_ne_zero, ne_eq, not_false_eq_true, true_and, and_true, and_self, eq_self, reduceCtorEq, Bool.false_eq_true, ↓reduceIte, Nat.mul_one, Nat.zero_add, Nat.add_zero, Nat.le_refl, TT3, TT4, TT5, TT22, TT23, TT38, TT92]
    refine ⟨⟨k1, k4, k5⟩, ACall.intro (refPut_a p.src 4 k6 (by omega)) ?_⟩
    simp only [lowB_four, ao_cons, as_call, as_load, as_fieldAddr, Nat.reduceBEq, hk_some, hopG, rd, frzW, constT, evT, lk, putT, loadF, argsF, constA, cellA, TK.isAgg, List.getElem?_cons_zero, List.getElem?_cons_succ, List.drop_zero, List.drop_succ_cons, Option.map_some, Nat.reduceSub, Nat.reduceEqDiff, Nat.succ_ne_zero, ne_eq, not_false_eq_true, true_and, eq_self, Bool.false_eq_true, ↓reduceIte, Nat.zero_add, TT22, TT92]
    refine ACall.intro (refPut_a p.dst 4 k7 (by omega)) ?_
    simp only [lowB_four, ao_cons, as_call, Nat.reduceBEq, rd, frzW, evT, lk, putT, argsF, Option.map_some, Nat.reduceSub, Nat.reduceEqDiff, eq_self, ↓reduceIte]
    refine ACall.intro (add_a _ _ (by simp [length_put32])) ?_
    simp only [ao_cons, as_call, Nat.reduceBEq, rd, frzW, evT, lk, putT, argsF, Option.map_some, Nat.reduceSub, Nat.reduceEqDiff, eq_self, ↓reduceIte]
    refine ACall.intro (add_a _ _ (by simp [length_put32])) ?_
    simp only [ao_cons, as_call, as_load, as_fieldAddr, Nat.reduceBEq, hk_some, hopG, rd, frzW, evT, lk, putT, loadF, argsF, TK.isAgg, List.getElem?_cons_zero, List.getElem?_cons_succ, List.drop_zero, List.drop_succ_cons, List.nil_append, List.cons_append, Option.map_some, Nat.reduceSub, Nat.reduceEqDiff, Nat.succ_ne_zero, ne_eq, not_false_eq_true, true_and, eq_self, Bool.false_eq_true, ↓reduceIte, Nat.zero_add, TT38, TT92]
    refine ACall.intro (add_a _ _ (by simp [length_put32]; omega)) ?_
    simp only [ac_ret, at_normal, ae_ret, ao_nil, ao_cons, as_assign, Nat.reduceBEq, rd, evT, lk, putT, resF, resL, List.cons_append, Option.map_some, Option.bind_some, Nat.reduceSub, and_true, and_self, eq_self, ↓reduceIte]
  · have hwd : wordP p = p.off + 16384 + 8192 := by simp [wordP, hdf, hmf]
    rw [hwd] at hw ⊢
    simp only [a0, a1, a2, a3, a5, w0, w1, w3, u8bd, u8w, u8m, tdivN (a := (al : Int)) (b := 256) (by omega), tmodN (a := (al : Int)) (b := 256) (by omega), i64_in (n := (al : Int) / 256) (by omega) (by omega), tdivN (a := p.id) (b := 256) (by omega), tmodN (a := p.id) (b := 256) (by omega), u16_in (n := p.id / 256) (by omega) (by omega), tdivN (a := p.off + 16384 + 8192) (b := 256) (by omega), tmodN (a := p.off + 16384 + 8192) (b := 256) (by omega), i64_in (n := (p.off + 16384 + 8192) / 256) (by omega) (by omega), tdivN (a := x) (b := 256) (by omega), tmodN (a := x) (b := 256) (by omega), i64_in (n := x / 256) (by omega) (by omega), ac_seq, ac_cond, ac_region, at_normal, ao_nil, ao_cons, if_t, as_call, as_move, as_assign, as_binOp, as_convert, as_load, as_fieldAddr, as_buildSlice, as_len, fr_false, List.contains_nil, Nat.reduceBEq, beq_self_eq_true, Int.reduceEq, hk_some, hopG, hopF, rd, aopsD, frzW, tlN, constT, evT, lk, putT, lenF, binF, convF, loadF, cellsF, ovw, fillF, bytesOf, makeSF, partsF, argsF, constA, cellA, TK.isAgg, Value.oneCell', List.length_cons, List.length_nil, List.getElem?_cons_zero, List.getElem?_cons_succ, List.drop_zero, List.drop_succ_cons, List.set_cons_zero, List.set_cons_succ, List.nil_append, List.cons_append, List.replicate_succ, List.replicate_zero, List.flatten_cons, List.flatten_nil, List.append_nil, Option.map_some, Nat.reduceAdd, Nat.reduceSub, Nat.reduceEqDiff, Nat.reduceLeDiff, Nat.succ_ne_zero, ne_eq, not_false_eq_true, true_and, and_true, and_self, eq_self, reduceCtorEq, Bool.false_eq_true, ↓reduceIte, Nat.mul_one, Nat.zero_add, Nat.add_zero, Nat.le_refl, TT3, TT4, TT5, TT22, TT23, TT38, TT92]
    refine ⟨⟨k1, k4, k5⟩, ACall.intro (refPut_a p.src 4 k6 (by omega)) ?_⟩
    simp only [lowB_four, ao_cons, as_call, as_load, as_fieldAddr, Nat.reduceBEq, hk_some, hopG, rd, frzW, constT, evT, lk, putT, loadF, argsF, constA, cellA, TK.isAgg, List.getElem?_cons_zero, List.getElem?_cons_succ, List.drop_zero, List.drop_succ_cons, Option.map_some, Nat.reduceSub, Nat.reduceEqDiff, Nat.succ_ne_zero, ne_eq, not_false_eq_true, true_and, eq_self, Bool.false_eq_true, ↓reduceIte, Nat.zero_add, TT22, TT92]
    refine ACall.intro (refPut_a p.dst 4 k7 (by omega)) ?_
    simp only [lowB_four, ao_cons, as_call, Nat.reduceBEq, rd, frzW, evT, lk, putT, argsF, Option.map_some, Nat.reduceSub, Nat.reduceEqDiff, eq_self, ↓reduceIte]
    refine ACall.intro (add_a _ _ (by simp [length_put32])) ?_
    simp only [ao_cons, as_call, Nat.reduceBEq, rd, frzW, evT, lk, putT, argsF, Option.map_some, Nat.reduceSub, Nat.reduceEqDiff, eq_self, ↓reduceIte]
    refine ACall.intro (add_a _ _ (by simp [length_put32])) ?_
    simp only [ao_cons, as_call, as_load, as_fieldAddr, Nat.reduceBEq, hk_some, hopG, rd, frzW, evT, lk, putT, loadF, argsF, TK.isAgg, List.getElem?_cons_zero, List.getElem?_cons_succ, List.drop_zero, List.drop_succ_cons, List.nil_append, List.cons_append, Option.map_some, Nat.reduceSub, Nat.reduceEqDiff, Nat.succ_ne_zero, ne_eq, not_false_eq_true, true_and, eq_self, Bool.false_eq_true, ↓reduceIte, Nat.zero_add, TT38, TT92]
    refine ACall.intro (add_a _ _ (by simp [length_put32]; omega)) ?_
    simp only [ac_ret, at_normal, ae_ret, ao_nil, ao_cons, as_assign, Nat.reduceBEq, rd, evT, lk, putT, resF, resL, List.cons_append, Option.map_some, Option.bind_some, Nat.reduceSub, and_true, and_self, eq_self, ↓reduceIte]
set_option maxRecDepth 100000 in
theorem refPut06_a (p : PktN) (hp : p.ok) (hm : pktMay p = true) : ASpec Try.prog 89 [pktA p] (.tup [.bs (ipB p), i64 0]) := by
  have hm' := hm
  simp only [pktMay, Bool.and_eq_true, decide_eq_true_eq] at hm'
  obtain ⟨m1, m2, m3, m4⟩ := hm'
  have hl : (ipHeadB p 0).length = 20 + p.opts.length := ipHeadB_len _ _
  have hl2 : (ipHeadB p (65535 - onesF (ipHeadB p 0))).length = 20 + p.opts.length := ipHeadB_len _ _
  have hb := onesF_bd (ipHeadB p 0)
  refine ASpec.of_body TT_ok Try.mixed _ [.tmp 2, .tmp 3] ([], []) Try.func89 (by kernel_rfl) rfl rfl (by simp only [Try.ntmps89, List.length_cons, List.length_nil]; omega) rfl (by kernel_rfl) ?_
  simp only [argE_cons, argE_nil, ac_seq, ac_region, at_normal, ao_nil, ao_cons, as_call, as_box, as_assign, as_load, pktL, pktA, u8A, u16A, u32A, i64, boA, fr_false, List.contains_nil, beq_self_eq_true, hk_some, hopG, rd, aopsD, heapF, frzW, frzR, constT, evT, lk, putT, loadF, cellsF, argsF, constA, cellA, TK.isAgg, List.length_cons, List.length_nil, List.getElem?_cons_zero, List.drop_zero, List.take_succ_cons, List.take_nil, List.nil_append, Option.map_some, Nat.reduceAdd, Nat.reduceSub, Nat.reduceEqDiff, Nat.reduceLeDiff, true_and, eq_self, Bool.false_eq_true, ↓reduceIte, Nat.zero_add, Nat.le_refl, TT92]
  refine ACall.intro (refMay06_a p hp (by omega) (by omega)) ?_
  simp only [hm, ac_skip, ac_seq, ac_cond, ac_region, at_normal, ao_nil, ao_cons, if_f, as_call, as_unOp, as_load, boA, fr_false, List.contains_nil, Nat.reduceBEq, beq_self_eq_true, hk_some, hopG, rd, aopsD, frzW, tlN, constT, evT, lk, putT, unF, loadF, argsF, constA, cellA, TK.isAgg, List.length_cons, List.length_nil, List.getElem?_cons_zero, List.drop_zero, List.take_succ_cons, List.take_nil, Option.map_some, Nat.reduceAdd, Nat.reduceSub, Nat.reduceEqDiff, Nat.reduceLeDiff, true_and, eq_self, Bool.not_true, ↓reduceIte, Nat.zero_add, Nat.le_refl, TT92]
  refine ACall.intro (refHead06_a p 0 hp hm (by omega)) ?_
  simp only [ao_cons, as_call, Nat.reduceBEq, rd, frzW, evT, lk, putT, argsF, Option.map_some, Nat.reduceSub, eq_self, ↓reduceIte]
  refine ACall.intro (refOf_a _ (by simp only [small]; omega)) ?_
  simp only [ao_cons, as_call, i64, Nat.reduceBEq, rd, frzW, evT, lk, putT, argsF, Option.map_some, Nat.reduceSub, Nat.reduceEqDiff, eq_self, ↓reduceIte]
  refine ACall.intro (refHead06_a p _ hp hm (by omega)) ?_
  simp only [ao_cons, as_call, as_load, as_fieldAddr, Nat.reduceBEq, hk_some, hopG, rd, frzW, evT, lk, putT, loadF, argsF, TK.isAgg, List.getElem?_cons_zero, List.getElem?_cons_succ, List.drop_zero, List.drop_succ_cons, Option.map_some, Nat.reduceSub, Nat.reduceEqDiff, Nat.succ_ne_zero, ne_eq, not_false_eq_true, true_and, eq_self, Bool.false_eq_true, ↓reduceIte, Nat.zero_add, TT38, TT92]
  refine ACall.intro (add_a _ _ (by omega)) ?_
  simp only [ac_ret, at_normal, ae_ret, ao_nil, ao_cons, as_assign, Nat.reduceBEq, rd, constT, evT, lk, putT, resF, resL, constA, cellA, Option.map_some, Option.bind_some, Nat.reduceSub, Nat.reduceEqDiff, true_and, and_true, eq_self, ↓reduceIte]
  try rfl
set_option maxRecDepth 100000 in
theorem refPut06_no (p : PktN) (hp : p.ok) (hm : pktMay p = false) (ho : p.opts.length ≤ 100000) (hd : p.data.length ≤ 1000000) : ASpec Try.prog 89 [pktA p] (.tup [.bs [], i64 2]) := by
  refine ASpec.of_body TT_ok Try.mixed _ [.tmp 2, .tmp 3] ([], []) Try.func89 (by kernel_rfl) rfl rfl (by simp only [Try.ntmps89, List.length_cons, List.length_nil]; omega) rfl (by kernel_rfl) ?_
  simp only [argE_cons, argE_nil, ac_seq, ac_region, at_normal, ao_nil, ao_cons, as_call, as_box, as_assign, as_load, pktL, pktA, u8A, u16A, u32A, i64, boA, fr_false, List.contains_nil, beq_self_eq_true, hk_some, hopG, rd, aopsD, heapF, frzW, frzR, constT, evT, lk, putT, loadF, cellsF, argsF, constA, cellA, TK.isAgg, List.length_cons, List.length_nil, List.getElem?_cons_zero, List.drop_zero, List.take_succ_cons, List.take_nil, List.nil_append, Option.map_some, Nat.reduceAdd, Nat.reduceSub, Nat.reduceEqDiff, Nat.reduceLeDiff, true_and, eq_self, Bool.false_eq_true, ↓reduceIte, Nat.zero_add, Nat.le_refl, TT92]
  refine ACall.intro (refMay06_a p hp ho hd) ?_
  simp only [hm, ac_ret, ac_seq, ac_cond, ac_region, at_normal, at_ret, ae_ret, ao_nil, ao_cons, if_t, as_assign, as_unOp, boA, fr_false, List.contains_nil, beq_self_eq_true, hk_some, hopG, rd, aopsD, constT, evT, lk, putT, unF, resF, resL, constA, cellA, Option.map_some, Option.bind_some, Nat.reduceSub, Nat.reduceEqDiff, Nat.reduceLeDiff, and_true, and_self, eq_self, Bool.false_eq_true, Bool.not_false, ↓reduceIte]
  try rfl
set_option maxRecDepth 100000 in
theorem refSame06_a (s t : PktN) : ASpec Try.prog 67 [pktA s, pktA t] (boA (decide (s.tos = t.tos) && (decide (s.id = t.id) && ((s.df == t.df) && ((s.mf == t.mf) && (decide (s.off = t.off) && (decide (s.ttl = t.ttl) && (decide (s.proto = t.proto) && (decide (s.src = t.src) && (decide (s.dst = t.dst) && ((s.opts == t.opts) && (s.data == t.data)))))))))))) := by
  refine ASpec.of_body TT_ok Try.mixed _ [.tmp 4] ([], []) Try.func67 (by kernel_rfl) rfl rfl (by simp only [Try.ntmps67, List.length_cons, List.length_nil]; omega) rfl (by kernel_rfl) ?_
  simp only [argE_cons, argE_nil, ac_seq, ac_region, at_normal, ao_nil, ao_cons, ao_guard_t, as_box, as_move, as_assign, as_binOp, as_load, as_fieldAddr, pktL, pktA, u8A, u16A, u32A, boA, fr_false, List.contains_nil, beq_self_eq_true, hk_some, hopG, rd, aopsD, heapF, constT, evT, lk, putT, GV, gdst, binF, loadF, cellsF, constA, cellA, TK.isAgg, List.length_cons, List.length_nil, List.getElem?_cons_zero, List.getElem?_cons_succ, List.drop_zero, List.nil_append, List.cons_append, Option.map_some, Nat.reduceAdd, Nat.reduceSub, Nat.reduceEqDiff, Nat.reduceLeDiff, Nat.succ_ne_zero, ne_eq, not_false_eq_true, true_and, eq_self, reduceCtorEq, Bool.false_eq_true, ↓reduceIte, Nat.zero_add, Nat.add_zero, TT5, TT92]
  cases c1 : decide (s.tos = t.tos) <;> simp only [ac_ret, ac_seq, ac_region, at_normal, ae_ret, ao_nil, ao_cons, ao_guard_t, st_at, sk_at, pk_at, if_t, if_f, as_pick, as_move, as_assign, as_binOp, as_load, as_fieldAddr, fr_false, List.contains_nil, beq_self_eq_true, Bool.true_and, Bool.false_and, hk_some, hopG, rd, aopsD, constT, evT, lk, putT, GV, gdst, binF, loadF, resF, resL, constA, cellA, TK.isAgg, List.getElem?_cons_zero, List.getElem?_cons_succ, List.drop_zero, List.drop_succ_cons, Option.map_some, Option.bind_some, Nat.reduceSub, Nat.reduceEqDiff, Nat.reduceLeDiff, Nat.succ_ne_zero, ne_eq, not_false_eq_true, true_and, and_true, and_self, eq_self, Bool.false_eq_true, ↓reduceIte, Nat.zero_add, TT23, TT92] <;> try rfl
  cases c2 : decide (s.id = t.id) <;> simp only [ac_ret, ac_seq, ac_region, at_normal, ae_ret, ao_nil, ao_cons, ao_guard_t, st_at, sk_at, pk_at, if_t, if_f, as_pick, as_move, as_assign, as_binOp, as_load, as_fieldAddr, fr_false, List.contains_nil, beq_self_eq_true, Bool.true_and, Bool.false_and, hk_some, hopG, rd, aopsD, constT, evT, lk, putT, GV, gdst, binF, loadF, resF, resL, constA, cellA, TK.isAgg, List.getElem?_cons_zero, List.getElem?_cons_succ, List.drop_zero, List.drop_succ_cons, Option.map_some, Option.bind_some, Nat.reduceSub, Nat.reduceEqDiff, Nat.reduceLeDiff, Nat.succ_ne_zero, ne_eq, not_false_eq_true, true_and, and_true, and_self, eq_self, Bool.false_eq_true, ↓reduceIte, Nat.zero_add, TT4, TT92] <;> try rfl
  cases c3 : (s.df == t.df) <;> simp only [ac_ret, ac_seq, ac_region, at_normal, ae_ret, ao_nil, ao_cons, ao_guard_t, st_at, sk_at, pk_at, if_t, if_f, as_pick, as_move, as_assign, as_binOp, as_load, as_fieldAddr, fr_false, List.contains_nil, beq_self_eq_true, Bool.true_and, Bool.false_and, hk_some, hopG, rd, aopsD, constT, evT, lk, putT, GV, gdst, binF, loadF, resF, resL, constA, cellA, TK.isAgg, List.getElem?_cons_zero, List.getElem?_cons_succ, List.drop_zero, List.drop_succ_cons, Option.map_some, Option.bind_some, Nat.reduceSub, Nat.reduceEqDiff, Nat.reduceLeDiff, Nat.succ_ne_zero, ne_eq, not_false_eq_true, true_and, and_true, and_self, eq_self, Bool.false_eq_true, ↓reduceIte, Nat.zero_add, TT4, TT92] <;> try rfl
  cases c4 : (s.mf == t.mf) <;> simp only [ac_ret, ac_seq, ac_region, at_normal, ae_ret, ao_nil, ao_cons, ao_guard_t, st_at, sk_at, pk_at, if_t, if_f, as_pick, as_move, as_assign, as_binOp, as_load, as_fieldAddr, fr_false, List.contains_nil, beq_self_eq_true, Bool.true_and, Bool.false_and, hk_some, hopG, rd, aopsD, constT, evT, lk, putT, GV, gdst, binF, loadF, resF, resL, constA, cellA, TK.isAgg, List.getElem?_cons_zero, List.getElem?_cons_succ, List.drop_zero, List.drop_succ_cons, Option.map_some, Option.bind_some, Nat.reduceSub, Nat.reduceEqDiff, Nat.reduceLeDiff, Nat.succ_ne_zero, ne_eq, not_false_eq_true, true_and, and_true, and_self, eq_self, Bool.false_eq_true, ↓reduceIte, Nat.zero_add, TT23, TT92] <;> try rfl
  cases c5 : decide (s.off = t.off) <;> simp only [ac_ret, ac_seq, ac_region, at_normal, ae_ret, ao_nil, ao_cons, ao_guard_t, st_at, sk_at, pk_at, if_t, if_f, as_pick, as_move, as_assign, as_binOp, as_load, as_fieldAddr, fr_false, List.contains_nil, beq_self_eq_true, Bool.true_and, Bool.false_and, hk_some, hopG, rd, aopsD, constT, evT, lk, putT, GV, gdst, binF, loadF, resF, resL, constA, cellA, TK.isAgg, List.getElem?_cons_zero, List.getElem?_cons_succ, List.drop_zero, List.drop_succ_cons, Option.map_some, Option.bind_some, Nat.reduceSub, Nat.reduceEqDiff, Nat.reduceLeDiff, Nat.succ_ne_zero, ne_eq, not_false_eq_true, true_and, and_true, and_self, eq_self, Bool.false_eq_true, ↓reduceIte, Nat.zero_add, TT5, TT92] <;> try rfl
  cases c6 : decide (s.ttl = t.ttl) <;> simp only [ac_ret, ac_seq, ac_region, at_normal, ae_ret, ao_nil, ao_cons, ao_guard_t, st_at, sk_at, pk_at, if_t, if_f, as_pick, as_move, as_assign, as_binOp, as_load, as_fieldAddr, fr_false, List.contains_nil, beq_self_eq_true, Bool.true_and, Bool.false_and, hk_some, hopG, rd, aopsD, constT, evT, lk, putT, GV, gdst, binF, loadF, resF, resL, constA, cellA, TK.isAgg, List.getElem?_cons_zero, List.getElem?_cons_succ, List.drop_zero, List.drop_succ_cons, Option.map_some, Option.bind_some, Nat.reduceSub, Nat.reduceEqDiff, Nat.reduceLeDiff, Nat.succ_ne_zero, ne_eq, not_false_eq_true, true_and, and_true, and_self, eq_self, Bool.false_eq_true, ↓reduceIte, Nat.zero_add, TT5, TT92] <;> try rfl
  cases c7 : decide (s.proto = t.proto) <;> simp only [ac_ret, ac_seq, ac_region, at_normal, ae_ret, ao_nil, ao_cons, ao_guard_t, st_at, sk_at, pk_at, if_t, if_f, as_pick, as_move, as_assign, as_binOp, as_load, as_fieldAddr, fr_false, List.contains_nil, beq_self_eq_true, Bool.true_and, Bool.false_and, hk_some, hopG, rd, aopsD, constT, evT, lk, putT, GV, gdst, binF, loadF, resF, resL, constA, cellA, TK.isAgg, List.getElem?_cons_zero, List.getElem?_cons_succ, List.drop_zero, List.drop_succ_cons, Option.map_some, Option.bind_some, Nat.reduceSub, Nat.reduceEqDiff, Nat.reduceLeDiff, Nat.succ_ne_zero, ne_eq, not_false_eq_true, true_and, and_true, and_self, eq_self, Bool.false_eq_true, ↓reduceIte, Nat.zero_add, TT22, TT92] <;> try rfl
  cases c8 : decide (s.src = t.src) <;> simp only [ac_ret, ac_seq, ac_region, at_normal, ae_ret, ao_nil, ao_cons, ao_guard_t, st_at, sk_at, pk_at, if_t, if_f, as_pick, as_move, as_assign, as_binOp, as_load, as_fieldAddr, fr_false, List.contains_nil, beq_self_eq_true, Bool.true_and, Bool.false_and, hk_some, hopG, rd, aopsD, constT, evT, lk, putT, GV, gdst, binF, loadF, resF, resL, constA, cellA, TK.isAgg, List.getElem?_cons_zero, List.getElem?_cons_succ, List.drop_zero, List.drop_succ_cons, Option.map_some, Option.bind_some, Nat.reduceSub, Nat.reduceEqDiff, Nat.reduceLeDiff, Nat.succ_ne_zero, ne_eq, not_false_eq_true, true_and, and_true, and_self, eq_self, Bool.false_eq_true, ↓reduceIte, Nat.zero_add, TT22, TT92] <;> try rfl
  cases c9 : decide (s.dst = t.dst) <;> simp only [ac_ret, at_normal, ae_ret, ao_nil, ao_cons, ao_guard_t, st_at, sk_at, pk_at, if_t, if_f, as_pick, as_call, as_move, as_assign, as_load, as_fieldAddr, beq_self_eq_true, Bool.true_and, Bool.false_and, hk_some, hopG, rd, frzW, frzR, constT, evT, lk, putT, GV, gdst, loadF, argsF, resF, resL, constA, cellA, TK.isAgg, List.getElem?_cons_zero, List.getElem?_cons_succ, List.drop_zero, List.drop_succ_cons, Option.map_some, Option.bind_some, Nat.reduceSub, Nat.reduceEqDiff, Nat.succ_ne_zero, ne_eq, not_false_eq_true, true_and, and_true, and_self, eq_self, Bool.false_eq_true, ↓reduceIte, Nat.zero_add, TT38, TT92] <;> try rfl
  refine ACall.intro (refSame_a _ _) ?_
  cases c10 : (s.opts == t.opts) <;> simp only [ac_ret, at_normal, ae_ret, ao_nil, ao_cons, ao_guard_t, st_at, sk_at, pk_at, if_t, if_f, as_pick, as_call, as_move, as_assign, as_load, as_fieldAddr, boA, beq_self_eq_true, Bool.true_and, Bool.false_and, hk_some, hopG, rd, frzW, frzR, constT, evT, lk, putT, GV, gdst, loadF, argsF, resF, resL, constA, cellA, TK.isAgg, List.getElem?_cons_zero, List.getElem?_cons_succ, List.drop_zero, List.drop_succ_cons, Option.map_some, Option.bind_some, Nat.reduceSub, Nat.reduceEqDiff, Nat.succ_ne_zero, ne_eq, not_false_eq_true, true_and, and_true, and_self, eq_self, Bool.false_eq_true, ↓reduceIte, Nat.zero_add, TT38, TT92] <;> try rfl
  refine ACall.intro (refSame_a _ _) ?_
  simp only [ac_ret, at_normal, ae_ret, ao_nil, ao_cons, pk_at, if_t, as_pick, as_assign, boA, beq_self_eq_true, rd, evT, lk, putT, resF, resL, Option.map_some, Option.bind_some, Nat.reduceSub, Nat.reduceEqDiff, and_true, and_self, eq_self, ↓reduceIte]
theorem refSame06_self (s : PktN) : ASpec Try.prog 67 [pktA s, pktA s] (boA true) := by
  have := refSame06_a s s
  simpa using this
set_option maxRecDepth 100000 in
theorem refFew06_a (s : PktN) : ASpec Try.prog 69 [pktA s] (pktA { s with opts := s.opts.take 50, data := s.data.take 300 }) := by
  refine ASpec.of_body TT_ok Try.mixed _ [.cell 2 92] ([], []) Try.func69 (by kernel_rfl) rfl rfl (by simp only [Try.ntmps69, List.length_cons, List.length_nil]; omega) rfl (by kernel_rfl) ?_
  simp only [argE_cons, argE_nil, ac_seq, ac_region, at_normal, ao_nil, ao_cons, as_call, as_box, as_alloc, as_load, as_fieldAddr, pktL, pktA, u8A, u16A, u32A, boA, fr_false, List.contains_nil, beq_self_eq_true, hk_some, hopG, rd, aopsD, heapF, frzW, frzR, constT, evT, lk, putT, loadF, cellsF, argsF, constA, cellA, TK.isAgg, List.length_cons, List.length_nil, List.getElem?_cons_zero, List.getElem?_cons_succ, List.drop_zero, List.drop_succ_cons, List.nil_append, List.cons_append, Option.map_some, Nat.reduceSub, Nat.reduceEqDiff, Nat.reduceLeDiff, Nat.succ_ne_zero, ne_eq, not_false_eq_true, true_and, eq_self, Bool.false_eq_true, ↓reduceIte, Nat.zero_add, TT38, TT92]
  refine ACall.intro (few_a s.opts 50) ?_
  simp only [ac_seq, ac_region, at_normal, ao_nil, ao_cons, as_call, as_store, as_load, as_fieldAddr, fr_false, List.contains_nil, beq_self_eq_true, Bool.and_self, hk_some, hopG, rd, aopsD, heapF, frzW, frzR, constT, evT, lk, putT, loadF, cellsF, ovw, argsF, okCell, constA, cellA, TK.isAgg, List.length_cons, List.length_nil, List.getElem?_cons_zero, List.getElem?_cons_succ, List.drop_zero, List.drop_succ_cons, List.set_cons_zero, List.set_cons_succ, List.all_cons, List.all_nil, Option.map_some, Nat.reduceAdd, Nat.reduceSub, Nat.reduceEqDiff, Nat.reduceLeDiff, Nat.succ_ne_zero, ne_eq, not_false_eq_true, true_and, and_self, eq_self, Bool.false_eq_true, ↓reduceIte, Nat.zero_add, TT38, TT92]
  refine ACall.intro (few_a s.data 300) ?_
  simp only [ac_ret, ac_seq, ac_region, at_normal, ae_ret, ao_nil, ao_cons, as_store, as_load, as_fieldAddr, fr_false, fr_nil, fr_cons, List.contains_nil, beq_self_eq_true, Bool.and_self, hk_some, hopG, rd, aopsD, heapF, evT, lk, putT, loadF, cellsF, ovw, okCell, resF, resL, TK.isAgg, Value.oneCell', List.length_cons, List.length_nil, List.getElem?_cons_zero, List.getElem?_cons_succ, List.drop_zero, List.take_succ_cons, List.take_nil, List.set_cons_zero, List.set_cons_succ, List.all_cons, List.all_nil, Option.map_some, Option.bind_some, Nat.reduceAdd, Nat.reduceSub, Nat.reduceEqDiff, Nat.reduceLeDiff, Nat.succ_ne_zero, ne_eq, not_false_eq_true, and_true, and_self, eq_self, Bool.false_eq_true, ↓reduceIte, Nat.zero_add, Nat.le_refl, TT38, TT92]
end Go.Proofs.Ytafajmnlknmfiaa
