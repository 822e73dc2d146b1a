/- FragBack. -/
import Derived.Test.YthjojkkapboonaaFO
import Derived.Test.YthjojkkapboonaaFN
import Derived.Test.YthjojkkapboonaaFK
namespace Go.Proofs.Ythjojkkapboonaa
set_option linter.unusedSimpArgs false
set_option linter.unusedVariables false
open Go.RowKit

theorem splL_cnt (x : PktN) (M : Nat) (h8 : 8 ≤ M) : ∀ (f k : Nat) (acc : List PktN), (splL x M f k acc).1.length ≤ acc.length + (x.data.length - k + 7) / 8
  | 0, k, acc => by rw [splL]; simp only; omega
  | f + 1, k, acc => by
    rw [splL]
    split
    · simp only; omega
    · split
      · simp
      · have := splL_cnt x M h8 f (k + M) (acc ++ [pieceAt x M k])
        rw [List.length_append, List.length_singleton] at this
        omega
theorem splitP_cnt (x : PktN) (m : Int) : (splitP x m).1.length ≤ (x.data.length + 7) / 8 + 1 := by
  rw [splitP]
  split
  · simp
  · split
    · simp
    · split
      · simp
      · rename_i h1 h2 h3
        split
        · simp
        · have := splL_cnt x (mostOf x m) (by unfold mostOf; omega) x.data.length 0 []
          rw [List.length_nil] at this
          omega
theorem again_cnt (m : Int) (x : PktN) (h : x.data.length ≤ 300) : (again m x).length ≤ 39 := by
  unfold again
  split
  · have := splitP_cnt x m; omega
  · simp
theorem flat_cnt (f : PktN → List PktN) (n : Nat) : ∀ (l : List PktN), (∀ x ∈ l, (f x).length ≤ n) → (l.flatMap f).length ≤ l.length * n
  | [], _ => by simp
  | x :: l, h => by
    have h1 := h x (by simp)
    have h2 := flat_cnt f n l (fun y hy => h y (List.mem_cons_of_mem _ hy))
    rw [List.flatMap_cons, List.length_append, List.length_cons, Nat.add_mul]
    omega
theorem SubP.okp {p x : PktN} {a b : Nat} (h : SubP p x a b) (hp : p.ok) (h0 : p.off = 0) (hd : p.data.length ≤ 300) : x.ok ∧ x.opts = p.opts ∧ x.data.length ≤ 300 := by
  have h1 := h.len
  have h2 := h.dl
  have h3 := h.cd
  refine ⟨?_, by rw [h.eq], by omega⟩
  rw [h.eq]
  refine ⟨hp.tos, hp.id, ?_, hp.ttl, hp.proto, hp.src, hp.dst⟩
  show 0 ≤ p.off + ((a / 8 : Nat) : Int) ∧ p.off + ((a / 8 : Nat) : Int) ≤ 65535
  omega
theorem Subs.ok {p : PktN} {l : List PktN} (h : Subs p l) (hp : p.ok) (h0 : p.off = 0) (hd : p.data.length ≤ 300) (ho : p.opts.length ≤ 50) (hn : l.length ≤ 2000) : pksOk l := by
  refine ⟨hn, fun x hx => ?_⟩
  obtain ⟨a, b, e⟩ := h.all x hx
  obtain ⟨h1, h2, h3⟩ := e.okp hp h0 hd
  exact ⟨h1, by rw [h2]; omega, by omega⟩
theorem take_flat (f : PktN → List PktN) (l : List PktN) (k : Nat) (h : k < l.length) : (l.take (k + 1)).flatMap f = (l.take k).flatMap f ++ f (l.getD k pktZ) := by
  rw [List.take_succ_eq_append_getElem h, List.flatMap_append]
  simp [List.getD, h]
structure BkK (L : List PktN) where
  k : Nat
  hk : k ≤ L.length
def bkI (q : PktN) (L : List PktN) (bs : List Int) (less ag : Int) (k : Nat) : AE := match k with
  | 0 => ⟨[(14, .v (i64 0)), (11, .v (.sl 11 (pktsL L))), (2, .v (i64 less)), (3, .v (.sl 1 (numL bs))), (4, .v (i64 ag)), (13, .z), (5, .p 0 0)], [(true, pktL q)]⟩
  | k + 1 => ⟨[(14, .v (i64 ((k + 1 : Nat) : Int))), (11, .v (.sl 11 (pktsL L))), (2, .v (i64 less)), (3, .v (.sl 1 (numL bs))), (4, .v (i64 ag)), (13, .r 1 87 11 (.sl 11 (pktsL ((L.take (k + 1)).flatMap (again less))))), (5, .p 0 0)], [(true, pktL q), (true, [])]⟩
set_option maxRecDepth 100000 in
set_option maxHeartbeats 4000000 in
theorem fragBack_a (p : PktN) (mtu less : Int) (bs : List Int) (ag : Int) (hp0 : p.ok) (hm : I64ok mtu) (hls : I64ok less) (hag : I64ok ag) :
    ASpec Try.prog 10 [pktA p, i64 mtu, i64 less, .sl 1 (numL bs), i64 ag] (boA true) := by
  obtain ⟨q, hq⟩ : ∃ q : PktN, q = { p with opts := p.opts.take 50, data := p.data.take 300 } := ⟨_, rfl⟩
  have hqo : q.opts.length ≤ 50 := by rw [hq]; simp; omega
  have hqd : q.data.length ≤ 300 := by rw [hq]; simp; omega
  have hqk : q.ok := by rw [hq]; exact ⟨hp0.tos, hp0.id, hp0.off, hp0.ttl, hp0.proto, hp0.src, hp0.dst⟩
  have hfew := refFew06_a p
  rw [← hq] at hfew
  refine ASpec.of_bodyX TT_ok Try.mixed _ [.tmp 10] ([], [(16, 7000)]) Try.func10 (by kernel_rfl) rfl rfl (by simp only [Try.ntmps10, List.length_cons, List.length_nil]; omega) rfl (by kernel_rfl) ?_
  simp only [argE_cons, argE_nil, at_normal, ao_nil, ao_cons, as_call, as_box, as_assign, as_load, pktL, pktA, u8A, u16A, u32A, i64, boA, fr_false, List.contains_nil, beq_self_eq_true, hk_some, hopG, rd, aopsD, heapF, frzW, frzR, tlN, constT, evT, lk, putT, loadF, cellsF, argsF, constA, cellA, TK.isAgg, List.length_cons, List.length_nil, List.getElem?_cons_zero, List.drop_zero, List.take_succ_cons, List.take_nil, List.nil_append, Option.map_some, Nat.reduceAdd, Nat.reduceSub, Nat.reduceEqDiff, Nat.reduceLeDiff, Nat.succ_ne_zero, true_and, eq_self, reduceCtorEq, ↓reduceIte, Nat.zero_add, Nat.le_refl, TT87, ax_seq, ax_region_f, aregX]
  refine ACall.intro hfew ?_
  simp only [at_normal, ao_nil, ao_cons, ao_guard_f, as_store, as_move, as_load, as_fieldAddr, pktL, pktA, u8A, u16A, u32A, boA, fr_false, List.contains_nil, beq_self_eq_true, Bool.and_self, hk_some, hopG, rd, aopsD, heapF, frzW, frzR, tlN, evT, lk, putT, GV, gdst, loadF, cellsF, ovw, okCell, TK.isAgg, Value.oneCell', List.length_cons, List.length_nil, List.getElem?_cons_zero, List.getElem?_cons_succ, List.drop_zero, List.drop_succ_cons, List.set_cons_zero, List.set_cons_succ, List.all_cons, List.all_nil, Option.map_some, Nat.reduceAdd, Nat.reduceSub, Nat.reduceEqDiff, Nat.reduceLeDiff, Nat.succ_ne_zero, ne_eq, not_false_eq_true, true_and, and_self, eq_self, reduceCtorEq, Bool.false_eq_true, ↓reduceIte, Nat.zero_add, Nat.le_refl, TT4, TT87, ax_seq, ax_region_f, aregX]
  refine AIf.intro (fun c1 => ?_) (fun c1 => ?_)
  · simp only [ao_guard_f, sk_at, beq_self_eq_true, lk, putT, GV, gdst, Nat.reduceSub, Nat.reduceEqDiff, eq_self, ↓reduceIte]
    repeat' (first
      | refine ACall.intro lives43_a ?_
      | refine AIf.intro (fun _ => ?_) (fun c => absurd (c1.symm.trans c) (by decide))
      | (simp only [at_normal, at_ret, ae_ret, ao_nil, ao_cons, ao_guard_f, sk_at, pk_at, if_t, as_pick, as_call, as_assign, boA, fr_false, List.contains_nil, beq_self_eq_true, rd, aopsD, frzW, frzR, tlN, constT, evT, lk, putT, GV, gdst, argsF, resF, resL, constA, cellA, Option.map_some, Option.bind_some, Nat.reduceSub, Nat.reduceEqDiff, Nat.reduceLeDiff, and_true, and_self, eq_self, reduceCtorEq, ↓reduceIte, ax_ret, ax_seq, ax_cond, ax_region_f, aregX]))
  · simp only [ao_guard_f, st_at, as_fieldAddr, beq_self_eq_true, hk_some, hopG, rd, evT, lk, putT, GV, gdst, List.getElem?_cons_zero, List.getElem?_cons_succ, Nat.reduceSub, Nat.reduceEqDiff, Nat.succ_ne_zero, ne_eq, not_false_eq_true, true_and, eq_self, ↓reduceIte, Nat.zero_add, TT87]
    repeat' (first
      | refine AIf.intro (fun c => absurd (c1.symm.trans c) (by decide)) (fun _ => ?_)
      | (simp only [at_normal, ao_nil, ao_cons, ao_guard_f, st_at, pk_at, as_pick, as_binOp, as_load, beq_self_eq_true, hk_some, hopG, rd, constT, evT, lk, putT, GV, gdst, binF, loadF, constA, cellA, TK.isAgg, List.getElem?_cons_zero, List.drop_zero, List.drop_succ_cons, Option.map_some, Nat.reduceSub, Nat.reduceEqDiff, true_and, eq_self, Bool.false_eq_true, ↓reduceIte, TT23, ax_cond]))
    cases c2 : decide ((0 : Int) < q.off)
    · rw [dF] at c2
      have hq0 : q.off = 0 := by have := hqk.off; omega
      simp only [at_normal, ao_cons, if_f, as_call, as_move, as_load, fr_false, List.contains_nil, beq_self_eq_true, hk_some, hopG, rd, aopsD, frzW, frzR, tlN, evT, lk, putT, loadF, argsF, TK.isAgg, List.length_cons, List.length_nil, List.getElem?_cons_zero, List.drop_zero, List.take_succ_cons, List.take_nil, Option.map_some, Nat.reduceAdd, Nat.reduceSub, Nat.reduceEqDiff, Nat.reduceLeDiff, true_and, eq_self, reduceCtorEq, ↓reduceIte, Nat.zero_add, Nat.le_refl, TT87, ax_skip, ax_seq, ax_region_f, aregX]
      repeat' (first
        | refine AIf.intro (fun c => absurd (c1.symm.trans c) (by decide)) (fun _ => ?_)
        | (simp only [argE_cons, argE_nil, ac_skip, ac_exit, ac_ret, ac_seq, ac_block, ac_cond, ac_region, ac_loop, at_normal, at_ret, at_exit, ab_normal, ab_ret, ab_exit, ae_normal, ae_ret, ao_nil, ao_cons, ao_guard_t, ao_guard_f, st_at, sk_at, pk_at, if_t, if_f, as_pick, as_call, as_box, as_alloc, as_store, as_move, as_assign, as_nilCheck, as_binOp, as_unOp, as_convert, as_load, as_fieldAddr, as_field, as_indexAddr, as_index, as_extract, as_build, as_buildSlice, as_buildSlice0, as_buildSlice0_f, as_makeSlice, as_makeSlice_f, an_const, an_tmp, an_none, noneA, okNone, lenS, bytesL_len, asB_bytes, asB_take, List.length_replicate, af_nil, af_nil_f, af_node, af_first, an_step, af_step, an_step_g, af_step_g, freeF, isOne, as_range, as_next, goT, goV, as_slice, as_len, as_min, as_max, as_copy, bytesAt, macL, macA, icmpA, datA, arpA, pktL, pktA, segL, segA, flowL, flowA, turnL, turnA, frameA, u8A, u16A, u32A, i64, boA, fr_false, fr_nil, fr_cons, List.contains_nil, List.contains_cons, Bool.or_false, Bool.false_or, Bool.true_or, Nat.reduceBEq, beq_self_eq_true, Int.cast_ofNat_Int, Bool.and_true, Bool.true_and, Bool.and_false, Bool.false_and, Bool.or_true, BEq.rfl, decide_true, decide_false, Bool.and_self, Int.reduceEq, Int.reduceBEq, Int.reduceNe, Nat.lt_irrefl, Int.reduceDiv, Int.reducePow, Nat.reducePow, hk_some, hopG, hopF, rd, as_makeInterface, as_typeAssert, bs_makeInterface, bs_typeAssert, bs_alloc, bs_box, bs_pick, bs_call, bs_bi, bs_move, bs_assign, bs_nilCheck, bs_binOp, bs_unOp, bs_convert, bs_load, bs_fieldAddr, bs_field, bs_indexAddr, bs_index, bs_extract, bs_build, bs_makeSlice, bs_buildSlice, bs_slice, ob_zero, ob_cons, ob_guard_t, ob_guard_f, oa_zero, oa_cons, rowAt, Nat.reduceMod, aopsD, heapF, as_append, appF, catA, dropT, dropV, lenR, frzW, frzR, frz1, tlN, constT, aw_normal, aw_ret, WRes, evT, lk, putT, GV, gdst, lenF, binF, unF, convF, loadF, partF, cellsF, ovw, fillF, buildF, bytesOf, makeSF, zerosF, intsK, bndF, cutF, cutAF, partsF, argsF, intsOf, okCell, resF, resL, constA, cellA, TK.isAgg, TK.elemOf, IntKind.bits, Value.oneCell', List.length_cons, List.length_nil, List.map_cons, List.map_nil, List.getElem?_cons_zero, List.getElem?_cons_succ, List.getElem?_nil, List.drop_zero, List.drop_succ_cons, List.drop_nil, List.take_zero, List.take_succ_cons, List.take_nil, List.set_cons_zero, List.set_cons_succ, List.nil_append, List.append_eq, List.cons_append, List.replicate_succ, List.replicate_zero, List.flatten_cons, List.flatten_nil, List.append_nil, List.all_cons, List.all_nil, List.toList_toArray, Option.map_some, Option.map_none, Option.bind_some, Option.bind_none, if_true, if_false, ite_true, ite_false, Nat.reduceAdd, Nat.reduceMul, Nat.reduceSub, Nat.reduceEqDiff, Nat.reduceLT, Nat.reduceLeDiff, Nat.reduceDiv, Nat.succ_ne_zero, ne_eq, not_true, not_false_eq_true, true_and, and_true, and_self, false_and, and_false, true_implies, false_implies, implies_true, eq_self, reduceCtorEq, Bool.false_eq_true, Bool.true_eq_false, Bool.not_true, Bool.not_false, ↓reduceIte, Int.toNat_zero, Int.reduceToNat, Int.reduceLT, Int.reduceLE, Int.reduceMul, Int.reduceAdd, Int.reduceSub, Int.reduceNeg, Nat.zero_mul, Nat.mul_one, Nat.zero_add, Nat.add_zero, Nat.one_ne_zero, Nat.zero_lt_succ, Nat.le_refl, Nat.not_lt_zero, TT2, TT3, TT4, TT5, TT9, TT12, TT13, TT20, TT21, TT22, TT23, TT24, TT25, TT26, TT27, TT28, TT29, TT30, TT31, TT32, TT33, TT34, TT35, TT36, TT37, TT38, TT39, TT40, TT42, TT43, TT56, TT63, TT64, TT65, TT66, TT72, TT84, TT86, TT87, TT94, TT110, TT129, TT143, TT146, TT155, ax_skip, ax_exit, ax_ret, ax_seq, ax_block, ax_cond, ax_region_t, ax_region_f, ax_loop, ap_nil, ap_cons, ps_ix, ps_ld, ps_mv, ps_as, ps_bs, ps_ca, pkI, pkL, rowC, cvT, cvV, aregX]))
      refine ACall.intro (fgSplit_a q mtu hqk hm (by omega) (by omega)) ?_
      simp only [at_normal, ao_nil, ao_cons, as_move, as_assign, as_binOp, as_extract, i64, fr_false, List.contains_nil, beq_self_eq_true, hk_some, hopG, rd, aopsD, tlN, constT, evT, lk, putT, binF, constA, cellA, List.getElem?_cons_zero, List.getElem?_cons_succ, Option.map_some, Nat.reduceSub, Nat.reduceEqDiff, Nat.reduceLeDiff, true_and, eq_self, reduceCtorEq, ↓reduceIte, TT56, ax_seq, ax_cond, ax_region_f, aregX]
      cases c3 : decide ((splitP q mtu).2 = 0)
      · simp only [ao_cons, if_t, as_call, fr_false, List.contains_nil, beq_self_eq_true, aopsD, frzW, frzR, tlN, evT, argsF, Nat.reduceSub, Nat.reduceEqDiff, Nat.reduceLeDiff, reduceCtorEq, Bool.not_false, ↓reduceIte, ax_seq, ax_region_f, aregX]
        refine ACall.intro lives43_a ?_
        simp only [at_normal, at_ret, ae_ret, ao_nil, ao_cons, as_assign, boA, beq_self_eq_true, rd, evT, lk, putT, resF, resL, Option.map_some, Option.bind_some, Nat.reduceSub, and_true, and_self, eq_self, ↓reduceIte, ax_ret]
      · rw [dT] at c3
        obtain ⟨hsub, hmay⟩ := splitP_subs q mtu c3
        have hcnt := splitP_cnt q mtu
        simp only [at_normal, ao_nil, ao_cons, if_f, as_assign, fr_false, List.contains_nil, beq_self_eq_true, aopsD, tlN, constT, evT, putT, constA, cellA, Nat.reduceSub, Nat.reduceEqDiff, Nat.reduceLeDiff, reduceCtorEq, Bool.not_true, ↓reduceIte, ax_skip, ax_seq, ax_block, ax_region_f, ax_loop, aregX]
        obtain ⟨L, hL⟩ : ∃ L, L = (splitP q mtu).1 := ⟨_, rfl⟩
        rw [← hL] at hsub hcnt
        simp only [← hL]
        have hpd := pkts_div L
        have hpl := pktsL_len L
        have hLn : L.length ≤ 39 := by omega
        refine .inr ⟨BkK L, fun x => bkI q L bs less ag x.k, fun x => L.length - x.k, ⟨0, by omega⟩, ⟨rfl, le7 rfl rfl rfl rfl rfl rfl rfl trivial trivial trivial trivial trivial trivial (by show (0 : Nat) < 1; decide)⟩, ?_⟩
        rintro ⟨k, hk⟩
        have h0k : (0 : Int) ≤ (k : Int) := by omega
        by_cases hkl : k < L.length
        · obtain ⟨r, hr⟩ : ∃ r, r = L.getD k pktZ := ⟨_, rfl⟩
          have hrm : r ∈ L := by rw [hr]; simp [List.getD, hkl]
          obtain ⟨ra, rb, hrs⟩ := hsub.all r hrm
          obtain ⟨hrk, hro, hrd⟩ := hrs.okp hqk hq0 hqd
          have hat := pkts_at L k hkl
          rw [← hr] at hat
          have htf := take_flat (again less) L k hkl
          rw [← hr] at htf
          have hagc := again_cnt less r hrd
          have hags := (again_subs less r).some
          have hagl : 0 < (again less r).length := by obtain ⟨y, hy⟩ := hags; exact List.length_pos_of_mem hy
          have hc0 : decide ((k : Int) < (L.length : Int)) = true := by simpa using hkl
          have hkI : (k : Int) < (L.length : Int) := by omega
          have hd3 : (k + 1) * 11 ≤ (pktsL L).length := by omega
          have w1 : IntKind.i64.wrap ((k : Int) + 1) = ((k + 1 : Nat) : Int) := by rw [i64_in (by omega) (by omega)]; omega
          have hfl := flat_cnt (again less) 39 (L.take k) (fun x hx => by
            obtain ⟨xa, xb, hxs⟩ := hsub.all x (List.mem_of_mem_take hx)
            exact again_cnt less x (hxs.okp hqk hq0 hqd).2.2)
          rw [List.length_take] at hfl
          have hfl2 : ((L.take k).flatMap (again less)).length ≤ 1521 := by
            refine Nat.le_trans hfl ?_
            have : min k L.length ≤ 39 := by omega
            exact Nat.le_trans (Nat.mul_le_mul_right 39 this) (by omega)
          have okA := pkts_ok (again less r)
          have lA := pktsL_len (again less r)
          have hA0 : 0 < (pktsL (again less r)).length := by omega
          have hA1 : (pktsL (again less r)).length ≤ 1000000 := by omega
          have w10 : IntKind.i64.wrap 1 = 1 := i64_in (by omega) (by omega)
          cases k with
          | zero =>
            have hd00 : decide ((0 : Int) < (L.length : Int)) = true := decide_eq_true (by omega)
            simp only [Nat.zero_mul, Nat.zero_add, List.drop_zero] at hat hd3
            simp only [bkI, hpd, hd00, hat, hd3, at_normal, ao_nil, ao_cons, if_t, as_call, as_move, as_binOp, as_load, as_indexAddr, as_len, pktL, u8A, u16A, u32A, i64, boA, fr_false, List.contains_nil, beq_self_eq_true, hk_some, hopG, hopF, rd, aopsD, frzW, frzR, tlN, evT, lk, putT, lenF, binF, loadF, argsF, TK.isAgg, List.length_cons, List.length_nil, List.drop_zero, List.take_succ_cons, List.take_nil, Option.map_some, Nat.reduceAdd, Nat.reduceMul, Nat.reduceSub, Nat.reduceEqDiff, Nat.reduceLeDiff, true_and, and_self, eq_self, reduceCtorEq, ↓reduceIte, Int.toNat_zero, Int.reduceLE, Nat.zero_mul, Nat.zero_add, Nat.zero_lt_succ, Nat.le_refl, TT3, TT84, TT87, ax_skip, ax_seq, ax_block, ax_cond, ax_region_f, aregX]
            refine ACall.intro (fgSplit_a r less hrk hls (by rw [hro]; omega) (by omega)) ?_
            simp only [at_normal, ao_nil, ao_cons, as_move, as_assign, as_binOp, as_extract, i64, fr_false, List.contains_nil, beq_self_eq_true, hk_some, hopG, rd, aopsD, tlN, constT, evT, lk, putT, binF, constA, cellA, List.getElem?_cons_zero, List.getElem?_cons_succ, Option.map_some, Nat.reduceSub, Nat.reduceEqDiff, Nat.reduceLeDiff, true_and, eq_self, reduceCtorEq, ↓reduceIte, TT56, ax_seq, ax_cond, ax_region_f, aregX]
            cases c4 : decide ((splitP r less).2 = 0)
            · rw [dF] at c4
              have hag1 : again less r = [r] := if_neg c4
              simp only [hat, hd3, w10, at_normal, ab_normal, ao_nil, ao_cons, if_t, as_move, as_assign, as_binOp, as_load, as_indexAddr, as_buildSlice, pktL, u8A, u16A, u32A, boA, fr_false, List.contains_nil, beq_self_eq_true, Bool.and_self, hk_some, hopG, rd, aopsD, as_append, appF, frzW, frzR, tlN, constT, evT, lk, putT, binF, loadF, cellsF, ovw, fillF, makeSF, partsF, okCell, constA, cellA, TK.isAgg, Value.oneCell', List.length_cons, List.length_nil, List.map_cons, List.map_nil, List.drop_zero, List.take_succ_cons, List.take_nil, List.set_cons_zero, List.set_cons_succ, List.nil_append, List.cons_append, List.replicate_succ, List.replicate_zero, List.flatten_cons, List.flatten_nil, List.append_nil, List.all_cons, List.all_nil, Option.map_some, Nat.reduceAdd, Nat.reduceMul, Nat.reduceSub, Nat.reduceEqDiff, Nat.reduceLeDiff, true_and, and_self, eq_self, reduceCtorEq, Bool.not_false, ↓reduceIte, Int.toNat_zero, Int.reduceLE, Int.reduceAdd, Nat.zero_mul, Nat.zero_add, Nat.zero_lt_succ, Nat.le_refl, TT3, TT84, TT87, ax_region_f, aregX]
              first
              | exact ⟨⟨1, by omega⟩, ⟨rfl, le7 rfl rfl rfl rfl rfl (congrArg (fun z => TV.r 1 87 11 (.sl 11 z)) (show pktL r = pktsL ((L.take (0 + 1)).flatMap (again less)) by rw [htf, hag1]; simp [pktsL])) rfl trivial trivial trivial trivial trivial (by show (1 : Nat) < 2; decide) (by show (0 : Nat) < 2; decide)⟩, by show L.length - (1) < L.length - (0); omega⟩
              | exact ⟨by rw [pktsL_len]; omega, ⟨1, by omega⟩, ⟨rfl, le7 rfl rfl rfl rfl rfl (congrArg (fun z => TV.r 1 87 11 (.sl 11 z)) (show pktL r = pktsL ((L.take (0 + 1)).flatMap (again less)) by rw [htf, hag1]; simp [pktsL])) rfl trivial trivial trivial trivial trivial (by show (1 : Nat) < 2; decide) (by show (0 : Nat) < 2; decide)⟩, by show L.length - (1) < L.length - (0); omega⟩
              | exact ⟨by rw [pktsL_len, pktsL_len]; omega, ⟨1, by omega⟩, ⟨rfl, le7 rfl rfl rfl rfl rfl (congrArg (fun z => TV.r 1 87 11 (.sl 11 z)) (show pktL r = pktsL ((L.take (0 + 1)).flatMap (again less)) by rw [htf, hag1]; simp [pktsL])) rfl trivial trivial trivial trivial trivial (by show (1 : Nat) < 2; decide) (by show (0 : Nat) < 2; decide)⟩, by show L.length - (1) < L.length - (0); omega⟩
            · rw [dT] at c4
              have hag1 : (splitP r less).1 = again less r := (if_pos c4).symm
              simp only [hag1, okA, hA0, hA1, w10, at_normal, ab_normal, ao_nil, ao_cons, if_f, as_move, as_assign, as_binOp, fr_false, List.contains_nil, beq_self_eq_true, hk_some, hopG, rd, aopsD, as_append, appF, tlN, constT, evT, lk, putT, binF, constA, cellA, List.length_cons, List.length_nil, List.nil_append, List.cons_append, Option.map_some, Nat.reduceAdd, Nat.reduceSub, Nat.reduceEqDiff, Nat.reduceLeDiff, true_and, and_self, eq_self, reduceCtorEq, Bool.not_true, ↓reduceIte, Int.reduceAdd, Nat.zero_add, Nat.zero_lt_succ, TT3, TT84, TT87, ax_skip, ax_region_f, aregX]
              first
              | exact ⟨⟨1, by omega⟩, ⟨rfl, le7 rfl rfl rfl rfl rfl (congrArg (fun z => TV.r 1 87 11 (.sl 11 z)) (show pktsL (again less r) = pktsL ((L.take (0 + 1)).flatMap (again less)) by rw [htf]; simp)) rfl trivial trivial trivial trivial trivial (by show (1 : Nat) < 2; decide) (by show (0 : Nat) < 2; decide)⟩, by show L.length - (1) < L.length - (0); omega⟩
              | exact ⟨by rw [pktsL_len]; omega, ⟨1, by omega⟩, ⟨rfl, le7 rfl rfl rfl rfl rfl (congrArg (fun z => TV.r 1 87 11 (.sl 11 z)) (show pktsL (again less r) = pktsL ((L.take (0 + 1)).flatMap (again less)) by rw [htf]; simp)) rfl trivial trivial trivial trivial trivial (by show (1 : Nat) < 2; decide) (by show (0 : Nat) < 2; decide)⟩, by show L.length - (1) < L.length - (0); omega⟩
              | exact ⟨by rw [pktsL_len, pktsL_len]; omega, ⟨1, by omega⟩, ⟨rfl, le7 rfl rfl rfl rfl rfl (congrArg (fun z => TV.r 1 87 11 (.sl 11 z)) (show pktsL (again less r) = pktsL ((L.take (0 + 1)).flatMap (again less)) by rw [htf]; simp)) rfl trivial trivial trivial trivial trivial (by show (1 : Nat) < 2; decide) (by show (0 : Nat) < 2; decide)⟩, by show L.length - (1) < L.length - (0); omega⟩
          | succ k =>
            have hlA := pktsL_len ((L.take (k + 1)).flatMap (again less))
            have hlB : ((L.take (k + 1)).flatMap (again less)).length * 11 + (pktsL (again less r)).length ≤ 1000000 := by omega
            simp only [bkI, hpd, hat, hd3, h0k, hkI, Int.toNat_natCast, at_normal, ao_nil, ao_cons, if_t, as_call, as_move, as_binOp, as_load, as_indexAddr, as_len, pktL, u8A, u16A, u32A, i64, boA, fr_false, List.contains_nil, beq_self_eq_true, decide_true, hk_some, hopG, hopF, rd, aopsD, frzW, frzR, tlN, evT, lk, putT, lenF, binF, loadF, argsF, TK.isAgg, List.length_cons, List.length_nil, List.take_succ_cons, List.take_nil, Option.map_some, Nat.reduceAdd, Nat.reduceSub, Nat.reduceEqDiff, Nat.reduceLeDiff, true_and, and_self, eq_self, reduceCtorEq, ↓reduceIte, Nat.zero_add, Nat.zero_lt_succ, Nat.le_refl, TT3, TT84, TT87, ax_skip, ax_seq, ax_block, ax_cond, ax_region_f, aregX]
            refine ACall.intro (fgSplit_a r less hrk hls (by rw [hro]; omega) (by omega)) ?_
            simp only [at_normal, ao_nil, ao_cons, as_move, as_assign, as_binOp, as_extract, i64, fr_false, List.contains_nil, beq_self_eq_true, hk_some, hopG, rd, aopsD, tlN, constT, evT, lk, putT, binF, constA, cellA, List.getElem?_cons_zero, List.getElem?_cons_succ, Option.map_some, Nat.reduceSub, Nat.reduceEqDiff, Nat.reduceLeDiff, true_and, eq_self, reduceCtorEq, ↓reduceIte, TT56, ax_seq, ax_cond, ax_region_f, aregX]
            cases c4 : decide ((splitP r less).2 = 0)
            · rw [dF] at c4
              have hag1 : again less r = [r] := if_neg c4
              simp only [hat, hd3, h0k, Int.toNat_natCast, w1, at_normal, ab_normal, ao_nil, ao_cons, if_t, as_move, as_assign, as_binOp, as_load, as_indexAddr, as_buildSlice, pktL, u8A, u16A, u32A, boA, fr_false, List.contains_nil, beq_self_eq_true, Bool.and_self, hk_some, hopG, rd, aopsD, as_append, appF, catA, dropT, dropV, frzW, frzR, tlN, constT, evT, lk, putT, binF, loadF, cellsF, ovw, fillF, makeSF, partsF, okCell, constA, cellA, TK.isAgg, Value.oneCell', List.length_cons, List.length_nil, List.map_cons, List.map_nil, List.getElem?_cons_zero, List.getElem?_cons_succ, List.take_succ_cons, List.take_nil, List.set_cons_zero, List.set_cons_succ, List.replicate_succ, List.replicate_zero, List.flatten_cons, List.flatten_nil, List.append_nil, List.all_cons, List.all_nil, Option.map_some, Nat.reduceAdd, Nat.reduceMul, Nat.reduceSub, Nat.reduceEqDiff, Nat.reduceLeDiff, true_and, and_self, eq_self, reduceCtorEq, Bool.not_false, ↓reduceIte, Nat.zero_mul, Nat.zero_add, Nat.zero_lt_succ, Nat.le_refl, TT3, TT84, TT87, ax_region_f, aregX]
              first
              | exact ⟨⟨k + 1 + 1, by omega⟩, ⟨rfl, le7 rfl rfl rfl rfl rfl (congrArg (fun z => TV.r 1 87 11 (.sl 11 z)) (show pktsL ((L.take (k + 1)).flatMap (again less)) ++ pktL r = pktsL ((L.take (k + 1 + 1)).flatMap (again less)) by rw [htf, hag1, pkts_app]; simp [pktsL])) rfl trivial trivial trivial trivial trivial (by show (1 : Nat) < 2; decide) (by show (0 : Nat) < 2; decide)⟩, by show L.length - (k + 1 + 1) < L.length - (k + 1); omega⟩
              | exact ⟨by rw [pktsL_len]; omega, ⟨k + 1 + 1, by omega⟩, ⟨rfl, le7 rfl rfl rfl rfl rfl (congrArg (fun z => TV.r 1 87 11 (.sl 11 z)) (show pktsL ((L.take (k + 1)).flatMap (again less)) ++ pktL r = pktsL ((L.take (k + 1 + 1)).flatMap (again less)) by rw [htf, hag1, pkts_app]; simp [pktsL])) rfl trivial trivial trivial trivial trivial (by show (1 : Nat) < 2; decide) (by show (0 : Nat) < 2; decide)⟩, by show L.length - (k + 1 + 1) < L.length - (k + 1); omega⟩
              | exact ⟨by rw [pktsL_len, pktsL_len]; omega, ⟨k + 1 + 1, by omega⟩, ⟨rfl, le7 rfl rfl rfl rfl rfl (congrArg (fun z => TV.r 1 87 11 (.sl 11 z)) (show pktsL ((L.take (k + 1)).flatMap (again less)) ++ pktL r = pktsL ((L.take (k + 1 + 1)).flatMap (again less)) by rw [htf, hag1, pkts_app]; simp [pktsL])) rfl trivial trivial trivial trivial trivial (by show (1 : Nat) < 2; decide) (by show (0 : Nat) < 2; decide)⟩, by show L.length - (k + 1 + 1) < L.length - (k + 1); omega⟩
            · rw [dT] at c4
              have hag1 : (splitP r less).1 = again less r := (if_pos c4).symm
              simp only [hag1, okA, hlA, hlB, w1, at_normal, ab_normal, ao_nil, ao_cons, if_f, as_move, as_assign, as_binOp, fr_false, List.contains_nil, beq_self_eq_true, hk_some, hopG, rd, aopsD, as_append, appF, catA, dropT, dropV, tlN, constT, evT, lk, putT, binF, constA, cellA, List.length_cons, List.length_nil, List.getElem?_cons_zero, List.getElem?_cons_succ, Option.map_some, Nat.reduceAdd, Nat.reduceSub, Nat.reduceEqDiff, Nat.reduceLeDiff, true_and, and_self, eq_self, reduceCtorEq, Bool.not_true, ↓reduceIte, Nat.zero_add, Nat.zero_lt_succ, TT3, TT84, TT87, ax_skip, ax_region_f, aregX]
              first
              | exact ⟨⟨k + 1 + 1, by omega⟩, ⟨rfl, le7 rfl rfl rfl rfl rfl (congrArg (fun z => TV.r 1 87 11 (.sl 11 z)) (show pktsL ((L.take (k + 1)).flatMap (again less)) ++ pktsL (again less r) = pktsL ((L.take (k + 1 + 1)).flatMap (again less)) by rw [htf, pkts_app])) rfl trivial trivial trivial trivial trivial (by show (1 : Nat) < 2; decide) (by show (0 : Nat) < 2; decide)⟩, by show L.length - (k + 1 + 1) < L.length - (k + 1); omega⟩
              | exact ⟨by rw [pktsL_len]; omega, ⟨k + 1 + 1, by omega⟩, ⟨rfl, le7 rfl rfl rfl rfl rfl (congrArg (fun z => TV.r 1 87 11 (.sl 11 z)) (show pktsL ((L.take (k + 1)).flatMap (again less)) ++ pktsL (again less r) = pktsL ((L.take (k + 1 + 1)).flatMap (again less)) by rw [htf, pkts_app])) rfl trivial trivial trivial trivial trivial (by show (1 : Nat) < 2; decide) (by show (0 : Nat) < 2; decide)⟩, by show L.length - (k + 1 + 1) < L.length - (k + 1); omega⟩
              | exact ⟨by rw [pktsL_len, pktsL_len]; omega, ⟨k + 1 + 1, by omega⟩, ⟨rfl, le7 rfl rfl rfl rfl rfl (congrArg (fun z => TV.r 1 87 11 (.sl 11 z)) (show pktsL ((L.take (k + 1)).flatMap (again less)) ++ pktsL (again less r) = pktsL ((L.take (k + 1 + 1)).flatMap (again less)) by rw [htf, pkts_app])) rfl trivial trivial trivial trivial trivial (by show (1 : Nat) < 2; decide) (by show (0 : Nat) < 2; decide)⟩, by show L.length - (k + 1 + 1) < L.length - (k + 1); omega⟩
        · have hL0 : 0 < L.length := by obtain ⟨y, hy⟩ := hsub.some; exact List.length_pos_of_mem hy
          obtain ⟨m, rfl⟩ : ∃ m, k = m + 1 := ⟨k - 1, by omega⟩
          have e0 : L.take (m + 1) = L := List.take_of_length_le (by omega)
          have hc0 : decide (((m + 1 : Nat) : Int) < (L.length : Int)) = false := decide_eq_false (by omega)
          obtain ⟨A, hA⟩ : ∃ A, A = L.flatMap (again less) := ⟨_, rfl⟩
          have hAs : Subs q A := by rw [hA]; exact hsub.flat _ (again_subs less)
          have hAn : A.length ≤ 1521 := by
            rw [hA]
            refine Nat.le_trans (flat_cnt (again less) 39 L (fun x hx => ?_)) (Nat.le_trans (Nat.mul_le_mul_right 39 hLn) (by omega))
            obtain ⟨xa, xb, hxs⟩ := hsub.all x hx
            exact again_cnt less x (hxs.okp hqk hq0 hqd).2.2
          have hpA := pkts_div A
          have hlA := pktsL_len A
          simp only [bkI, hpd, hc0, e0, ← hA, at_normal, at_exit, ab_exit, ao_nil, ao_cons, ao_guard_t, if_f, as_move, as_binOp, as_len, pktL, u8A, u16A, u32A, i64, boA, fr_false, List.contains_nil, beq_self_eq_true, hk_some, hopG, hopF, rd, aopsD, tlN, constT, evT, lk, putT, GV, gdst, lenF, binF, constA, cellA, Option.map_some, Nat.reduceSub, Nat.reduceEqDiff, Nat.reduceLeDiff, true_and, eq_self, reduceCtorEq, ↓reduceIte, Nat.zero_lt_succ, TT3, TT84, ax_exit, ax_seq, ax_cond, ax_region_f, aregX]
          cases c5 : decide ((0 : Int) ≤ ag)
          · simp only [at_normal, ao_nil, ao_cons, ao_guard_t, sk_at, pk_at, if_f, as_pick, as_call, as_move, fr_false, List.contains_nil, beq_self_eq_true, rd, aopsD, frzW, frzR, frz1, tlN, constT, evT, lk, putT, GV, gdst, argsF, constA, cellA, List.getElem?_cons_zero, List.getElem?_cons_succ, Option.map_some, Nat.reduceSub, Nat.reduceEqDiff, Nat.reduceLeDiff, eq_self, reduceCtorEq, ↓reduceIte, ax_skip, ax_seq, ax_cond, ax_region_f, aregX]
            refine ACall.intro (refOrder_a A bs (by omega)) ?_
            simp only [ao_cons, as_call, beq_self_eq_true, rd, frzW, frzR, evT, lk, putT, argsF, Option.map_some, Nat.reduceSub, eq_self, ↓reduceIte]
            have hS : Subs q (ordP A bs) := (hAs).congr (fun x => fold_mem _ _ x)
            have hJ := joinP_back q (ordP A bs) hS hq0 c1 hmay
            refine ACall.intro (fgJoin_a (ordP A bs) (hS.ok hqk hq0 hqd hqo (by rw [ordP, fold_len]; omega))) ?_
            rw [hJ]
            simp only [at_normal, ao_nil, ao_cons, ao_guard_t, st_at, if_t, as_call, as_alloc, as_store, as_move, as_assign, as_binOp, as_load, as_extract, pktL, pktA, u8A, u16A, u32A, i64, boA, fr_false, List.contains_nil, beq_self_eq_true, decide_true, Bool.and_self, hk_some, hopG, rd, aopsD, heapF, frzW, frzR, tlN, constT, evT, lk, putT, GV, gdst, binF, loadF, cellsF, ovw, argsF, okCell, constA, cellA, TK.isAgg, Value.oneCell', List.length_cons, List.length_nil, List.getElem?_cons_zero, List.getElem?_cons_succ, List.drop_zero, List.take_succ_cons, List.take_nil, List.set_cons_zero, List.set_cons_succ, List.nil_append, List.cons_append, List.all_cons, List.all_nil, Option.map_some, Nat.reduceAdd, Nat.reduceSub, Nat.reduceEqDiff, Nat.reduceLeDiff, true_and, and_self, eq_self, reduceCtorEq, ↓reduceIte, Nat.zero_add, Nat.le_refl, TT56, TT87, ax_seq, ax_region_f, aregX]
            refine ACall.intro (refSame06_self q) ?_
            simp only [ao_cons, ao_guard_t, st_at, pk_at, if_t, as_pick, as_call, as_move, boA, beq_self_eq_true, frzW, frzR, evT, lk, putT, GV, gdst, argsF, Nat.reduceSub, Nat.reduceEqDiff, eq_self, ↓reduceIte]
            refine ACall.intro lives43_a ?_
            simp only [at_normal, ae_ret, ao_nil, ao_cons, pk_at, if_t, as_pick, as_assign, boA, beq_self_eq_true, rd, evT, lk, putT, resF, resL, Option.map_some, Option.bind_some, Nat.reduceSub, Nat.reduceEqDiff, and_true, and_self, eq_self, ↓reduceIte, ax_ret]
          · rw [dT] at c5
            obtain ⟨j, rfl⟩ := Int.eq_ofNat_of_zero_le c5
            simp only [hpA, at_normal, ao_nil, ao_cons, ao_guard_t, st_at, pk_at, if_t, as_pick, as_move, as_binOp, as_len, beq_self_eq_true, hk_some, hopG, hopF, rd, lenR, evT, lk, putT, GV, gdst, binF, Option.map_some, Nat.reduceSub, Nat.reduceEqDiff, true_and, eq_self, ↓reduceIte, Nat.zero_lt_succ, TT3, TT84, ax_cond]
            cases c6 : decide ((j : Int) < (A.length : Int))
            · simp only [at_normal, ao_cons, if_f, as_call, as_move, fr_false, List.contains_nil, beq_self_eq_true, rd, aopsD, frzW, frzR, frz1, tlN, evT, lk, putT, argsF, List.getElem?_cons_zero, List.getElem?_cons_succ, Option.map_some, Nat.reduceSub, Nat.reduceEqDiff, Nat.reduceLeDiff, eq_self, reduceCtorEq, ↓reduceIte, ax_skip, ax_seq, ax_region_f, aregX]
              refine ACall.intro (refOrder_a A bs (by omega)) ?_
              simp only [ao_cons, as_call, beq_self_eq_true, rd, frzW, frzR, evT, lk, putT, argsF, Option.map_some, Nat.reduceSub, eq_self, ↓reduceIte]
              have hS : Subs q (ordP A bs) := (hAs).congr (fun x => fold_mem _ _ x)
              have hJ := joinP_back q (ordP A bs) hS hq0 c1 hmay
              refine ACall.intro (fgJoin_a (ordP A bs) (hS.ok hqk hq0 hqd hqo (by rw [ordP, fold_len]; omega))) ?_
              rw [hJ]
              simp only [at_normal, ao_nil, ao_cons, ao_guard_t, st_at, if_t, as_call, as_alloc, as_store, as_move, as_assign, as_binOp, as_load, as_extract, pktL, pktA, u8A, u16A, u32A, i64, boA, fr_false, List.contains_nil, beq_self_eq_true, decide_true, Bool.and_self, hk_some, hopG, rd, aopsD, heapF, frzW, frzR, tlN, constT, evT, lk, putT, GV, gdst, binF, loadF, cellsF, ovw, argsF, okCell, constA, cellA, TK.isAgg, Value.oneCell', List.length_cons, List.length_nil, List.getElem?_cons_zero, List.getElem?_cons_succ, List.drop_zero, List.take_succ_cons, List.take_nil, List.set_cons_zero, List.set_cons_succ, List.nil_append, List.cons_append, List.all_cons, List.all_nil, Option.map_some, Nat.reduceAdd, Nat.reduceSub, Nat.reduceEqDiff, Nat.reduceLeDiff, true_and, and_self, eq_self, reduceCtorEq, ↓reduceIte, Nat.zero_add, Nat.le_refl, TT56, TT87, ax_seq, ax_region_f, aregX]
              refine ACall.intro (refSame06_self q) ?_
              simp only [ao_cons, ao_guard_t, st_at, pk_at, if_t, as_pick, as_call, as_move, boA, beq_self_eq_true, frzW, frzR, evT, lk, putT, GV, gdst, argsF, Nat.reduceSub, Nat.reduceEqDiff, eq_self, ↓reduceIte]
              refine ACall.intro lives43_a ?_
              simp only [at_normal, ae_ret, ao_nil, ao_cons, pk_at, if_t, as_pick, as_assign, boA, beq_self_eq_true, rd, evT, lk, putT, resF, resL, Option.map_some, Option.bind_some, Nat.reduceSub, Nat.reduceEqDiff, and_true, and_self, eq_self, ↓reduceIte, ax_ret]
            · rw [dT] at c6
              have hj : j < A.length := by omega
              have hatj := pkts_at A j hj
              obtain ⟨x, hx⟩ : ∃ x, x = A.getD j pktZ := ⟨_, rfl⟩
              have hxm : x ∈ A := by rw [hx]; simp [List.getD, hj]
              rw [← hx] at hatj
              have h0j : (0 : Int) ≤ (j : Int) := by omega
              have hj1 : (j + 1) * 11 ≤ (pktsL A).length := by omega
              have hj2 : 11 ≤ ((pktsL A).drop (j * 11)).length := by rw [List.length_drop]; omega
              have hj3 : (pktsL A).length ≤ 999989 := by omega
              have hsn := pkts_snoc A x
              have hFs : Subs q (A ++ [x]) := hAs.congr (fun y => by
                simp only [List.mem_append, List.mem_singleton]
                constructor
                · rintro (h | rfl)
                  · exact h
                  · exact hxm
                · exact .inl)
              have hFn : (A ++ [x]).length ≤ 1522 := by simp; omega
              simp only [h0j, hj1, hj2, hj3, hatj, Int.toNat_natCast, at_normal, ao_cons, if_t, as_call, as_move, as_assign, as_buildSlice, pktL, u8A, u16A, u32A, boA, fr_false, List.contains_nil, beq_self_eq_true, Bool.and_self, hk_some, hopG, rd, aopsD, as_append, appF, catA, dropT, dropV, frzW, frzR, frz1, tlN, evT, lk, putT, loadF, cellsF, ovw, fillF, makeSF, partsF, argsF, okCell, TK.isAgg, Value.oneCell', List.length_cons, List.length_nil, List.map_cons, List.map_nil, List.getElem?_cons_zero, List.getElem?_cons_succ, List.set_cons_zero, List.set_cons_succ, List.replicate_succ, List.replicate_zero, List.flatten_cons, List.flatten_nil, List.append_nil, List.all_cons, List.all_nil, Option.map_some, Nat.reduceAdd, Nat.reduceMul, Nat.reduceSub, Nat.reduceEqDiff, Nat.reduceLeDiff, true_and, and_self, eq_self, reduceCtorEq, ↓reduceIte, Nat.zero_mul, Nat.zero_add, Nat.zero_lt_succ, Nat.le_refl, TT84, TT87, ax_seq, ax_region_f, ap_nil, ap_cons, ps_ix, ps_ld, ps_mv, ps_as, ps_bs, ps_ca, pkI, pkL, rowC, aregX]
              have hord := refOrder_a (A ++ [x]) bs (by omega)
              rw [hsn] at hord
              refine ACall.intro hord ?_
              simp only [ao_cons, as_call, beq_self_eq_true, rd, frzW, frzR, evT, lk, putT, argsF, Option.map_some, Nat.reduceSub, eq_self, ↓reduceIte]
              have hS : Subs q (ordP (A ++ [x]) bs) := (hFs).congr (fun x => fold_mem _ _ x)
              have hJ := joinP_back q (ordP (A ++ [x]) bs) hS hq0 c1 hmay
              refine ACall.intro (fgJoin_a (ordP (A ++ [x]) bs) (hS.ok hqk hq0 hqd hqo (by rw [ordP, fold_len]; omega))) ?_
              rw [hJ]
              simp only [at_normal, ao_nil, ao_cons, ao_guard_t, st_at, if_t, as_call, as_alloc, as_store, as_move, as_assign, as_binOp, as_load, as_extract, pktL, pktA, u8A, u16A, u32A, i64, boA, fr_false, List.contains_nil, beq_self_eq_true, decide_true, Bool.and_self, hk_some, hopG, rd, aopsD, heapF, frzW, frzR, tlN, constT, evT, lk, putT, GV, gdst, binF, loadF, cellsF, ovw, argsF, okCell, constA, cellA, TK.isAgg, Value.oneCell', List.length_cons, List.length_nil, List.getElem?_cons_zero, List.getElem?_cons_succ, List.drop_zero, List.take_succ_cons, List.take_nil, List.set_cons_zero, List.set_cons_succ, List.nil_append, List.cons_append, List.all_cons, List.all_nil, Option.map_some, Nat.reduceAdd, Nat.reduceSub, Nat.reduceEqDiff, Nat.reduceLeDiff, true_and, and_self, eq_self, reduceCtorEq, ↓reduceIte, Nat.zero_add, Nat.le_refl, TT56, TT87, ax_seq, ax_region_f, aregX]
              refine ACall.intro (refSame06_self q) ?_
              simp only [ao_cons, ao_guard_t, st_at, pk_at, if_t, as_pick, as_call, as_move, boA, beq_self_eq_true, frzW, frzR, evT, lk, putT, GV, gdst, argsF, Nat.reduceSub, Nat.reduceEqDiff, eq_self, ↓reduceIte]
              refine ACall.intro lives43_a ?_
              simp only [at_normal, ae_ret, ao_nil, ao_cons, pk_at, if_t, as_pick, as_assign, boA, beq_self_eq_true, rd, evT, lk, putT, resF, resL, Option.map_some, Option.bind_some, Nat.reduceSub, Nat.reduceEqDiff, and_true, and_self, eq_self, ↓reduceIte, ax_ret]
    · simp only [ao_cons, if_t, as_call, fr_false, List.contains_nil, beq_self_eq_true, aopsD, frzW, frzR, tlN, evT, argsF, Nat.reduceSub, Nat.reduceEqDiff, Nat.reduceLeDiff, reduceCtorEq, ↓reduceIte, ax_seq, ax_region_f, aregX]
      repeat' (first
        | refine ACall.intro lives43_a ?_
        | refine AIf.intro (fun c => absurd (c1.symm.trans c) (by decide)) (fun _ => ?_)
        | (simp only [at_normal, at_ret, ae_ret, ao_nil, ao_cons, as_assign, boA, beq_self_eq_true, rd, evT, lk, putT, resF, resL, Option.map_some, Option.bind_some, Nat.reduceSub, and_true, and_self, eq_self, ↓reduceIte, ax_ret]))
end Go.Proofs.Ythjojkkapboonaa
