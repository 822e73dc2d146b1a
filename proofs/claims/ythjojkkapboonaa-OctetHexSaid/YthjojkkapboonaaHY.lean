/- octet.Unhex, over the runes of a text. -/
import Derived.Test.YthjojkkapboonaaHX
namespace Go.Proofs.Ythjojkkapboonaa
set_option linter.unusedSimpArgs false
set_option linter.unusedVariables false
open Go.RowKit

def okV (x : UInt8) : Bool := decide (0 ≤ val x)
/-- The bytes so far: pairs that are whole, and a first figure alone. -/
def outC (l : List UInt8) (p j : Nat) : UInt8 := if 2 * j + 1 < p then u8 (val (l.getD (2 * j) 0) * 16 + val (l.getD (2 * j + 1) 0)) else if 2 * j < p then u8 (val (l.getD (2 * j) 0)) else 0
def outAt (l : List UInt8) (p : Nat) : List UInt8 := (List.range (l.length / 2)).map (outC l p)
theorem outAt_len (l : List UInt8) (p : Nat) : (outAt l p).length = l.length / 2 := by simp [outAt]
theorem outAt_0 (l : List UInt8) : outAt l 0 = List.replicate (l.length / 2) 0 := by
  apply List.ext_getElem
  · simp [outAt]
  · intro i h1 h2
    simp [outAt, outC]
theorem outAt_get (l : List UInt8) (p j : Nat) (h : j < l.length / 2) : (outAt l p).getD j 0 = outC l p j := by simp [outAt, List.getD, h]
theorem outAt_set (l : List UInt8) (p : Nat) (h : p < l.length) (he : l.length % 2 = 0) : (outAt l p).set (p / 2) (outC l (p + 1) (p / 2)) = outAt l (p + 1) := by
  apply List.ext_getElem
  · simp [outAt]
  · intro i h1 h2
    simp only [outAt, List.length_map, List.length_range, List.length_set] at h1 h2
    rw [List.getElem_set]
    split
    · rename_i hi
      subst hi
      simp [outAt]
    · rename_i hi
      simp only [outAt, List.getElem_map, List.getElem_range]
      unfold outC
      by_cases g1 : 2 * i + 1 < p
      · rw [if_pos g1, if_pos (by omega)]
      · rw [if_neg g1]
        by_cases g2 : 2 * i < p
        · have : 2 * i + 1 = p := by omega
          exfalso
          omega
        · rw [if_neg g2, if_neg (by omega), if_neg (by omega)]
/-- The bytes that a text is, or none. -/
def unhexP (l : List UInt8) : List UInt8 × Int := if l.length % 2 = 1 then ([], 3) else if l.all okV then (outAt l l.length, 0) else ([], 3)
theorem or_16u {a b : Int} (ha : 0 ≤ a ∧ a ≤ 15) (hb : 0 ≤ b ∧ b ≤ 15) : bits .or .u8 (a * 16) b = a * 16 + b :=
  bits_join .u8 8 (by decide) (fun n h1 h2 => by rw [IntKind.wrap_u8]; omega) 4 (a * 16) b (by omega) (by omega) (by omega) (by omega) (by omega) (by omega)
theorem leB2 {E : AE} {L : Nat} {t0 t1 : Nat} {v0 v1 : TV} (h0 : lk E.t t0 = v0) (h1 : lk E.t t1 = v1) (p0 : PtOk L v0) (p1 : PtOk L v1) :
    ∀ p ∈ [(t0, v0), (t1, v1)], lk E.t p.1 = p.2 ∧ PtOk L p.2 := by
  intro p hp
  simp only [List.mem_cons, List.not_mem_nil, or_false] at hp
  rcases hp with rfl | rfl
  · exact ⟨h0, p0⟩
  · exact ⟨h1, p1⟩
theorem outC_step (l : List UInt8) (p : Nat) (h : p < l.length) (hok : ∀ x ∈ l.take p, 0 ≤ val x) (hx : 0 ≤ val (l.getD p 0)) :
    ∃ v : Int, ((outC l p (p / 2)).toNat : Int) = v ∧ (0 ≤ v ∧ v ≤ 15) ∧ u8 (v * 16 + val (l.getD p 0)) = outC l (p + 1) (p / 2) := by
  have hb := val_bd (l.getD p 0)
  by_cases he : p % 2 = 0
  · refine ⟨0, ?_, by omega, ?_⟩
    · unfold outC
      rw [if_neg (by omega), if_neg (by omega)]
      rfl
    · unfold outC
      rw [if_neg (by omega), if_pos (by omega), show 2 * (p / 2) = p by omega, Int.zero_mul, Int.zero_add]
  · have h1 : 2 * (p / 2) + 1 = p := by omega
    have hm : l.getD (2 * (p / 2)) 0 ∈ l.take p := by
      have : 2 * (p / 2) < p := by omega
      rw [List.getD_eq_getElem?_getD, List.getElem?_eq_getElem (by omega)]
      simp only [Option.getD_some]
      exact List.mem_take_iff_getElem.2 ⟨2 * (p / 2), by omega, rfl⟩
    have h0 := hok _ hm
    have hb0 := val_bd (l.getD (2 * (p / 2)) 0)
    refine ⟨val (l.getD (2 * (p / 2)) 0), ?_, by omega, ?_⟩
    · unfold outC
      rw [if_neg (by omega), if_pos (by omega), u8_toNat]
      omega
    · unfold outC
      rw [if_pos (by omega), h1]
structure UnK (l : List UInt8) where
  p : Nat
  hp : p ≤ l.length
  ok : ∀ x ∈ l.take p, 0 ≤ val x
def unI (s : ByteArray) (l : List UInt8) (p : Nat) : AE := ⟨[(17, .it 1 s p), (4, .s 0 0 (l.length / 2))], [(true, bytesL (outAt l p)), (true, [])]⟩
theorem byte_at (s : ByteArray) (p : Nat) (h : p < s.size) : s.toList.getD p 0 = s[p] := by
  obtain ⟨⟨d⟩⟩ := s
  have e : (ByteArray.mk ⟨d⟩).toList = d := ByteArray.toList_mk d
  rw [e]
  have hj : p < d.length := h
  simp [List.getD, hj]
  rfl
theorem size_toList (s : ByteArray) : s.toList.length = s.size := by
  obtain ⟨⟨d⟩⟩ := s
  have e : (ByteArray.mk ⟨d⟩).toList = d := ByteArray.toList_mk d
  rw [e]; rfl
set_option maxRecDepth 100000 in
set_option maxHeartbeats 2000000 in
theorem unhex_a (s : ByteArray) (hl : s.size ≤ 1000000) : ASpec Try.prog 25 [.one (.string s)] (.tup [.bs (unhexP s.toList).1, i64 (unhexP s.toList).2]) := by
  obtain ⟨l, hls⟩ : ∃ l, l = s.toList := ⟨_, rfl⟩
  have hsz : s.size = l.length := by rw [hls, size_toList]
  rw [← hls]
  have hm : ((l.length : Int)).tmod 2 = ((l.length % 2 : Nat) : Int) := by rw [tmodN (by omega)]; omega
  have hd : ((l.length : Int)).tdiv 2 = ((l.length / 2 : Nat) : Int) := by rw [tdivN (by omega)]; omega
  have hw : IntKind.i64.wrap ((l.length / 2 : Nat) : Int) = ((l.length / 2 : Nat) : Int) := i64_in (by omega) (by omega)
  have q0 : (0 : Int) ≤ ((l.length / 2 : Nat) : Int) := by omega
  have q1 : ((l.length / 2 : Nat) : Int) ≤ 1000000 := by omega
  refine ASpec.of_body TT_ok Try.mixed _ [.tmp 2, .tmp 3] ([], []) Try.func25 (by kernel_rfl) rfl rfl (by simp only [Try.ntmps25, List.length_cons, List.length_nil]; omega) rfl (by kernel_rfl) ?_
  simp only [hsz, hm, argE_cons, argE_nil, ac_seq, ac_cond, ac_region, at_normal, ao_nil, ao_cons, as_move, as_assign, as_binOp, as_len, i64, fr_false, List.contains_nil, beq_self_eq_true, Int.reduceEq, hk_some, hopG, hopF, rd, aopsD, constT, evT, lk, putT, lenF, binF, constA, cellA, Option.map_some, Nat.reduceSub, Nat.reduceLeDiff, Nat.succ_ne_zero, ne_eq, not_false_eq_true, true_and, and_self, eq_self, Bool.false_eq_true, ↓reduceIte, Nat.zero_add, TT3, TT9]
  cases c1 : decide (((l.length % 2 : Nat) : Int) = 0)
  · rw [dF] at c1
    simp only [ac_ret, ac_seq, ac_region, at_normal, at_ret, ae_ret, ao_nil, ao_cons, if_t, as_assign, fr_false, List.contains_nil, beq_self_eq_true, rd, aopsD, constT, evT, lk, putT, resF, resL, constA, cellA, Option.map_some, Option.bind_some, Nat.reduceSub, Nat.reduceEqDiff, Nat.reduceLeDiff, true_and, and_true, eq_self, Bool.false_eq_true, Bool.not_false, ↓reduceIte]
    have P : unhexP l = ([], 3) := if_pos (by omega)
    rw [P]
  · rw [dT] at c1
    have he : l.length % 2 = 0 := by omega
    have P : unhexP l = if l.all okV then (outAt l l.length, 0) else ([], 3) := if_neg (by omega)
    simp only [hsz, hd, hw, q0, q1, Int.toNat_natCast, ac_skip, ac_seq, ac_block, ac_region, ac_loop, at_normal, ao_nil, ao_cons, if_f, as_move, as_assign, as_binOp, as_makeSlice, an_tmp, as_range, as_len, fr_false, List.contains_nil, beq_self_eq_true, Int.reduceEq, hk_some, hopG, hopF, rd, aopsD, constT, evT, lk, putT, lenF, binF, constA, cellA, List.length_cons, List.length_nil, List.nil_append, List.cons_append, Option.map_some, Nat.reduceSub, Nat.reduceLeDiff, Nat.succ_ne_zero, ne_eq, not_false_eq_true, true_and, and_self, eq_self, Bool.false_eq_true, Bool.not_true, ↓reduceIte, Nat.zero_add, TT3, TT5, TT9, TT38]
    refine .inr ⟨UnK l, fun x => unI s l x.p, fun x => l.length - x.p, ⟨0, by omega, by simp⟩, ⟨congrArg (fun z => [(true, bytesL z), (true, [])]) (outAt_0 l).symm, leB2 rfl rfl (by show (1 : Nat) < 2; decide) (by show (0 : Nat) < 2; decide)⟩, ?_⟩
    rintro ⟨p, hp, hok⟩
    simp only [unI, ac_seq, ac_region, ao_cons, as_next, fr_false, List.contains_nil, beq_self_eq_true, aopsD, evT, lk, List.getElem?_cons_zero, List.getElem?_cons_succ, Nat.reduceSub, Nat.reduceLeDiff, eq_self, Bool.false_eq_true, ↓reduceIte]
    by_cases hpl : p < l.length
    · refine in_some (by omega) ?_
      have hps : p < s.size := by omega
      obtain ⟨x, hx⟩ : ∃ x, x = l.getD p 0 := ⟨_, rfl⟩
      have hxs : s[p] = x := by rw [hx, hls, byte_at s p hps]
      have hxm : x ∈ l := by rw [hx]; simp [List.getD, hpl]
      have hbad : ¬ 0 ≤ val x → unhexP l = ([], 3) := fun h => by
        rw [P, if_neg]
        intro ha
        have := List.all_eq_true.1 ha x hxm
        exact h (by simpa [okV] using this)
      by_cases h128 : x.toNat < 128
      · rw [decode_ascii s p hps (by rw [hxs]; exact h128)]
        simp only [hxs]
        have hux : u8 (x.toNat : Int) = x := by
          apply UInt8.toNat_inj.1
          have := u8_toNat (x.toNat : Int)
          omega
        have wx : IntKind.u8.wrap (x.toNat : Int) = (x.toNat : Int) := by rw [IntKind.wrap_u8]; omega
        simp only [wx, ac_skip, ac_seq, ac_block, ac_cond, ac_region, at_normal, ao_nil, ao_cons, if_t, as_call, as_move, as_assign, as_convert, as_extract, goT, goV, fr_false, List.contains_nil, beq_self_eq_true, hk_some, hopG, rd, aopsD, dropV, frzW, frzR, constT, evT, lk, putT, convF, argsF, constA, cellA, List.getElem?_cons_zero, List.getElem?_cons_succ, Option.map_some, Nat.reduceSub, Nat.reduceEqDiff, Nat.reduceLeDiff, true_and, eq_self, reduceCtorEq, Bool.false_eq_true, ↓reduceIte, TT5, TT21]
        refine ACall.intro (index_a (x.toNat : Int) (by omega)) ?_
        rw [hux]
        have c2 : decide ((127 : Int) < (x.toNat : Int)) = false := decide_eq_false (by omega)
        simp only [c2, ac_seq, ac_cond, ac_region, at_normal, ao_nil, ao_cons, ao_guard_f, st_at, pk_at, if_f, as_pick, as_move, as_assign, as_binOp, i64, fr_false, List.contains_nil, beq_self_eq_true, hk_some, hopG, rd, aopsD, constT, evT, lk, putT, GV, gdst, binF, constA, cellA, Option.map_some, Nat.reduceSub, Nat.reduceEqDiff, Nat.reduceLeDiff, true_and, eq_self, Bool.false_eq_true, ↓reduceIte, TT3, TT21]
        cases c3 : decide (val x < 0)
        · rw [dF] at c3
          obtain ⟨v, hv, hvb, hV⟩ := outC_step l p hpl hok (by rw [← hx]; omega)
          rw [← hx] at hV
          have hbx := val_bd x
          have hp2 : p / 2 < l.length / 2 := by omega
          have hg := outAt_get l p (p / 2) hp2
          have hdr := bytesL_drop (outAt l p) (p / 2) (by rw [outAt_len]; exact hp2)
          rw [hg, hv] at hdr
          have hset := bytesL_set (outAt l p) (p / 2) (v * 16 + val x) (by omega) (by omega)
          rw [hV, outAt_set l p hpl he] at hset
          have hq : IntKind.i64.wrap ((p : Int).tdiv 2) = ((p / 2 : Nat) : Int) := by rw [tdivN (by omega), i64_in (by omega) (by omega)]; omega
          have k0 : (0 : Int) ≤ ((p / 2 : Nat) : Int) := by omega
          have k1 : ((p / 2 : Nat) : Int) < ((l.length / 2 : Nat) : Int) := by omega
          have k2 : p / 2 + 1 ≤ (bytesL (outAt l p)).length := by rw [bytesL_len, outAt_len]; omega
          have hw16 : IntKind.u8.wrap (v * 16) = v * 16 := by rw [IntKind.wrap_u8]; omega
          have hwv : IntKind.u8.wrap (val x) = val x := by rw [IntKind.wrap_u8]; omega
          have hor := or_16u (a := v) (b := val x) hvb (by omega)
          simp only [hq, k0, k1, Int.toNat_natCast, Nat.zero_add, hdr, hw16, hwv, hor, hset, ac_skip, ac_region, at_normal, ab_normal, ao_nil, ao_cons, if_f, as_store, as_move, as_binOp, as_convert, as_load, as_indexAddr, bytesL_len, fr_false, List.contains_nil, beq_self_eq_true, Int.cast_ofNat_Int, Bool.and_self, Int.reduceEq, Int.reducePow, hk_some, hopG, rd, aopsD, heapF, frzW, frzR, constT, evT, lk, putT, binF, convF, loadF, cellsF, ovw, okCell, constA, cellA, TK.isAgg, IntKind.bits, Value.oneCell', List.length_cons, List.length_nil, List.getElem?_cons_zero, List.set_cons_zero, List.all_cons, List.all_nil, Option.map_some, Nat.reduceSub, Nat.reduceEqDiff, Nat.reduceLeDiff, ne_eq, not_false_eq_true, true_and, and_true, and_self, eq_self, Bool.false_eq_true, ↓reduceIte, Int.reduceToNat, Int.reduceLE, Nat.zero_add, TT3, TT5, TT38]
          exact ⟨by rw [outAt_len]; omega, ⟨p + 1, by omega, fun y hy => by
            rw [List.take_succ_eq_append_getElem hpl] at hy
            rcases List.mem_append.1 hy with hy | hy
            · exact hok y hy
            · rw [List.mem_singleton.1 hy]
              have : l[p] = x := by rw [hx]; simp [List.getD, hpl]
              rw [this]; omega⟩, ⟨rfl, leB2 rfl rfl (by show (1 : Nat) < 2; decide) (by show (0 : Nat) < 2; decide)⟩, by show l.length - (p + 1) < l.length - p; omega⟩
        · rw [dT] at c3
          simp only [ac_ret, ac_seq, ac_region, at_normal, at_ret, ab_ret, ae_ret, ao_nil, ao_cons, if_t, as_assign, fr_false, List.contains_nil, beq_self_eq_true, rd, aopsD, constT, evT, lk, putT, resF, resL, constA, cellA, Option.map_some, Option.bind_some, Nat.reduceSub, Nat.reduceEqDiff, Nat.reduceLeDiff, true_and, and_true, eq_self, Bool.false_eq_true, ↓reduceIte]
          rw [hbad (by omega)]
      · have hh := decode_high s p hps (by rw [hxs]; omega)
        have hle := decode_le s p
        generalize Utf8.decode s p = D at *
        obtain ⟨c, wd⟩ := D
        simp only at hh hle ⊢
        have wb : 0 ≤ IntKind.u8.wrap (c : Int) ∧ IntKind.u8.wrap (c : Int) ≤ 255 := by rw [IntKind.wrap_u8]; omega
        simp only [ac_skip, ac_seq, ac_block, ac_cond, ac_region, at_normal, ao_nil, ao_cons, if_t, as_call, as_move, as_assign, as_convert, as_extract, goT, goV, fr_false, List.contains_nil, beq_self_eq_true, hk_some, hopG, rd, aopsD, dropV, frzW, frzR, constT, evT, lk, putT, convF, argsF, constA, cellA, List.getElem?_cons_zero, List.getElem?_cons_succ, Option.map_some, Nat.reduceSub, Nat.reduceEqDiff, Nat.reduceLeDiff, true_and, eq_self, reduceCtorEq, Bool.false_eq_true, ↓reduceIte, TT5, TT21]
        refine ACall.intro (index_a (IntKind.u8.wrap (c : Int)) wb) ?_
        have c2 : decide ((127 : Int) < (c : Int)) = true := decide_eq_true (by omega)
        simp only [c2, ac_ret, ac_seq, ac_cond, ac_region, at_normal, at_ret, ab_ret, ae_ret, ao_nil, ao_cons, ao_guard_f, sk_at, pk_at, if_t, as_pick, as_move, as_assign, as_binOp, i64, fr_false, List.contains_nil, beq_self_eq_true, hk_some, hopG, rd, aopsD, constT, evT, lk, putT, GV, gdst, binF, resF, resL, constA, cellA, Option.map_some, Option.bind_some, Nat.reduceSub, Nat.reduceEqDiff, Nat.reduceLeDiff, true_and, and_true, eq_self, Bool.false_eq_true, ↓reduceIte, TT21]
        rw [hbad (by unfold val; rw [if_neg (by omega), if_neg (by omega)]; omega)]
    · obtain rfl : p = l.length := by omega
      refine in_end (by omega) ?_
      have hall : l.all okV = true := by
        rw [List.all_eq_true]
        intro x hx
        have := hok x (by rw [List.take_length]; exact hx)
        simpa [okV] using this
      rw [if_pos hall] at P
      have hol := outAt_len l l.length
      have hol2 : (outAt l l.length).take (l.length / 2) = outAt l l.length := List.take_of_length_le (by omega)
      have q2 : l.length / 2 ≤ 1000000 := by omega
      simp only [hol, Nat.zero_add, q2, hol2, ac_exit, ac_ret, ac_seq, ac_cond, ac_region, at_normal, at_exit, ab_exit, ae_ret, ao_nil, ao_cons, if_f, as_move, as_assign, as_extract, bytesL_len, asB_take, fr_false, fr_nil, fr_cons, List.contains_nil, beq_self_eq_true, hk_some, hopG, rd, aopsD, constT, evT, lk, putT, resF, resL, constA, cellA, List.getElem?_cons_zero, List.drop_zero, Option.map_some, Option.bind_some, Nat.reduceSub, Nat.reduceEqDiff, Nat.reduceLeDiff, true_and, and_true, and_self, eq_self, Bool.false_eq_true, ↓reduceIte, Nat.zero_add, Nat.le_refl]
      rw [P]
end Go.Proofs.Ythjojkkapboonaa
