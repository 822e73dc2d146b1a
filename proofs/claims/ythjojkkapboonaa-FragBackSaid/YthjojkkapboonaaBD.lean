/- Slices, elements, fields; every operation that only reads, computes and makes memory. No program in sight. -/
import Derived.Test.YthjojkkapboonaaBC
namespace Go.Proofs.Ythjojkkapboonaa
set_option linter.unusedSimpArgs false
set_option linter.unusedVariables false
open Go.RowKit

def bndF (d : Int) : Option TV → Option Int
  | none => some d
  | some (.v (.one (.int _ i))) => some i
  | _ => none
def BndOk (d : Int) (i : Int) : Option Value → Prop
  | none => i = d
  | some v => ∃ k, v = .int k i
theorem bounds_run {P : Program} {w : World} {s : Bool} {len cap : Nat} {lo hi : Option Value} {l h : Int} (hl : BndOk 0 l lo) (hh : BndOk len h hi) (h0 : 0 ≤ l) (h1 : l ≤ h) (h2 : h ≤ cap) :
    (Instr.sliceBounds s len cap lo hi none).run P w = .ok (l.toNat, h.toNat, cap) w := by
  have h3 : 0 ≤ h := by omega
  have eh : (h.toNat : Int) = h := Int.toNat_of_nonneg h3
  cases lo with
  | none =>
    have hl : l = 0 := hl
    subst hl
    cases hi with
    | none => have hh : h = len := hh; subst hh; simp [Instr.sliceBounds]
    | some v =>
      obtain ⟨k, rfl⟩ := hh
      simp [Instr.sliceBounds, run_sliceBound _ k h cap _ h3 h2]
  | some u =>
    obtain ⟨k', rfl⟩ := hl
    cases hi with
    | none =>
      have hh : h = len := hh
      subst hh
      simp [Instr.sliceBounds, run_sliceBound _ k' l len _ h0 h1]
    | some v =>
      obtain ⟨k, rfl⟩ := hh
      simp [Instr.sliceBounds, run_sliceBound _ k h cap _ h3 h2, run_sliceBound _ k' l h.toNat _ h0 (by omega)]

theorem sub_mul' (h l k : Nat) : (h - l) * k = h * k - l * k := Nat.sub_mul h l k

theorem SlM.cut {P : Program} {M : Nat → Prop} {w : World} {v : Value} {t e : TypeId} {k : Nat} {us : List Value} (hs : SlM M w v k us) (ht : P.underlying t = some (.slice e)) (he : (P.info? e).map (·.size) = some k)
    {lo hi : Option Value} {l h : Int} (hl : BndOk 0 l lo) (len : Nat) (hlen : us.length = len * k) (h00 : 0 < k) (hh : BndOk len h hi) (h0 : 0 ≤ l) (h1 : l ≤ h) (h2 : h ≤ len) :
    ∃ z, (Instr.sliceAt t v lo hi none).run P w = .ok z w ∧ SlM M w z k ((us.drop (l.toNat * k)).take ((h - l).toNat * k)) := by
  obtain ⟨p, len', cap, rfl, g1, g2, g3, g4, g5⟩ := hs
  have e1 : len' = len := Nat.eq_of_mul_eq_mul_right h00 (by omega)
  subst e1
  have hE : P.elem t = e := by simp [Program.elem, ht]
  have ht' : P.underlying t = some (.slice (P.elem t)) := by rw [hE]; exact ht
  refine ⟨sliced p l.toNat h.toNat cap k, ?_, ?_⟩
  · rw [run_sliceAt_slice w t _ _ _ _ ht', run_slice_any w t p len' cap ht', bounds_run hl hh h0 h1 (by omega)]
    simp only [Result.andThen_ok, hE, size_of he]
  · obtain ⟨a, rfl⟩ := Int.eq_ofNat_of_zero_le h0
    obtain ⟨b, rfl⟩ := Int.eq_ofNat_of_zero_le (Int.le_trans h0 h1)
    simp only [Int.toNat_natCast]
    have hab : ((b : Int) - (a : Int)).toNat = b - a := by omega
    rw [hab]
    have hba : a * k ≤ b * k := Nat.mul_le_mul_right _ (by omega)
    have hbl : b * k ≤ len' * k := Nat.mul_le_mul_right _ (by omega)
    have hsub := sub_mul' b a k
    have hL : ((us.drop (a * k)).take ((b - a) * k)).length = (b - a) * k := by
      rw [List.length_take, List.length_drop]
      omega
    refine ⟨_, b - a, cap - a, rfl, hL, by omega, by omega, ?_, ?_⟩
    · intro hn
      by_cases hc : cap = a
      · omega
      · rw [if_neg hc] at hn
        cases p with
        | none => have := g4 rfl; omega
        | some x => cases hn
    · intro hpos
      rw [hL] at hpos ⊢
      obtain ⟨bb, o, rfl, g6, g7⟩ := g5 (by omega)
      refine ⟨bb, o + a * k, ?_, g6, ?_⟩
      · have hca : cap ≠ a := by
          intro hc
          have : b - a = 0 := by omega
          rw [this] at hpos
          omega
        rw [if_neg hca]
        simp only [Option.map_some, Addr.add_lit]
      · intro i hi
        have := g7 (a * k + i) (by omega)
        rw [Nat.add_assoc, this]
        congr 1
        simp [List.getD, List.getElem?_drop, hi]

/-- A slice of a slice. -/
def cutF (T : Nat → Option TI) (t : TypeId) (x : AV) (lo hi : Option TV) : Option (Prop × AV) :=
  match T t, x with
  | some ⟨.slc _ es, _, _⟩, .bs l => (bndF 0 lo).bind fun a => (bndF l.length hi).map fun b => (es = 1 ∧ 0 ≤ a ∧ a ≤ b ∧ b ≤ l.length, .bs ((l.drop a.toNat).take (b - a).toNat))
  | some ⟨.slc _ es, _, _⟩, .sl k cs => (bndF 0 lo).bind fun a => (bndF (cs.length / k : Nat) hi).map fun b => (es = k ∧ 0 < k ∧ 0 ≤ a ∧ a ≤ b ∧ b ≤ (cs.length / k : Nat), .sl k ((cs.drop (a.toNat * k)).take ((b - a).toNat * k)))
  | some ⟨.str, _, _⟩, .one (.string s) => (bndF 0 lo).bind fun a => (bndF s.size hi).map fun b => (0 ≤ a ∧ a ≤ b ∧ b ≤ s.size, .one (.string (s.extract a.toNat b.toNat)))
  | _, _ => none

def RepO (ρ : Nat → Nat) (L : List (Bool × List AV)) (M : Nat → Prop) (w : World) : Option TV → Option Value → Prop
  | none, v => v = none
  | some t, v => ∃ x, v = some x ∧ RepT ρ L M w t x
theorem bnd_rep {ρ : Nat → Nat} {L : List (Bool × List AV)} {M : Nat → Prop} {w : World} {d i : Int} {x : Option TV} {v : Option Value} (h : bndF d x = some i) (hr : RepO ρ L M w x v) : BndOk d i v := by
  unfold bndF at h
  split at h <;> simp only [Option.some.injEq, reduceCtorEq] at h
  · subst h
    have hr : v = none := hr
    subst hr
    rfl
  · subst h
    obtain ⟨y, rfl, hr⟩ := hr
    simp only [RepT, RepV] at hr
    exact ⟨_, hr⟩

theorem cut_run {P : Program} {T : Nat → Option TI} (hT : TOk P T) {ρ : Nat → Nat} {L : List (Bool × List AV)} {M : Nat → Prop} {w : World} {t : TypeId} {x r : AV} {lo hi : Option TV} {c : Prop} {v : Value} {vl vh : Option Value}
    (h : cutF T t x lo hi = some (c, r)) (hc : c) (hx : RepV M w x v) (hl : RepO ρ L M w lo vl) (hh : RepO ρ L M w hi vh) : ∃ z, (Instr.sliceAt t v vl vh none).run P w = .ok z w ∧ RepV M w r z := by
  unfold cutF at h
  split at h <;> try cases h
  · rename_i e es _ _ l ht
    obtain ⟨_, h5, h6, hbb⟩ := hT _ _ ht
    simp only [Option.bind_eq_some_iff, Option.map_eq_some_iff, Prod.mk.injEq] at h
    obtain ⟨a, h1, b, h2, h3, h4⟩ := h
    subst h3 h4
    obtain ⟨rfl, c1, c2, c3⟩ := hc
    rw [RepV.bs_iff] at hx
    obtain ⟨z, g1, g2⟩ := hx.cut h5 h6 (bnd_rep h1 hl) l.length (by simp) (by omega) (bnd_rep h2 hh) c1 c2 c3
    refine ⟨z, g1, ?_⟩
    rw [RepV.bs_iff, ← bytesV_cut]
    simpa using g2
  · rename_i e es _ _ k cs ht
    obtain ⟨_, h5, h6, hbb⟩ := hT _ _ ht
    simp only [Option.bind_eq_some_iff, Option.map_eq_some_iff, Prod.mk.injEq] at h
    obtain ⟨a, h1, b, h2, h3, h4⟩ := h
    subst h3 h4
    obtain ⟨rfl, c0, c1, c2, c3⟩ := hc
    simp only [RepV] at hx
    obtain ⟨us, hs, hr⟩ := hx
    obtain ⟨len, hlen⟩ : ∃ len, us.length = len * es := by obtain ⟨_, len, _, _, g1, _⟩ := hs; exact ⟨len, g1⟩
    have hq : cs.length / es = len := by rw [← hr.length, hlen, Nat.mul_div_cancel _ c0]
    rw [hq] at h2 c3
    obtain ⟨z, g1, g2⟩ := hs.cut h5 h6 (bnd_rep h1 hl) len hlen c0 (bnd_rep h2 hh) c1 c2 c3
    refine ⟨z, g1, ?_⟩
    simp only [RepV]
    exact ⟨_, g2, (hr.drop _).take _⟩
  · rename_i s ht
    have h5 := (hT _ _ ht).2
    simp only [TKOk] at h5
    simp only [Option.bind_eq_some_iff, Option.map_eq_some_iff, Prod.mk.injEq] at h
    obtain ⟨a, h1, b, h2, h3, h4⟩ := h
    subst h3 h4
    obtain ⟨c1, c2, c3⟩ := hc
    rw [RepV.one_iff] at hx
    subst hx
    refine ⟨_, ?_, RepV.one_iff.2 rfl⟩
    have hb := bounds_run (P := P) (w := w) (s := false) (len := s.size) (cap := s.size) (bnd_rep h1 hl) (bnd_rep h2 hh) c1 c2 c3
    simp only [Instr.sliceAt, Instr.slice, Sem.run_bind, run_underlying h5, Result.andThen_ok, Option.isSome_none, Bool.false_eq_true, if_false, hb]
    rfl

/-- A slice of an array of bytes of the call's own that is not written any more. -/
def cutAF (T : Nat → Option TI) (H : List (Bool × List AV)) (t : TypeId) (n off : Nat) (lo hi : Option TV) : Option (Prop × AV) :=
  match T t, H[n]? with
  | some ⟨.arr len _ 1 _ _, _, _⟩, some (false, cs) =>
    (bndF 0 lo).bind fun a => (bndF len hi).bind fun b => (bytesOf ((cs.drop off).take len)).map fun x => (x.1 ∧ off + len ≤ cs.length ∧ len ≤ 1000 ∧ 0 ≤ a ∧ a ≤ b ∧ b ≤ len, .bs ((x.2.drop a.toNat).take (b - a).toNat))
  | _, _ => none

theorem HOk.notM {w0 : World} {M0 : Nat → Prop} {ρ : Nat → Nat} {h : List (Bool × List AV)} {w : World} (H : HOk w0 M0 ρ h w) {n : Nat} {cs : List AV} (hn : h[n]? = some (false, cs)) : ¬ MM M0 ρ h (ρ n) := by
  have hlt := (List.getElem?_eq_some_iff.1 hn).1
  rintro (hb | ⟨m, ds, hm, he⟩)
  · exact H.sep n hlt hb
  · have hlm := (List.getElem?_eq_some_iff.1 hm).1
    have := H.inj n m hlt hlm he
    subst this
    rw [hn] at hm
    cases hm

theorem cutA_run {P : Program} {T : Nat → Option TI} (hT : TOk P T) {w0 : World} {M0 : Nat → Prop} {ρ : Nat → Nat} {H : List (Bool × List AV)} {w : World} (hH : HOk w0 M0 ρ H w) {L : List (Bool × List AV)} {t : TypeId} {n off : Nat} {r : AV} {lo hi : Option TV} {c : Prop} {vl vh : Option Value}
    (h : cutAF T H t n off lo hi = some (c, r)) (hc : c) (hl : RepO ρ L (MM M0 ρ H) w lo vl) (hh : RepO ρ L (MM M0 ρ H) w hi vh) :
    ∃ z, (Instr.sliceAt t (.pointer (some ⟨ρ n, off, none⟩)) vl vh none).run P w = .ok z w ∧ RepV (MM M0 ρ H) w r z := by
  unfold cutAF at h
  split at h <;> try cases h
  rename_i len e ea ek _ _ cs ht hn
  obtain ⟨_, h5, h6, _⟩ := hT _ _ ht
  simp only [Option.bind_eq_some_iff, Option.map_eq_some_iff, Prod.mk.injEq] at h
  obtain ⟨a, h1, b, h2, ⟨cb, lb⟩, h3, h4, h7⟩ := h
  subst h4 h7
  obtain ⟨c0, c1, c2, c3, c4, c5⟩ := hc
  obtain ⟨us, hr, hcell⟩ := hH.cell hn
  have hlen := hr.length
  have hbytes := bytesOf_rep h3 c0 ((hr.drop off).take len)
  have hlb : (bytesV lb).length = len := by rw [← hbytes]; simp; omega
  simp only [length_bytesV] at hlb
  refine ⟨slicedAt ⟨ρ n, off, none⟩ a.toNat b.toNat len 1, ?_, ?_⟩
  · simp only [Instr.sliceAt, Sem.run_bind, run_underlying h5, Result.andThen_ok, Instr.sureAddr, Sem.run_pure, bounds_run (bnd_rep h1 hl) (bnd_rep h2 hh) c3 c4 c5, size_of h6]
    rfl
  · obtain ⟨a, rfl⟩ := Int.eq_ofNat_of_zero_le c3
    obtain ⟨b, rfl⟩ := Int.eq_ofNat_of_zero_le (Int.le_trans c3 c4)
    simp only [Int.toNat_natCast]
    have hab : ((b : Int) - (a : Int)).toNat = b - a := by omega
    rw [hab, RepV.bs_iff]
    refine ⟨_, b - a, len - a, rfl, by simp; omega, by omega, by simp only [maxLen]; omega, ?_, ?_⟩
    · intro hn; cases hn
    · intro hpos
      have hpos' : 0 < b - a := by simp at hpos; omega
      refine ⟨ρ n, off + a, ?_, hH.notM hn, ?_⟩
      · rw [if_neg (by omega)]
        simp only [Nat.mul_one, Addr.add_lit]
      · intro i hi
        have hi' : i < b - a := by simp at hi; omega
        rw [Nat.add_assoc, hcell (off + (a + i)) (by omega)]
        have : (bytesV lb).getD (a + i) undef = us.getD (off + (a + i)) undef := by
          rw [← hbytes]
          simp [List.getD, List.getElem?_drop, show a + i < len by omega]
        rw [← this, ← bytesV_cut]
        simp [List.getD, List.getElem?_drop, hi']
end Go.Proofs.Ythjojkkapboonaa
