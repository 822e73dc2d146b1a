/- Base words of the proofs over this seat: byte slices as lists, worlds that only grow. No program in sight. -/
import Derived.WalkKit
import Derived.Lib.Hide
import Derived.WalkSpells
namespace Go.Proofs.Ythjojkkapboonaa
set_option linter.unusedSimpArgs false
set_option linter.unusedVariables false
open Go.RowKit

/-- The world has only grown. -/
def Grow (w w' : World) : Prop := Below w.heap.size w w'

theorem Grow.refl (w : World) : Grow w w := Below.refl _ _
theorem Grow.trans {a b c : World} (h : Grow a b) (k : Grow b c) : Grow a c := Below.trans h (Below.mono k h.size)
theorem Grow.below {a b : World} (h : Grow a b) : Below a.heap.size a b := h
theorem Grow.drew {a b : World} (h : Grow a b) : Grow a b.drew := Below.drew h
theorem Grow.alloc {a b : World} (h : Grow a b) (o : Obj) : Grow a (b.alloc o) := Below.alloc h h.size o
theorem Grow.a1 (w : World) (o : Obj) : Grow w (w.alloc o) := (Grow.refl w).alloc o
theorem Grow.a2 (w : World) (o o2 : Obj) : Grow w ((w.alloc o).alloc o2) := (Grow.a1 w o).alloc o2
theorem Grow.a3 (w : World) (o o2 o3 : Obj) : Grow w (((w.alloc o).alloc o2).alloc o3) := (Grow.a2 w o o2).alloc o3
theorem Grow.a4 (w : World) (o o2 o3 o4 : Obj) : Grow w ((((w.alloc o).alloc o2).alloc o3).alloc o4) := (Grow.a3 w o o2 o3).alloc o4
theorem Grow.a5 (w : World) (o o2 o3 o4 o5 : Obj) : Grow w (((((w.alloc o).alloc o2).alloc o3).alloc o4).alloc o5) := (Grow.a4 w o o2 o3 o4).alloc o5
theorem Grow.a6 (w : World) (o o2 o3 o4 o5 o6 : Obj) : Grow w ((((((w.alloc o).alloc o2).alloc o3).alloc o4).alloc o5).alloc o6) := (Grow.a5 w o o2 o3 o4 o5).alloc o6
theorem Grow.le {a b : World} (h : Grow a b) : a.heap.size ≤ b.heap.size := Below.size h
theorem Grow.cell {w w' : World} (h : Grow w w') {p : Addr} {v : Value} (hc : w.cell? p = some v) : w'.cell? p = some v := by
  rw [← hc]
  exact Below.cell h (World.block_lt_of_cell? w p hc)

/-- The value is a slice whose elements (one cell each) are these. -/
def IsS (w : World) (v : Value) (xs : List Value) : Prop :=
  ∃ p c, v = .slice p xs.length c ∧ xs.length ≤ c ∧ c ≤ maxLen ∧ (p = none → c = 0) ∧
    (0 < xs.length → ∃ b o, p = some ⟨b, o, none⟩ ∧ ∀ i, i < xs.length → w.cell? ⟨b, o + i, none⟩ = some (xs.getD i undef))

theorem IsS.grow {w w' : World} {v : Value} {xs : List Value} (h : IsS w v xs) (g : Grow w w') : IsS w' v xs := by
  obtain ⟨p, c, rfl, h1, h2, h3, h4⟩ := h
  exact ⟨p, c, rfl, h1, h2, h3, fun hl => by
    obtain ⟨b, o, rfl, hc⟩ := h4 hl
    exact ⟨b, o, rfl, fun i hi => g.cell (hc i hi)⟩⟩

theorem IsS.len {w : World} {v : Value} {xs : List Value} (h : IsS w v xs) : xs.length ≤ maxLen := by
  obtain ⟨p, c, rfl, h1, h2, _⟩ := h
  omega

theorem IsS.nil (w : World) : IsS w (.slice none 0 0) [] := ⟨none, 0, rfl, by simp, by simp [maxLen], fun _ => rfl, fun h => absurd h (by simp)⟩

/-- A cut of a slice. -/
theorem IsS.cut {P : Program} {w : World} {v : Value} {xs : List Value} (h : IsS w v xs) (t e : TypeId) (i : TypeInfo) (ht : P.underlying t = some (.slice e)) (hi : P.info? e = some i) (hz : i.size = 1)
    (lo hi' : Nat) (h1 : lo ≤ hi') (h2 : hi' ≤ xs.length) :
    ∃ v', IsS w v' ((xs.drop lo).take (hi' - lo)) ∧
      (∀ w', (Instr.slice t v (some (.int .i64 lo)) (some (.int .i64 hi')) none).run P w' = .ok v' w') ∧
      (lo = 0 → ∀ w', (Instr.slice t v none (some (.int .i64 hi')) none).run P w' = .ok v' w') ∧
      (hi' = xs.length → ∀ w', (Instr.slice t v (some (.int .i64 lo)) none none).run P w' = .ok v' w') ∧
      (lo = 0 → hi' = xs.length → ∀ w', (Instr.slice t v none none none).run P w' = .ok v' w') := by
  obtain ⟨p, c, rfl, h3, h4, h5, h6⟩ := h
  have he : P.elem t = e := by simp [Program.elem, ht]
  have ht' : P.underlying t = some (.slice (P.elem t)) := by rw [he]; exact ht
  have hsz : ∀ w', (sizeOf (P.elem t)).run P w' = .ok 1 w' := by
    intro w'
    rw [he]
    simp [sizeOf, typeInfo, hi, hz]
  refine ⟨sliced p lo hi' c 1, ?_, ?_, ?_, ?_, ?_⟩
  · unfold sliced
    refine ⟨_, _, by rw [show ((xs.drop lo).take (hi' - lo)).length = hi' - lo by simp; omega], by simp; omega, by omega, ?_, ?_⟩
    · intro hn
      by_cases hcl : c = lo
      · omega
      · rw [if_neg hcl] at hn
        cases p with
        | none => have := h5 rfl; omega
        | some a => cases hn
    · intro hlen
      have hlen' : 0 < hi' - lo := by simp at hlen; omega
      obtain ⟨b, o, rfl, hc⟩ := h6 (by omega)
      refine ⟨b, o + lo, ?_, ?_⟩
      · rw [if_neg (by omega)]
        simp only [Option.map_some, Nat.mul_one]
        unfold Addr.add
        split
        · simp_all
        · rfl
      · intro i hi2
        have hi3 : i < hi' - lo := by simp at hi2; omega
        have := hc (lo + i) (by omega)
        rw [Nat.add_assoc, this]
        congr 1
        simp [List.getD, List.getElem?_drop, hi3]
  · intro w'
    rw [run_slice_lh w' t p xs.length c ht' .i64 .i64 lo hi' (by omega) (by omega) (by omega)]
    simp [hsz, Result.andThen]
  · intro hlo w'
    subst hlo
    rw [run_slice_h w' t p xs.length c ht' .i64 hi' (by omega) (by omega)]
    simp [hsz, Result.andThen]
  · intro hhi w'
    subst hhi
    rw [run_slice_l w' t p xs.length c ht' .i64 lo (by omega) (by omega)]
    simp [hsz, Result.andThen]
  · intro hlo hhi w'
    subst hlo hhi
    rw [run_slice_all w' t p xs.length c ht']
    simp [hsz, Result.andThen]

/-- A byte's cell. -/
def byteV (x : UInt8) : Value := .int .u8 (x.toNat : Int)
def bytesV (l : List UInt8) : List Value := l.map byteV

@[simp] theorem length_bytesV (l : List UInt8) : (bytesV l).length = l.length := by simp [bytesV]
theorem bytesV_append (l m : List UInt8) : bytesV (l ++ m) = bytesV l ++ bytesV m := by simp [bytesV]
theorem getD_bytesV (l : List UInt8) (i : Nat) (h : i < l.length) : (bytesV l).getD i undef = .int .u8 ((l.getD i 0).toNat : Int) := by
  simp [bytesV, List.getD, h, byteV]
theorem bytesV_cut (l : List UInt8) (a n : Nat) : ((bytesV l).drop a).take n = bytesV ((l.drop a).take n) := by simp [bytesV, List.map_take, List.map_drop]
theorem oneCell_bytesV (l : List UInt8) : ∀ u ∈ bytesV l, u.oneCell' = true := by
  intro u hu
  obtain ⟨_, _, rfl⟩ := List.mem_map.1 hu
  rfl

/-- The value is a slice of these bytes. -/
def IsB (w : World) (v : Value) (l : List UInt8) : Prop := IsS w v (bytesV l)

theorem IsB.grow {w w' : World} {v : Value} {l : List UInt8} (h : IsB w v l) (g : Grow w w') : IsB w' v l := IsS.grow h g
theorem IsB.len {w : World} {v : Value} {l : List UInt8} (h : IsB w v l) : l.length ≤ maxLen := by have := IsS.len h; simpa using this
theorem IsB.nil (w : World) : IsB w (.slice none 0 0) [] := IsS.nil w
theorem IsB.form {w : World} {v : Value} {l : List UInt8} (h : IsB w v l) :
    ∃ p c, v = .slice p l.length c ∧ l.length ≤ c ∧ c ≤ 9223372036854775807 ∧ (p = none → c = 0) ∧
    (0 < l.length → ∃ b o, p = some ⟨b, o, none⟩ ∧ ∀ i (hi : i < l.length), w.cell? ⟨b, o + i, none⟩ = some (.int .u8 ((l[i]'hi).toNat : Int))) := by
  obtain ⟨p, c, rfl, h1, h2, h3, h4⟩ := h
  simp only [length_bytesV, maxLen, Nat.reducePow, Nat.reduceSub] at *
  exact ⟨p, c, rfl, h1, h2, h3, fun hl => by
    obtain ⟨b, o, rfl, hc⟩ := h4 hl
    exact ⟨b, o, rfl, fun i hi => by rw [hc i hi, getD_bytesV l i hi]; simp [List.getD, hi]⟩⟩

theorem IsB.isSlice {w : World} {v : Value} {l : List UInt8} (h : IsB w v l) : ∃ p n c, v = .slice p n c := by
  obtain ⟨p, c, rfl, _⟩ := h
  exact ⟨_, _, _, rfl⟩
theorem IsB.opened {w : World} {v : Value} {l : List UInt8} (h : IsB w v l) : ∃ p c, v = .slice p l.length c := by
  obtain ⟨p, c, rfl, _⟩ := h.form
  exact ⟨_, _, rfl⟩
theorem IsB.at_ {w : World} {p : Option Addr} {n c : Nat} {l : List UInt8} (h : IsB w (.slice p n c) l) (hl : 0 < l.length) :
    ∃ b o, p = some ⟨b, o, none⟩ ∧ ∀ i (hi : i < l.length), w.cell? ⟨b, o + i, none⟩ = some (.int .u8 ((l[i]'hi).toNat : Int)) := by
  obtain ⟨p', c', e, _, _, _, h4⟩ := h.form
  injection e with e1 e2 e3
  subst e1
  exact h4 hl
/-- The list under a name of its own. -/
theorem IsB.named {w : World} {v : Value} {l : List UInt8} (h : IsB w v l) : ∃ m, Hid (m = l) ∧ IsB w v m := ⟨l, rfl, h⟩
theorem IsB.cells {w : World} {v : Value} {l : List UInt8} (h : IsB w v l) : v.cells = #[v] := by
  obtain ⟨p, c, rfl, _⟩ := h
  rfl

theorem IsB.cut {P : Program} {w : World} {v : Value} {l : List UInt8} (h : IsB w v l) (t e : TypeId) (i : TypeInfo) (ht : P.underlying t = some (.slice e)) (hi : P.info? e = some i) (hz : i.size = 1)
    (lo hi' : Nat) (h1 : lo ≤ hi') (h2 : hi' ≤ l.length) :
    ∃ v', IsB w v' ((l.drop lo).take (hi' - lo)) ∧
      (∀ w', (Instr.slice t v (some (.int .i64 lo)) (some (.int .i64 hi')) none).run P w' = .ok v' w') ∧
      (lo = 0 → ∀ w', (Instr.slice t v none (some (.int .i64 hi')) none).run P w' = .ok v' w') ∧
      (hi' = l.length → ∀ w', (Instr.slice t v (some (.int .i64 lo)) none none).run P w' = .ok v' w') ∧
      (lo = 0 → hi' = l.length → ∀ w', (Instr.slice t v none none none).run P w' = .ok v' w') := by
  have := IsS.cut (P := P) h t e i ht hi hz lo hi' h1 (by simpa using h2)
  simp only [length_bytesV, bytesV_cut] at this
  exact this

/-- The same, the bounds being integers. -/
theorem IsB.cutI {P : Program} {w : World} {v : Value} {l : List UInt8} (h : IsB w v l) (t e : TypeId) (i : TypeInfo) (ht : P.underlying t = some (.slice e)) (hi : P.info? e = some i) (hz : i.size = 1)
    (lo hi' : Int) (h0 : 0 ≤ lo) (h1 : lo ≤ hi') (h2 : hi' ≤ l.length) :
    ∃ v', IsB w v' ((l.drop lo.toNat).take (hi' - lo).toNat) ∧
      (∀ w', (Instr.slice t v (some (.int .i64 lo)) (some (.int .i64 hi')) none).run P w' = .ok v' w') ∧
      (lo = 0 → ∀ w', (Instr.slice t v none (some (.int .i64 hi')) none).run P w' = .ok v' w') ∧
      (hi' = l.length → ∀ w', (Instr.slice t v (some (.int .i64 lo)) none none).run P w' = .ok v' w') := by
  obtain ⟨a, rfl⟩ := Int.eq_ofNat_of_zero_le h0
  obtain ⟨b, rfl⟩ := Int.eq_ofNat_of_zero_le (Int.le_trans h0 h1)
  obtain ⟨v', g1, g2, g3, g4, _⟩ := IsB.cut (P := P) h t e i ht hi hz a b (by omega) (by omega)
  refine ⟨v', ?_, g2, fun hl => g3 (by omega), fun hl => g4 (by omega)⟩
  rw [Int.toNat_natCast, show ((b : Int) - (a : Int)).toNat = b - a by omega]
  exact g1

/-- A slice of bytes in a row of the call's own, from block 'base' on. -/
def Own (E : TypeId) (base : Nat) (w : World) (v : Value) (l : List UInt8) : Prop := w.ownsRow base E 1 v l.length (bytesV l)

theorem Own.isB {E : TypeId} {base : Nat} {w : World} {v : Value} {l : List UInt8} (h : Own E base w v l) : IsB w v l := by
  obtain ⟨h1, h2⟩ := id h
  rcases h2 with ⟨rfl, h3⟩ | ⟨g, cap, cur, rfl, hb, hg, hn, hm, hs, ht⟩
  · have : l = [] := List.eq_nil_of_length_eq_zero h3
    subst this
    exact IsB.nil w
  · refine ⟨some ⟨g, 0, none⟩, cap, by simp, by simpa using hn, hm, (fun h => by cases h), fun hl => ⟨g, 0, rfl, fun i hi => ?_⟩⟩
    rw [Nat.zero_add, cell_of_row w g i cur E (0, 0) hg]
    have hi' : i < (bytesV l).length := hi
    rw [Nat.mul_one] at ht
    have := congrArg (fun x => x[i]?) ht
    simp only [length_bytesV] at hi
    simp only [List.getElem?_take, hi, if_true] at this
    rw [← Array.getElem?_toList, this, List.getElem?_eq_getElem hi']
    simp [List.getD, List.getElem?_eq_getElem hi']

theorem Own.mono {E : TypeId} {base base' : Nat} {w : World} {v : Value} {l : List UInt8} (h : Own E base w v l) (hb : base' ≤ base) : Own E base' w v l := by
  obtain ⟨h1, h2⟩ := h
  refine ⟨h1, ?_⟩
  rcases h2 with h2 | ⟨g, cap, cur, hv, hg, r⟩
  · exact .inl h2
  · exact .inr ⟨g, cap, cur, hv, by omega, r⟩

theorem Own.grow {E : TypeId} {base : Nat} {w w' : World} {v : Value} {l : List UInt8} (h : Own E base w v l) (g : Grow w w') : Own E base w' v l := by
  obtain ⟨h1, h2⟩ := h
  refine ⟨h1, ?_⟩
  rcases h2 with h2 | ⟨b, cap, cur, hv, hb, hg, r⟩
  · exact .inl h2
  · refine .inr ⟨b, cap, cur, hv, hb, ?_, r⟩
    rw [Below.block g b (Array.getElem?_eq_some_iff.1 hg).1]
    exact hg

theorem Own.nil (E : TypeId) (base : Nat) (w : World) : Own E base w (.slice none 0 0) [] := World.ownsRow_nil w base E 1

theorem Own.made0 (E : TypeId) (base : Nat) (w : World) (h : base ≤ w.heap.size) : Own E base (w.alloc (.cells #[] E)) (.slice (some ⟨w.heap.size, 0, none⟩) 0 0) [] :=
  World.ownsRow_made w #[] 0 h (Nat.zero_le _) rfl

theorem growOf {w w1 w2 : World} {row : Option Nat} (g : Grow w w1) (hg : w1.grownBy w2 row) (hr : ∀ k, row = some k → w.heap.size ≤ k) : Grow w w2 :=
  Below.grown g hg g.le hr

theorem Grow.on {base : Nat} {w0 w w' : World} (g : Grow w0 w) (b : Below base w w') (h : w0.heap.size ≤ base) : Grow w0 w' := Below.trans g (Below.mono b h)

theorem Own.row {E : TypeId} {base : Nat} {w : World} {v : Value} {l : List UInt8} (h : Own E base w v l) : ∀ k, v.ownBlock = some k → base ≤ k := fun k hk => (World.ownsRow.lt h k hk).1

/-- Another slice stays what it is while a row of the call's own from 'base' on is written. -/
theorem IsS.grown {w w1 w2 : World} {v : Value} {xs : List Value} {row : Option Nat} (h : IsS w v xs) (g : Grow w w1) (hg : w1.grownBy w2 row) (hr : ∀ k, row = some k → w.heap.size ≤ k) : IsS w2 v xs :=
  h.grow (growOf g hg hr)

theorem u64_in {n : Int} (h0 : 0 ≤ n) (h1 : n < 18446744073709551616) : IntKind.u64.wrap n = n := by
  simp [IntKind.wrap, IntKind.bits, IntKind.signed]
  omega
theorem u32_in {n : Int} (h0 : 0 ≤ n) (h1 : n < 4294967296) : IntKind.u32.wrap n = n := by rw [IntKind.wrap_u32]; omega
theorem u16_in {n : Int} (h0 : 0 ≤ n) (h1 : n < 65536) : IntKind.u16.wrap n = n := by rw [IntKind.wrap_u16]; omega
theorem u8_in {n : Int} (h0 : 0 ≤ n) (h1 : n < 256) : IntKind.u8.wrap n = n := by rw [IntKind.wrap_u8]; omega
theorem i64_in {n : Int} (h0 : -9223372036854775808 ≤ n) (h1 : n ≤ 9223372036854775807) : IntKind.i64.wrap n = n := by rw [IntKind.wrap_i64]; omega

/-- A number's lowest byte. -/
def u8 (z : Int) : UInt8 := UInt8.ofNat (z % 256).toNat
theorem u8_toNat (z : Int) : ((u8 z).toNat : Int) = z % 256 := by
  unfold u8
  rw [UInt8.toNat_ofNat']
  omega

/-- A slice that was just built. -/
theorem IsS.built (w : World) (E : TypeId) (xs : List Value) (h : xs.length ≤ maxLen) :
    IsS (w.alloc (.cells xs.toArray E)) (.slice (some ⟨w.heap.size, 0, none⟩) xs.length xs.length) xs :=
  ⟨_, _, rfl, Nat.le_refl _, h, (fun h => by cases h), fun _ => ⟨_, _, rfl, fun i hi => by
    rw [cell_of_row _ w.heap.size (0 + i) xs.toArray E (0, 0) (heap_alloc_new w _)]
    simp [List.getD, hi]⟩⟩

theorem IsB.built1 (w : World) (E : TypeId) (a : Int) (x : UInt8) (ha : a = x.toNat) :
    IsB (w.alloc (.cells #[.int .u8 a] E)) (.slice (some ⟨w.heap.size, 0, none⟩) 1 1) [x] := by
  subst ha
  exact IsS.built w E [byteV x] (by simp [maxLen])
theorem IsB.built2 (w : World) (E : TypeId) (a b : Int) (x y : UInt8) (ha : a = x.toNat) (hb : b = y.toNat) :
    IsB (w.alloc (.cells #[.int .u8 a, .int .u8 b] E)) (.slice (some ⟨w.heap.size, 0, none⟩) 2 2) [x, y] := by
  subst ha hb
  exact IsS.built w E [byteV x, byteV y] (by simp [maxLen])
theorem IsB.built4 (w : World) (E : TypeId) (a b c d : Int) (x y z u : UInt8) (ha : a = x.toNat) (hb : b = y.toNat) (hc : c = z.toNat) (hd : d = u.toNat) :
    IsB (w.alloc (.cells #[.int .u8 a, .int .u8 b, .int .u8 c, .int .u8 d] E)) (.slice (some ⟨w.heap.size, 0, none⟩) 4 4) [x, y, z, u] := by
  subst ha hb hc hd
  exact IsS.built w E [byteV x, byteV y, byteV z, byteV u] (by simp [maxLen])

theorem IsB.lit1 (w : World) (E : TypeId) (a : Int) (x : UInt8) (k : Nat) (hk : k = w.heap.size) (ha : a = x.toNat) :
    IsB (w.alloc (.cells #[.int .u8 a] E)) (.slice (some ⟨k, 0, none⟩) 1 1) [x] := by
  subst hk
  exact IsB.built1 w E a x ha
theorem IsB.lit2 (w : World) (E : TypeId) (a b : Int) (x y : UInt8) (k : Nat) (hk : k = w.heap.size) (ha : a = x.toNat) (hb : b = y.toNat) :
    IsB (w.alloc (.cells #[.int .u8 a, .int .u8 b] E)) (.slice (some ⟨k, 0, none⟩) 2 2) [x, y] := by
  subst hk
  exact IsB.built2 w E a b x y ha hb

/-- The value is a slice of these numbers. -/
def IsI (K : IntKind) (w : World) (v : Value) (ns : List Int) : Prop := IsS w v (ns.map (Value.int K))
theorem IsI.grow {K : IntKind} {w w' : World} {v : Value} {l : List Int} (h : IsI K w v l) (g : Grow w w') : IsI K w' v l := IsS.grow h g
theorem IsI.form {K : IntKind} {w : World} {v : Value} {l : List Int} (h : IsI K w v l) :
    ∃ p c, v = .slice p l.length c ∧ l.length ≤ c ∧ c ≤ 9223372036854775807 ∧ (p = none → c = 0) ∧
    (0 < l.length → ∃ b o, p = some ⟨b, o, none⟩ ∧ ∀ i, i < l.length → w.cell? ⟨b, o + i, none⟩ = some (.int K (l.getD i 0))) := by
  obtain ⟨p, c, rfl, h1, h2, h3, h4⟩ := h
  simp only [List.length_map, maxLen, Nat.reducePow, Nat.reduceSub] at *
  exact ⟨p, c, rfl, h1, h2, h3, fun hl => by
    obtain ⟨b, o, rfl, hc⟩ := h4 hl
    exact ⟨b, o, rfl, fun i hi => by rw [hc i hi]; simp [List.getD, hi]⟩⟩

/-- A string of these bytes. -/
def bstr (l : List UInt8) : ByteArray := ⟨l.toArray⟩
@[simp] theorem toList_bstr (l : List UInt8) : (bstr l).toList = l := ByteArray.toList_mk l
@[simp] theorem size_bstr (l : List UInt8) : (bstr l).size = l.length := by simp [bstr, ByteArray.size]

theorem IsB.convert {P : Program} {w : World} {v : Value} {l : List UInt8} (h : IsB w v l) (src e dst : TypeId) (hs : P.underlying src = some (.slice e)) (he : P.underlying e = some (.int .u8)) (hd : P.underlying dst = some .string) :
    (convert src dst v).run P w = .ok (.string (bstr l)) w := by
  obtain ⟨p, c, rfl, h1, h2, h3, h4⟩ := h.form
  by_cases hl : 0 < l.length
  · obtain ⟨b, o, rfl, hc⟩ := h4 hl
    rw [run_convert_bytes_arg w src e hs he b o l.length c (l.map fun x => (x.toNat : Int)) (by simp) (fun i hi => by rw [hc i hi]; simp [List.getD, hi]) dst hd]
    congr 2
    simp [strOfNums, bstr, List.map_map, Function.comp_def]
  · obtain rfl : l = [] := List.eq_nil_of_length_eq_zero (by omega)
    rw [run_convert_bytes_string w src dst e _ _ c hs he hd]
    cases p <;> simp [Conv.bytesToString, loadCells]
    all_goals rfl

/-- Slices of bytes, one by one. -/
def AllB (w : World) : List Value → List (List UInt8) → Prop
  | [], [] => True
  | v :: vs, l :: ls => IsB w v l ∧ AllB w vs ls
  | _, _ => False
theorem AllB.grow {w w' : World} (g : Grow w w') : ∀ {vs : List Value} {ls : List (List UInt8)}, AllB w vs ls → AllB w' vs ls
  | [], [], h => h
  | _ :: _, _ :: _, h => ⟨h.1.grow g, AllB.grow g h.2⟩
  | [], _ :: _, h => h.elim
  | _ :: _, [], h => h.elim
theorem AllB.length {w : World} : ∀ {vs : List Value} {ls : List (List UInt8)}, AllB w vs ls → vs.length = ls.length
  | [], [], _ => rfl
  | _ :: _, _ :: _, h => by simp [AllB.length h.2]
  | [], _ :: _, h => h.elim
  | _ :: _, [], h => h.elim
theorem AllB.get {w : World} : ∀ {vs : List Value} {ls : List (List UInt8)}, AllB w vs ls → ∀ i, i < ls.length → IsB w (vs.getD i undef) (ls.getD i [])
  | [], [], _, i, hi => absurd hi (by simp)
  | _ :: _, _ :: _, h, 0, _ => h.1
  | _ :: vs, _ :: ls, h, i + 1, hi => AllB.get (vs := vs) (ls := ls) h.2 i (by simpa using hi)
  | [], _ :: _, h, _, _ => h.elim
  | _ :: _, [], h, _, _ => h.elim
theorem AllB.one {w : World} {a : Value} {l : List UInt8} (h : IsB w a l) : AllB w [a] [l] := ⟨h, trivial⟩
theorem AllB.two {w : World} {a b : Value} {l m : List UInt8} (h : IsB w a l) (h2 : IsB w b m) : AllB w [a, b] [l, m] := ⟨h, h2, trivial⟩
theorem AllB.three {w : World} {a b c : Value} {l m n : List UInt8} (h : IsB w a l) (h2 : IsB w b m) (h3 : IsB w c n) : AllB w [a, b, c] [l, m, n] := ⟨h, h2, h3, trivial⟩
/-- The value is a slice of slices of bytes. -/
def IsBB (w : World) (v : Value) (ls : List (List UInt8)) : Prop := ∃ vs, IsS w v vs ∧ AllB w vs ls
theorem IsBB.grow {w w' : World} {v : Value} {ls : List (List UInt8)} (h : IsBB w v ls) (g : Grow w w') : IsBB w' v ls :=
  let ⟨vs, h1, h2⟩ := h
  ⟨vs, h1.grow g, h2.grow g⟩
theorem IsBB.form {w : World} {v : Value} {ls : List (List UInt8)} (h : IsBB w v ls) :
    ∃ p c, ∃ vs : List Value, v = .slice p ls.length c ∧ ls.length ≤ c ∧ c ≤ 9223372036854775807 ∧ (p = none → c = 0) ∧
    (∀ i, i < ls.length → IsB w (vs.getD i undef) (ls.getD i [])) ∧
    (0 < ls.length → ∃ b o, p = some ⟨b, o, none⟩ ∧ ∀ i, i < ls.length → w.cell? ⟨b, o + i, none⟩ = some (vs.getD i undef)) := by
  obtain ⟨vs, ⟨p, c, rfl, h1, h2, h3, h4⟩, ha⟩ := h
  have hl := ha.length
  rw [hl] at h1 h4 ⊢
  exact ⟨p, c, vs, rfl, h1, h2, h3, ha.get, h4⟩
theorem IsBB.built (w : World) (E : TypeId) (vs : List Value) (ls : List (List UInt8)) (hm : vs.length ≤ maxLen) (h : AllB w vs ls) :
    IsBB (w.alloc (.cells vs.toArray E)) (.slice (some ⟨w.heap.size, 0, none⟩) vs.length vs.length) ls :=
  ⟨vs, IsS.built w E vs hm, h.grow ((Grow.refl w).alloc _)⟩
theorem IsBB.lit (w : World) (E : TypeId) (vs : List Value) (ls : List (List UInt8)) (k n : Nat) (hk : k = w.heap.size) (hn : n = vs.length) (hm : vs.length ≤ 1000) (h : AllB w vs ls) :
    IsBB (w.alloc (.cells vs.toArray E)) (.slice (some ⟨k, 0, none⟩) n n) ls := by
  subst hk hn
  exact IsBB.built w E vs ls (by simp only [maxLen]; omega) h
theorem IsI.lit (K : IntKind) (w : World) (E : TypeId) (vs : List Value) (ns : List Int) (k n : Nat) (hk : k = w.heap.size) (hn : n = vs.length) (hm : vs.length ≤ 1000) (hv : vs = ns.map (Value.int K)) :
    IsI K (w.alloc (.cells vs.toArray E)) (.slice (some ⟨k, 0, none⟩) n n) ns := by
  subst hk hn hv
  exact IsS.built w E _ (by simp only [maxLen]; omega)
theorem IsBB.nil (w : World) : IsBB w (.slice none 0 0) [] := ⟨[], IsS.nil w, trivial⟩

theorem Own.form {E : TypeId} {base : Nat} {w : World} {v : Value} {l : List UInt8} (h : Own E base w v l) (hl : 0 < l.length) :
    ∃ g cap, v = .slice (some ⟨g, 0, none⟩) l.length cap ∧ base ≤ g := by
  rcases h.2 with ⟨_, h3⟩ | ⟨g, cap, cur, rfl, hb, _⟩
  · omega
  · exact ⟨g, cap, rfl, hb⟩
theorem Own.cellAt {E : TypeId} {base : Nat} {w : World} {g n cap : Nat} {l : List UInt8} (h : Own E base w (.slice (some ⟨g, 0, none⟩) n cap) l) (j : Nat) (hj : j < l.length) :
    w.cell? ⟨g, j, none⟩ = some (.int .u8 (l[j].toNat : Int)) := by
  have hn : n = l.length := by
    rcases h.2 with ⟨h3, _⟩ | ⟨_, _, _, h3, _⟩
    · cases h3
    · injection h3
  subst hn
  rw [World.ownsRow.cellAt h j (by omega)]
  simp [bytesV, hj, byteV]
theorem Own.frozenAt {E : TypeId} {base : Nat} {w : World} {g n cap : Nat} {l : List UInt8} (h : Own E base w (.slice (some ⟨g, 0, none⟩) n cap) l) (j : Nat) : w.frozen? ⟨g, j, none⟩ = false := by
  have hn : n = l.length := by
    rcases h.2 with ⟨h3, _⟩ | ⟨_, _, _, h3, _⟩
    · cases h3
    · injection h3
  subst hn
  exact World.ownsRow.frozenAt h j
theorem Own.set {E : TypeId} {base : Nat} {w : World} {g n cap : Nat} {l : List UInt8} (h : Own E base w (.slice (some ⟨g, 0, none⟩) n cap) l) (j : Nat) (x : UInt8) (z : Int) (hz : z = x.toNat) :
    Own E base (w.setCell ⟨g, j, none⟩ (.int .u8 z)) (.slice (some ⟨g, 0, none⟩) n cap) (l.set j x) := by
  have hn : n = l.length := by
    rcases h.2 with ⟨h3, _⟩ | ⟨_, _, _, h3, _⟩
    · cases h3
    · injection h3
  subst hn hz
  have := (World.ownsRow.stored h j (.int .u8 (x.toNat : Int))).1
  unfold Own
  rw [List.length_set]
  have e : bytesV (l.set j x) = (bytesV l).set j (.int .u8 (x.toNat : Int)) := by simp [bytesV, byteV, List.map_set]
  rw [e]
  exact this

theorem ret_int {k : IntKind} {a b : Int} (h : a = b) : Ending.returned (.int k a) = .returned (.int k b) := by rw [h]

/-- append(s, x...) where s is a row of the call's own and x any slice of bytes. -/
theorem wp_append {P : Program} {w : World} {o : Oper} {a : Act} {K : Act → World → Prop} {Q : Exit → Act → World → Prop} (s x : Operand) (t : TypeId)
    (ho : o.op = .call { callee := .builtin .append, args := #[s, x], argTypes := #[t, t] })
    (base : Nat) (e : TypeId) (i : TypeInfo) (ht : P.underlying t = some (.slice e)) (hi : P.info? e = some i) (hz : i.zero = some (.int .u8 0)) (hsize : i.size = 1) (hby : i.bytes = 1)
    (v : Value) (l : List UInt8) (hs : a.eval s = v) (hown : Own e base w v l)
    (v2 : Value) (m : List UInt8) (hx : a.eval x = v2) (hm : IsB w v2 m)
    (hbytes : l.length + m.length ≤ 140737488355328) (hbase : base ≤ w.heap.size)
    (h : ∀ v' w', Own e base w' v' (l ++ m) → Below base w w' → w.grownBy w' v.ownBlock → K (a.put o.dst v') w') : o.wp P a w K Q := by
  by_cases hm0 : m = []
  · subst hm0
    obtain ⟨p, c, rfl, h1, h2, h3, h4⟩ := hm
    simp only [bytesV, List.map_nil, List.length_nil] at *
    cases p with
    | some ad =>
      refine wp_append_own w s x t ho base e i (.int .u8 0) 1 1 ht hi hz hsize hby rfl (by decide) v l.length (bytesV l) hs hown ad 0 c [] hx rfl (fun j u hu => by simp at hu) (fun u hu => by cases hu) (by simp [maxLen]; omega) (by omega) hbase ?_
      intro v' w' h5 h6 _
      exact h v' w' (by simpa [Own] using h5) (Below.grown (Below.refl _ _) h6 hbase hown.row) h6
    | none =>
      have hc0 := h3 rfl
      subst hc0
      have hrun := run_append_owned_none (P := P) w base t o.type e i 1 ht hi v l.length (bytesV l) hown
      unfold Oper.wp
      simp [execOp, ho, resolve, invoke, builtin, hs, hx, hrun, Result.andThen]
      exact h v w (by simpa using hown) (Below.refl _ _) (World.grownBy.refl _ _)
  · have hl0 : 0 < m.length := by cases m with | nil => exact absurd rfl hm0 | cons _ _ => simp
    obtain ⟨p, c, rfl, h1, h2, h3, h4⟩ := hm.form
    obtain ⟨b, o', rfl, hc⟩ := h4 hl0
    refine wp_append_own w s x t ho base e i (.int .u8 0) 1 1 ht hi hz hsize hby rfl (by decide) v l.length (bytesV l) hs hown ⟨b, o', none⟩ m.length c (bytesV m) hx (by simp) (fun j u hu => ?_) (oneCell_bytesV m) (by simp [maxLen]; omega) (by omega) hbase ?_
    · have hj : j < m.length := by
        have := (List.getElem?_eq_some_iff.1 hu).1
        simpa using this
      have hadd : (⟨b, o', none⟩ : Addr).add j = ⟨b, o' + j, none⟩ := by unfold Addr.add; split <;> simp_all
      rw [hadd, hc j hj]
      simpa [bytesV, hj, byteV] using hu
    · intro v' w' h5 h6 _
      exact h v' w' (by simpa [Own, bytesV_append] using h5) (Below.grown (Below.refl _ _) h6 hbase hown.row) h6

/-- The same at a list of operations .. -/
theorem wpl_append {P : Program} {w : World} {ops : Array Oper} {rest : List Oper} {o : Oper} {a : Act} {Q : Exit → Act → World → Prop} (hgd : o.guard = none) (s x : Operand) (t : TypeId)
    (ho : o.op = .call { callee := .builtin .append, args := #[s, x], argTypes := #[t, t] })
    (base : Nat) (e : TypeId) (i : TypeInfo) (ht : P.underlying t = some (.slice e)) (hi : P.info? e = some i) (hz : i.zero = some (.int .u8 0)) (hsize : i.size = 1) (hby : i.bytes = 1)
    (v : Value) (l : List UInt8) (hs : a.eval s = v) (hown : Own e base w v l)
    (v2 : Value) (m : List UInt8) (hx : a.eval x = v2) (hm : IsB w v2 m)
    (hbytes : l.length + m.length ≤ 140737488355328) (hbase : base ≤ w.heap.size)
    (h : ∀ v' w', Own e base w' v' (l ++ m) → Below base w w' → w.grownBy w' v.ownBlock → wpList P ops Q rest (a.put o.dst v') w') : wpList P ops Q (o :: rest) a w :=
  wpList_plain hgd fun _ hK => wp_append s x t ho base e i ht hi hz hsize hby v l hs hown v2 m hx hm hbytes hbase fun v' w' h1 h2 h3 => hK _ _ (h v' w' h1 h2 h3)

/-- .. and at a step of a region that draws its order. -/
theorem step_append {P : Program} {w : World} {ops : Array Oper} {o : Oper} {a : Act} {K : Act → World → Prop} {Q : Exit → Act → World → Prop} {E : Prop} (hgd : o.guard = none) (s x : Operand) (t : TypeId)
    (ho : o.op = .call { callee := .builtin .append, args := #[s, x], argTypes := #[t, t] })
    (base : Nat) (e : TypeId) (i : TypeInfo) (ht : P.underlying t = some (.slice e)) (hi : P.info? e = some i) (hz : i.zero = some (.int .u8 0)) (hsize : i.size = 1) (hby : i.bytes = 1)
    (v : Value) (l : List UInt8) (hs : a.eval s = v) (hown : Own e base w v l)
    (v2 : Value) (m : List UInt8) (hx : a.eval x = v2) (hm : IsB w v2 m)
    (hbytes : l.length + m.length ≤ 140737488355328) (hbase : base ≤ w.heap.size)
    (h : ∀ v' w', Own e base w' v' (l ++ m) → Below base w w' → w.grownBy w' v.ownBlock → K (a.put o.dst v') w') : if Region.wanted o (yielded ops a.tmps) = true then Oper.wp P o a w K Q else E := by
  rw [if_pos (show Region.wanted o (yielded ops a.tmps) = true by simp [Region.wanted, hgd])]
  exact wp_append s x t ho base e i ht hi hz hsize hby v l hs hown v2 m hx hm hbytes hbase h

end Go.Proofs.Ythjojkkapboonaa
