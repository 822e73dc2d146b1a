/- udp.Head, ref04.Mac: rows that are appended to. -/
import Derived.Test.YthjojkkapboonaaCD
namespace Go.Proofs.Ythjojkkapboonaa
set_option linter.unusedSimpArgs false
set_option linter.unusedVariables false
open Go.RowKit

def psB (src dst proto n : Int) : List UInt8 := put32 [src, dst] ++ [u8 0, u8 proto] ++ put16 [n % 65536]
set_option maxHeartbeats 1000000 in
set_option maxRecDepth 100000 in
theorem udpHead_any (src dst proto n : Int) (w : World) (h1 : 0 ≤ src ∧ src ≤ 4294967295) (h2 : 0 ≤ dst ∧ dst ≤ 4294967295) (h3 : 0 ≤ proto ∧ proto ≤ 255) :
    Calls Try.prog 98 #[.int .u32 src, .int .u32 dst, .int .u8 proto, .int .i64 n] w fun e w' => ∃ v', e = .returned v' ∧ Own 5 w.heap.size w' v' (psB src dst proto n) ∧ Grow w w' := by
  obtain ⟨i, hi, hz0, hz1, hz2⟩ := info_parts Try.info5
  have HI := Lib.hid hi
  have H0 := Lib.hid hz0
  have HQ1 := Lib.hid hz1
  have HQ2 := Lib.hid hz2
  have HB1 := Lib.hid h1
  have HB2 := Lib.hid h2
  have HB3 := Lib.hid h3
  clear hi hz0 hz1 hz2 h1 h2 h3
  go_enter Try.func98, Try.ntmps98
  go_wp2_with fail
  refine (put32_any _ [] _ [src, dst] _ (IsB.nil _) (IsI.lit .u32 _ _ [_, _] [src, dst] _ _ rfl rfl (by simp) rfl) (by simp) (by intro z hz; simp at hz; have := HB1.out; have := HB2.out; rcases hz with rfl | rfl <;> omega)).mono ?_
  rintro e w1 ⟨v1, rfl, ho1, g1⟩
  have ho1' := ho1.mono (show w.heap.size ≤ _ from by simp)
  have g1' : Grow w w1 := Grow.trans (Grow.a1 _ _) g1
  clear ho1 g1
  go_wp2_with (at_builtin; go_must (refine wpl_append rfl _ _ _ rfl w.heap.size 5 i Try.underlying38 HI.out H0.out HQ1.out HQ2.out _ _ rfl (ho1'.grow (Grow.a1 _ _)) _ [u8 0, u8 proto] rfl (IsB.built2 _ _ _ _ _ _ (by rw [u8_toNat]; rfl) (by rw [u8_toNat]; have := HB3.out; omega)) (by simp [length_put32]) (by have := g1'.le; simp; omega) ?_); intro v2 w2 ho2 hbl hgr)
  have g2 : Grow w w2 := (g1'.alloc _).on hbl (Nat.le_refl _)
  clear hbl hgr ho1' g1'
  refine (put16_any _ _ _ [n % 65536] _ (ho2.isB.grow (Grow.a1 _ _)) (IsI.lit .u16 _ _ [_] [n % 65536] _ _ rfl rfl (by simp) (by simp [IntKind.wrap_u16])) (by simp [length_put32]) (by intro z hz; simp at hz; omega)).mono ?_
  rintro e w3 ⟨v3, rfl, ho3, g3⟩
  have ho3' := ho3.mono (show w.heap.size ≤ _ from by have := g2.le; simp; omega)
  have g3' : Grow w w3 := (g2.alloc _).trans g3
  clear ho3 g3
  go_wp2_with fail
  go_ret
  exact ⟨_, rfl, by simpa [psB] using ho3', g3'⟩
theorem head_a (src dst proto n : Int) (h1 : 0 ≤ src ∧ src ≤ 4294967295) (h2 : 0 ≤ dst ∧ dst ≤ 4294967295) (h3 : 0 ≤ proto ∧ proto ≤ 255) : ASpec Try.prog 98 [u32A src, u32A dst, u8A proto, i64 n] (.bs (psB src dst proto n)) := by
  refine .mk (okF _ Try.func98 (by kernel_rfl) rfl) fun M w vs hM h => ?_
  obtain ⟨_, vs, rfl, q1, h⟩ := h.cons_iff
  obtain ⟨_, vs, rfl, q2, h⟩ := h.cons_iff
  obtain ⟨_, vs, rfl, q3, h⟩ := h.cons_iff
  obtain ⟨_, vs, rfl, q4, h⟩ := h.cons_iff
  obtain rfl := h.nil_iff
  rw [RepV.one_iff] at q1 q2 q3 q4
  subst q1 q2 q3 q4
  refine (udpHead_any src dst proto n w h1 h2 h3).mono ?_
  rintro e w' ⟨v', rfl, ho, g⟩
  exact ⟨_, rfl, RepV.ofOwn ho hM, g⟩

theorem made0k (E : TypeId) (base : Nat) (w : World) (k : Nat) (hk : k = w.heap.size) (h : base ≤ w.heap.size) : Own E base (w.alloc (.cells #[] E)) (.slice (some ⟨k, 0, none⟩) 0 0) [] := by
  subst hk
  exact Own.made0 E base w h
def mac1 (m : Nat → Int) (k : Nat) : List UInt8 := [u8 (m k)]
theorem mac1_built (m : Nat → Int) (k : Nat) (w : World) (E : TypeId) (h1 : 0 ≤ m k) (h2 : m k ≤ 255) : IsB (w.alloc (.cells #[.int .u8 (m k)] E)) (.slice (some ⟨w.heap.size, 0, none⟩) 1 1) (mac1 m k) := IsB.built1 _ _ _ _ (by rw [u8_toNat]; omega)
def macB (m : Nat → Int) (k : Nat) : List UInt8 := (List.range k).map fun i => u8 (m i)
theorem macB_succ (m : Nat → Int) (k : Nat) : macB m (k + 1) = macB m k ++ mac1 m k := by simp [macB, mac1, List.range_succ]


















































end Go.Proofs.Ythjojkkapboonaa
