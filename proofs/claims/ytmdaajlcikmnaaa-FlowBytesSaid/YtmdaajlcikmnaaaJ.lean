/- The statements of chapter 2, further: SumOf, SumFills, SumKeeps: the walks. -/
import Derived.Test.YtmdaajlcikmnaaaF
import Derived.Test.YtmdaajlcikmnaaaI
namespace Go.Proofs.Ytmdaajlcikmnaaa
open Go.RowKit

set_option maxHeartbeats 1000000 in
theorem sumOf_walk (v0 v1 v2 : Value) (l0 l1 l2 : List UInt8) (w : World) (b0 : IsB w v0 l0) (b1 : IsB w v1 l1) (b2 : IsB w v2 l2) :
    Calls Try.prog 4 #[v0, v1, v2] w fun e w' => e = .returned (.bool true) ∧ Grow w w' := by
  go_enter Try.func4, Try.ntmps4
  go_wp2_with fail
  refine (few_any _ _ _ _ b0 (by omega)).mono ?_; rintro e w' ⟨x0, rfl, c0, rfl⟩; obtain ⟨p0, k0, s0, rfl⟩ := c0.isSlice
  go_wp2_with fail
  refine (few_any _ _ _ _ b1 (by omega)).mono ?_; rintro e w' ⟨x1, rfl, c1, rfl⟩; obtain ⟨p1, k1, s1, rfl⟩ := c1.isSlice
  go_wp2_with fail
  refine (few_any _ _ _ _ b2 (by omega)).mono ?_; rintro e w' ⟨x2, rfl, c2, rfl⟩; obtain ⟨p2, k2, s2, rfl⟩ := c2.isSlice
  have n0 : (l0.take (200 : Int).toNat).length ≤ 200 := by rw [List.length_take]; omega
  have n1 : (l1.take (200 : Int).toNat).length ≤ 200 := by rw [List.length_take]; omega
  have n2 : (l2.take (200 : Int).toNat).length ≤ 200 := by rw [List.length_take]; omega
  generalize l0.take (200 : Int).toNat = m0 at *
  generalize l1.take (200 : Int).toNat = m1 at *
  generalize l2.take (200 : Int).toNat = m2 at *
  clear b0 b1 b2
  go_wp2_with fail
  refine (add_any _ _ _ _ _ c1 c2 (by omega)).mono ?_; rintro e w1 ⟨x3, rfl, o3, g1⟩
  go_wp2_with fail
  refine (add_any _ _ _ _ _ (c0.grow g1) o3.isB (by simp; omega)).mono ?_; rintro e w2 ⟨x4, rfl, o4, g2⟩; obtain ⟨p4, k4, s4, rfl⟩ := o4.isB.isSlice
  have nA : (m0 ++ (m1 ++ m2)).length ≤ 600 := by simp; omega
  obtain ⟨A, hA⟩ : ∃ A, m0 ++ (m1 ++ m2) = A := ⟨_, rfl⟩
  have c4 : IsB w2 (.slice p4 k4 s4) A := by rw [← hA]; exact o4.isB
  rw [hA] at nA
  have HA := Lib.hid hA
  have bA := onesF_bd A
  clear hA o4 o3
  go_wp2_with fail
  refine (refOnes_any _ _ _ c4 (by omega)).mono ?_; rintro e w' ⟨rfl, rfl⟩
  have g12 := g1.trans g2
  go_wp2_with fail
  refine (sumOnes_any _ [m0, m1, m2] A _ (IsBB.lit _ _ [_, _, _] _ _ _ (by first | rfl | simp) rfl (by simp) (.three (c0.grow g12) (c1.grow g12) (c2.grow g12))) (by rw [← HA.out]; simp) (by omega)).mono ?_; rintro e w3 ⟨rfl, g3⟩
  have g13 := (g12.alloc _).trans g3
  have g23 := ((Grow.refl w2).alloc _).trans g3
  go_wp2_with fail
  refine (of_any _ [m0, m1, m2] A _ (IsBB.lit _ _ [_, _, _] _ _ _ (by first | rfl | simp) rfl (by simp) (.three (c0.grow g13) (c1.grow g13) (c2.grow g13))) (by rw [← HA.out]; simp) (by omega)).mono ?_; rintro e w4 ⟨rfl, g4⟩
  have g14 := (g13.alloc _).trans g4
  have g24 := (g23.alloc _).trans g4
  go_wp2_with fail
  refine (refOf_any _ _ _ (c4.grow g24) (by omega)).mono ?_; rintro e w' ⟨rfl, rfl⟩
  go_wp2_with fail
  refine (right_any _ [m0, m1, m2] A _ (IsBB.lit _ _ [_, _, _] _ _ _ (by first | rfl | simp) rfl (by simp) (.three (c0.grow g14) (c1.grow g14) (c2.grow g14))) (by rw [← HA.out]; simp) (by omega)).mono ?_; rintro e w5 ⟨rfl, g5⟩
  have g15 := (g14.alloc _).trans g5
  have g25 := (g24.alloc _).trans g5
  go_wp2_with fail
  refine (sumOnes_any _ [A] A _ (IsBB.lit _ _ [_] _ _ _ (by first | rfl | simp) rfl (by simp) (.one (c4.grow g25))) (by simp) (by omega)).mono ?_; rintro e w6 ⟨rfl, g6⟩
  have g16 := (g15.alloc _).trans g6
  go_wp2_with fail
  refine (lives02_any _).mono ?_; rintro e w7 ⟨rfl, g7⟩
  go_wp2_with fail
  go_ret
  exact ⟨rfl, g16.trans g7⟩
end Go.Proofs.Ytmdaajlcikmnaaa
