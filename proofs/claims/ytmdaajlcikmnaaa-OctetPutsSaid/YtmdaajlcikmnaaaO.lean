/- The statement of chapter 1: OctetPuts: the walk. -/
import Derived.Test.YtmdaajlcikmnaaaN
namespace Go.Proofs.Ytmdaajlcikmnaaa
open Go.RowKit

set_option maxHeartbeats 2000000 in
theorem octetPuts_walk (v0 : Value) (l0 : List UInt8) (at_ n k m : Int) (w : World) (b0 : IsB w v0 l0) (ha : -9223372036854775808 ≤ at_ ∧ at_ ≤ 9223372036854775807) (hn : 0 ≤ n ∧ n ≤ 65535) (hk : 0 ≤ k ∧ k ≤ 4294967295) (hm : 0 ≤ m ∧ m ≤ 4294967295) :
    Calls Try.prog 11 #[v0, .int .i64 at_, .int .u16 n, .int .u32 k, .int .u32 m] w fun e w' => e = .returned (.bool true) ∧ Grow w w' := by
  obtain ⟨hn1, hn2⟩ := hn
  obtain ⟨hk1, hk2⟩ := hk
  obtain ⟨hm1, hm2⟩ := hm
  have hw := IntKind.wrap_u16 k
  go_enter Try.func11, Try.ntmps11
  go_wp2_with fail
  refine (few_any _ _ _ _ b0 (by omega)).mono ?_; rintro e w' ⟨x0, rfl, c0, rfl⟩
  obtain ⟨b, Hb, c0⟩ := c0.named
  obtain ⟨p1c0, k1c0, rfl⟩ := c0.opened
  have k0 : b.length ≤ 300 := by rw [Hb.out, List.length_take]; omega
  clear b0 Hb
  go_wp2_with fail
  refine (put16_any _ b _ [n, k % 65536] _ (c0.grow (by first | exact Grow.refl _ | exact Grow.a1 _ _ | exact Grow.a2 _ _ _ | exact Grow.a3 _ _ _ _ | exact Grow.a4 _ _ _ _ _ | exact Grow.a5 _ _ _ _ _ _ | exact Grow.a6 _ _ _ _ _ _ _)) (IsI.lit _ _ _ [_, _] _ _ _ (by first | rfl | simp) rfl (by simp) rfl) (by simp; omega) (by intro z hz; simp at hz; rcases hz with rfl | rfl <;> omega)).mono ?_; rintro e w2 ⟨x2, rfl, o2, gn⟩
  have c2 := o2.isB
  obtain ⟨M2, HM2, c2⟩ := c2.named
  obtain ⟨p2c2, k2c2, rfl⟩ := c2.opened
  have gs : Grow w w2 := Grow.trans (by first | exact Grow.refl _ | exact Grow.a1 _ _ | exact Grow.a2 _ _ _ | exact Grow.a3 _ _ _ _ | exact Grow.a4 _ _ _ _ _ | exact Grow.a5 _ _ _ _ _ _ | exact Grow.a6 _ _ _ _ _ _ _) gn
  replace c0 := c0.grow gs
  have g := gs
  clear gs gn
  go_wp2_with fail
  refine (refPut_any _ 2 _ (by omega) (by omega)).mono ?_; rintro e w3 ⟨x3, rfl, o3, gn⟩
  have c3 := o3.isB
  obtain ⟨M3, HM3, c3⟩ := c3.named
  obtain ⟨p3c3, k3c3, rfl⟩ := c3.opened
  have gs : Grow w2 w3 := Grow.trans (by first | exact Grow.refl _ | exact Grow.a1 _ _ | exact Grow.a2 _ _ _ | exact Grow.a3 _ _ _ _ | exact Grow.a4 _ _ _ _ _ | exact Grow.a5 _ _ _ _ _ _ | exact Grow.a6 _ _ _ _ _ _ _) gn
  replace c0 := c0.grow gs
  replace c2 := c2.grow gs
  replace g := g.trans gs
  clear gs gn
  have k3 : M3.length ≤ 2 := by rw [HM3.out, length_lowB]; omega
  go_wp2_with fail
  refine (refPut_any _ 2 _ (by omega) (by omega)).mono ?_; rintro e w4 ⟨x4, rfl, o4, gn⟩
  have c4 := o4.isB
  obtain ⟨M4, HM4, c4⟩ := c4.named
  obtain ⟨p4c4, k4c4, rfl⟩ := c4.opened
  have gs : Grow w3 w4 := Grow.trans (by first | exact Grow.refl _ | exact Grow.a1 _ _ | exact Grow.a2 _ _ _ | exact Grow.a3 _ _ _ _ | exact Grow.a4 _ _ _ _ _ | exact Grow.a5 _ _ _ _ _ _ | exact Grow.a6 _ _ _ _ _ _ _) gn
  replace c0 := c0.grow gs
  replace c2 := c2.grow gs
  replace c3 := c3.grow gs
  replace g := g.trans gs
  clear gs gn
  have k4 : M4.length ≤ 2 := by rw [HM4.out, length_lowB]; omega
  go_wp2_with fail
  refine (add_any _ _ _ _ _ (c3.grow (by first | exact Grow.refl _ | exact Grow.a1 _ _ | exact Grow.a2 _ _ _ | exact Grow.a3 _ _ _ _ | exact Grow.a4 _ _ _ _ _ | exact Grow.a5 _ _ _ _ _ _ | exact Grow.a6 _ _ _ _ _ _ _)) (c4.grow (by first | exact Grow.refl _ | exact Grow.a1 _ _ | exact Grow.a2 _ _ _ | exact Grow.a3 _ _ _ _ | exact Grow.a4 _ _ _ _ _ | exact Grow.a5 _ _ _ _ _ _ | exact Grow.a6 _ _ _ _ _ _ _)) (by omega)).mono ?_; rintro e w5 ⟨x5, rfl, o5, gn⟩
  have c5 := o5.isB
  obtain ⟨M5, HM5, c5⟩ := c5.named
  obtain ⟨p5c5, k5c5, rfl⟩ := c5.opened
  have gs : Grow w4 w5 := Grow.trans (by first | exact Grow.refl _ | exact Grow.a1 _ _ | exact Grow.a2 _ _ _ | exact Grow.a3 _ _ _ _ | exact Grow.a4 _ _ _ _ _ | exact Grow.a5 _ _ _ _ _ _ | exact Grow.a6 _ _ _ _ _ _ _) gn
  replace c0 := c0.grow gs
  replace c2 := c2.grow gs
  replace c3 := c3.grow gs
  replace c4 := c4.grow gs
  replace g := g.trans gs
  clear gs gn
  have k5 : M5.length ≤ 4 := by rw [HM5.out, List.length_append]; omega
  go_wp2_with fail
  refine (add_any _ _ _ _ _ (c0.grow (by first | exact Grow.refl _ | exact Grow.a1 _ _ | exact Grow.a2 _ _ _ | exact Grow.a3 _ _ _ _ | exact Grow.a4 _ _ _ _ _ | exact Grow.a5 _ _ _ _ _ _ | exact Grow.a6 _ _ _ _ _ _ _)) (c5.grow (by first | exact Grow.refl _ | exact Grow.a1 _ _ | exact Grow.a2 _ _ _ | exact Grow.a3 _ _ _ _ | exact Grow.a4 _ _ _ _ _ | exact Grow.a5 _ _ _ _ _ _ | exact Grow.a6 _ _ _ _ _ _ _)) (by omega)).mono ?_; rintro e w6 ⟨x6, rfl, o6, gn⟩
  have c6 := o6.isB
  obtain ⟨M6, HM6, c6⟩ := c6.named
  obtain ⟨p6c6, k6c6, rfl⟩ := c6.opened
  have gs : Grow w5 w6 := Grow.trans (by first | exact Grow.refl _ | exact Grow.a1 _ _ | exact Grow.a2 _ _ _ | exact Grow.a3 _ _ _ _ | exact Grow.a4 _ _ _ _ _ | exact Grow.a5 _ _ _ _ _ _ | exact Grow.a6 _ _ _ _ _ _ _) gn
  replace c0 := c0.grow gs
  replace c2 := c2.grow gs
  replace c3 := c3.grow gs
  replace c4 := c4.grow gs
  replace c5 := c5.grow gs
  replace g := g.trans gs
  clear gs gn
  go_wp2_with fail
  refine (refSame_eq _ _ _ _ _ (c2.grow (by first | exact Grow.refl _ | exact Grow.a1 _ _ | exact Grow.a2 _ _ _ | exact Grow.a3 _ _ _ _ | exact Grow.a4 _ _ _ _ _ | exact Grow.a5 _ _ _ _ _ _ | exact Grow.a6 _ _ _ _ _ _ _)) (c6.grow (by first | exact Grow.refl _ | exact Grow.a1 _ _ | exact Grow.a2 _ _ _ | exact Grow.a3 _ _ _ _ | exact Grow.a4 _ _ _ _ _ | exact Grow.a5 _ _ _ _ _ _ | exact Grow.a6 _ _ _ _ _ _ _)) (by rw [HM2.out, HM6.out, HM5.out, HM3.out, HM4.out, lowB_two, lowB_two, ← put16_append]; rfl)).mono ?_; rintro e w7 ⟨rfl, gn⟩
  have gs : Grow w6 w7 := Grow.trans (by first | exact Grow.refl _ | exact Grow.a1 _ _ | exact Grow.a2 _ _ _ | exact Grow.a3 _ _ _ _ | exact Grow.a4 _ _ _ _ _ | exact Grow.a5 _ _ _ _ _ _ | exact Grow.a6 _ _ _ _ _ _ _) gn
  replace c0 := c0.grow gs
  replace c2 := c2.grow gs
  replace c3 := c3.grow gs
  replace c4 := c4.grow gs
  replace c5 := c5.grow gs
  replace c6 := c6.grow gs
  replace g := g.trans gs
  clear gs gn
  clear c2 c3 c4 c5 c6 HM2 HM3 HM4 HM5 HM6 k3 k4 k5 o2 o3 o4 o5 o6
  go_wp2_with fail
  refine (put32_any _ b _ [k, m] _ (c0.grow (by first | exact Grow.refl _ | exact Grow.a1 _ _ | exact Grow.a2 _ _ _ | exact Grow.a3 _ _ _ _ | exact Grow.a4 _ _ _ _ _ | exact Grow.a5 _ _ _ _ _ _ | exact Grow.a6 _ _ _ _ _ _ _)) (IsI.lit _ _ _ [_, _] _ _ _ (by first | rfl | simp) rfl (by simp) rfl) (by simp; omega) (by intro z hz; simp at hz; rcases hz with rfl | rfl <;> omega)).mono ?_; rintro e w8 ⟨y2, rfl, o2, gn⟩
  have d2 := o2.isB
  obtain ⟨N2, HN2, d2⟩ := d2.named
  obtain ⟨p8d2, k8d2, rfl⟩ := d2.opened
  have gs : Grow w7 w8 := Grow.trans (by first | exact Grow.refl _ | exact Grow.a1 _ _ | exact Grow.a2 _ _ _ | exact Grow.a3 _ _ _ _ | exact Grow.a4 _ _ _ _ _ | exact Grow.a5 _ _ _ _ _ _ | exact Grow.a6 _ _ _ _ _ _ _) gn
  replace c0 := c0.grow gs
  replace g := g.trans gs
  clear gs gn
  go_wp2_with fail
  refine (refPut_any _ 4 _ (by omega) (by omega)).mono ?_; rintro e w9 ⟨y3, rfl, o3, gn⟩
  have d3 := o3.isB
  obtain ⟨N3, HN3, d3⟩ := d3.named
  obtain ⟨p9d3, k9d3, rfl⟩ := d3.opened
  have gs : Grow w8 w9 := Grow.trans (by first | exact Grow.refl _ | exact Grow.a1 _ _ | exact Grow.a2 _ _ _ | exact Grow.a3 _ _ _ _ | exact Grow.a4 _ _ _ _ _ | exact Grow.a5 _ _ _ _ _ _ | exact Grow.a6 _ _ _ _ _ _ _) gn
  replace c0 := c0.grow gs
  replace d2 := d2.grow gs
  replace g := g.trans gs
  clear gs gn
  have k3 : N3.length ≤ 4 := by rw [HN3.out, length_lowB]; omega
  go_wp2_with fail
  refine (refPut_any _ 4 _ (by omega) (by omega)).mono ?_; rintro e w10 ⟨y4, rfl, o4, gn⟩
  have d4 := o4.isB
  obtain ⟨N4, HN4, d4⟩ := d4.named
  obtain ⟨p10d4, k10d4, rfl⟩ := d4.opened
  have gs : Grow w9 w10 := Grow.trans (by first | exact Grow.refl _ | exact Grow.a1 _ _ | exact Grow.a2 _ _ _ | exact Grow.a3 _ _ _ _ | exact Grow.a4 _ _ _ _ _ | exact Grow.a5 _ _ _ _ _ _ | exact Grow.a6 _ _ _ _ _ _ _) gn
  replace c0 := c0.grow gs
  replace d2 := d2.grow gs
  replace d3 := d3.grow gs
  replace g := g.trans gs
  clear gs gn
  have k4 : N4.length ≤ 4 := by rw [HN4.out, length_lowB]; omega
  go_wp2_with fail
  refine (add_any _ _ _ _ _ (d3.grow (by first | exact Grow.refl _ | exact Grow.a1 _ _ | exact Grow.a2 _ _ _ | exact Grow.a3 _ _ _ _ | exact Grow.a4 _ _ _ _ _ | exact Grow.a5 _ _ _ _ _ _ | exact Grow.a6 _ _ _ _ _ _ _)) (d4.grow (by first | exact Grow.refl _ | exact Grow.a1 _ _ | exact Grow.a2 _ _ _ | exact Grow.a3 _ _ _ _ | exact Grow.a4 _ _ _ _ _ | exact Grow.a5 _ _ _ _ _ _ | exact Grow.a6 _ _ _ _ _ _ _)) (by omega)).mono ?_; rintro e w11 ⟨y5, rfl, o5, gn⟩
  have d5 := o5.isB
  obtain ⟨N5, HN5, d5⟩ := d5.named
  obtain ⟨p11d5, k11d5, rfl⟩ := d5.opened
  have gs : Grow w10 w11 := Grow.trans (by first | exact Grow.refl _ | exact Grow.a1 _ _ | exact Grow.a2 _ _ _ | exact Grow.a3 _ _ _ _ | exact Grow.a4 _ _ _ _ _ | exact Grow.a5 _ _ _ _ _ _ | exact Grow.a6 _ _ _ _ _ _ _) gn
  replace c0 := c0.grow gs
  replace d2 := d2.grow gs
  replace d3 := d3.grow gs
  replace d4 := d4.grow gs
  replace g := g.trans gs
  clear gs gn
  have k5 : N5.length ≤ 8 := by rw [HN5.out, List.length_append]; omega
  go_wp2_with fail
  refine (add_any _ _ _ _ _ (c0.grow (by first | exact Grow.refl _ | exact Grow.a1 _ _ | exact Grow.a2 _ _ _ | exact Grow.a3 _ _ _ _ | exact Grow.a4 _ _ _ _ _ | exact Grow.a5 _ _ _ _ _ _ | exact Grow.a6 _ _ _ _ _ _ _)) (d5.grow (by first | exact Grow.refl _ | exact Grow.a1 _ _ | exact Grow.a2 _ _ _ | exact Grow.a3 _ _ _ _ | exact Grow.a4 _ _ _ _ _ | exact Grow.a5 _ _ _ _ _ _ | exact Grow.a6 _ _ _ _ _ _ _)) (by omega)).mono ?_; rintro e w12 ⟨y6, rfl, o6, gn⟩
  have d6 := o6.isB
  obtain ⟨N6, HN6, d6⟩ := d6.named
  obtain ⟨p12d6, k12d6, rfl⟩ := d6.opened
  have gs : Grow w11 w12 := Grow.trans (by first | exact Grow.refl _ | exact Grow.a1 _ _ | exact Grow.a2 _ _ _ | exact Grow.a3 _ _ _ _ | exact Grow.a4 _ _ _ _ _ | exact Grow.a5 _ _ _ _ _ _ | exact Grow.a6 _ _ _ _ _ _ _) gn
  replace c0 := c0.grow gs
  replace d2 := d2.grow gs
  replace d3 := d3.grow gs
  replace d4 := d4.grow gs
  replace d5 := d5.grow gs
  replace g := g.trans gs
  clear gs gn
  go_wp2_with fail
  refine (refSame_eq _ _ _ _ _ (d2.grow (by first | exact Grow.refl _ | exact Grow.a1 _ _ | exact Grow.a2 _ _ _ | exact Grow.a3 _ _ _ _ | exact Grow.a4 _ _ _ _ _ | exact Grow.a5 _ _ _ _ _ _ | exact Grow.a6 _ _ _ _ _ _ _)) (d6.grow (by first | exact Grow.refl _ | exact Grow.a1 _ _ | exact Grow.a2 _ _ _ | exact Grow.a3 _ _ _ _ | exact Grow.a4 _ _ _ _ _ | exact Grow.a5 _ _ _ _ _ _ | exact Grow.a6 _ _ _ _ _ _ _)) (by rw [HN2.out, HN6.out, HN5.out, HN3.out, HN4.out, lowB_four, lowB_four, ← put32_append]; rfl)).mono ?_; rintro e w13 ⟨rfl, gn⟩
  have gs : Grow w12 w13 := Grow.trans (by first | exact Grow.refl _ | exact Grow.a1 _ _ | exact Grow.a2 _ _ _ | exact Grow.a3 _ _ _ _ | exact Grow.a4 _ _ _ _ _ | exact Grow.a5 _ _ _ _ _ _ | exact Grow.a6 _ _ _ _ _ _ _) gn
  replace c0 := c0.grow gs
  replace d2 := d2.grow gs
  replace d3 := d3.grow gs
  replace d4 := d4.grow gs
  replace d5 := d5.grow gs
  replace d6 := d6.grow gs
  replace g := g.trans gs
  clear gs gn
  clear d2 d3 d4 d5 d6 HN2 HN3 HN4 HN5 HN6 k3 k4 k5 o2 o3 o4 o5 o6
  by_cases hb : thereB b.length at_ 2 = true
  · obtain ⟨t1, t2, t3, t4⟩ := thereB_iff.1 hb
    have HB := Lib.hid hb
    clear hb
    obtain ⟨a, rfl⟩ := Int.eq_ofNat_of_zero_le t1
    go_wp2_with fail
    refine (set16_any _ _ _ _ _ (c0.grow (by first | exact Grow.refl _ | exact Grow.a1 _ _ | exact Grow.a2 _ _ _ | exact Grow.a3 _ _ _ _ | exact Grow.a4 _ _ _ _ _ | exact Grow.a5 _ _ _ _ _ _ | exact Grow.a6 _ _ _ _ _ _ _)) (by omega) (by omega) (by omega)).mono ?_; rintro e w14 ⟨z2, rfl, o2, gn⟩
    have e2 := o2.isB
    have gs : Grow w13 w14 := Grow.trans (by first | exact Grow.refl _ | exact Grow.a1 _ _ | exact Grow.a2 _ _ _ | exact Grow.a3 _ _ _ _ | exact Grow.a4 _ _ _ _ _ | exact Grow.a5 _ _ _ _ _ _ | exact Grow.a6 _ _ _ _ _ _ _) gn
    replace c0 := c0.grow gs
    replace g := g.trans gs
    clear gs gn
    rw [HB.out]
    rw [set16_split n (by omega)] at e2
    clear o2
    obtain ⟨S, HS, e2⟩ := e2.named
    obtain ⟨ps, ks, rfl⟩ := e2.opened
    go_wp2_with fail
    refine (refGet_yes _ _ _ 2 _ (c0.grow (by first | exact Grow.refl _ | exact Grow.a1 _ _ | exact Grow.a2 _ _ _ | exact Grow.a3 _ _ _ _ | exact Grow.a4 _ _ _ _ _ | exact Grow.a5 _ _ _ _ _ _ | exact Grow.a6 _ _ _ _ _ _ _)) (by omega) (by omega) HB.out).mono ?_; rintro e w' ⟨rfl, rfl⟩
    go_wp2_with fail
    refine (refCut_any _ _ 0 _ _ (c0.grow (by first | exact Grow.refl _ | exact Grow.a1 _ _ | exact Grow.a2 _ _ _ | exact Grow.a3 _ _ _ _ | exact Grow.a4 _ _ _ _ _ | exact Grow.a5 _ _ _ _ _ _ | exact Grow.a6 _ _ _ _ _ _ _)) (by omega) (by omega)).mono ?_; rintro e w16 ⟨x2, rfl, o2, gn⟩
    have c2 := o2.isB
    have gs : Grow w14 w16 := Grow.trans (by first | exact Grow.refl _ | exact Grow.a1 _ _ | exact Grow.a2 _ _ _ | exact Grow.a3 _ _ _ _ | exact Grow.a4 _ _ _ _ _ | exact Grow.a5 _ _ _ _ _ _ | exact Grow.a6 _ _ _ _ _ _ _) gn
    replace c0 := c0.grow gs
    replace e2 := e2.grow gs
    replace g := g.trans gs
    clear gs gn
    rw [cut_head (by omega)] at c2
    clear o2
    obtain ⟨h, Hh, c2⟩ := c2.named
    obtain ⟨p2, k2, rfl⟩ := c2.opened
    go_wp2_with fail
    refine (refCut_any _ _ _ _ _ (c0.grow (by first | exact Grow.refl _ | exact Grow.a1 _ _ | exact Grow.a2 _ _ _ | exact Grow.a3 _ _ _ _ | exact Grow.a4 _ _ _ _ _ | exact Grow.a5 _ _ _ _ _ _ | exact Grow.a6 _ _ _ _ _ _ _)) (by omega) (by omega)).mono ?_; rintro e w17 ⟨x3, rfl, o3, gn⟩
    have c3 := o3.isB
    have gs : Grow w16 w17 := Grow.trans (by first | exact Grow.refl _ | exact Grow.a1 _ _ | exact Grow.a2 _ _ _ | exact Grow.a3 _ _ _ _ | exact Grow.a4 _ _ _ _ _ | exact Grow.a5 _ _ _ _ _ _ | exact Grow.a6 _ _ _ _ _ _ _) gn
    replace c0 := c0.grow gs
    replace e2 := e2.grow gs
    replace c2 := c2.grow gs
    replace g := g.trans gs
    clear gs gn
    rw [show ((a : Int) + 2) = ((a + 2 : Nat) : Int) by omega, cut_tail (by omega) (by omega)] at c3
    clear o3
    obtain ⟨t, Ht, c3⟩ := c3.named
    obtain ⟨p3, k3, rfl⟩ := c3.opened
    have j2 : h.length ≤ 300 := by rw [Hh.out, List.length_take]; omega
    have j3 : t.length ≤ 300 := by rw [Ht.out, List.length_drop]; omega
    go_wp2_with fail
    refine (refPut_any _ 2 _ (by omega) (by omega)).mono ?_; rintro e w18 ⟨x4, rfl, o4, gn⟩
    have c4 := o4.isB
    obtain ⟨M4, HM4, c4⟩ := c4.named
    obtain ⟨p18c4, k18c4, rfl⟩ := c4.opened
    have gs : Grow w17 w18 := Grow.trans (by first | exact Grow.refl _ | exact Grow.a1 _ _ | exact Grow.a2 _ _ _ | exact Grow.a3 _ _ _ _ | exact Grow.a4 _ _ _ _ _ | exact Grow.a5 _ _ _ _ _ _ | exact Grow.a6 _ _ _ _ _ _ _) gn
    replace c0 := c0.grow gs
    replace e2 := e2.grow gs
    replace c2 := c2.grow gs
    replace c3 := c3.grow gs
    replace g := g.trans gs
    clear gs gn
    have k4 : M4.length ≤ 2 := by rw [HM4.out, length_lowB]; omega
    go_wp2_with fail
    refine (add_any _ _ _ _ _ (c4.grow (by first | exact Grow.refl _ | exact Grow.a1 _ _ | exact Grow.a2 _ _ _ | exact Grow.a3 _ _ _ _ | exact Grow.a4 _ _ _ _ _ | exact Grow.a5 _ _ _ _ _ _ | exact Grow.a6 _ _ _ _ _ _ _)) (c3.grow (by first | exact Grow.refl _ | exact Grow.a1 _ _ | exact Grow.a2 _ _ _ | exact Grow.a3 _ _ _ _ | exact Grow.a4 _ _ _ _ _ | exact Grow.a5 _ _ _ _ _ _ | exact Grow.a6 _ _ _ _ _ _ _)) (by omega)).mono ?_; rintro e w19 ⟨x5, rfl, o5, gn⟩
    have c5 := o5.isB
    obtain ⟨M5, HM5, c5⟩ := c5.named
    obtain ⟨p19c5, k19c5, rfl⟩ := c5.opened
    have gs : Grow w18 w19 := Grow.trans (by first | exact Grow.refl _ | exact Grow.a1 _ _ | exact Grow.a2 _ _ _ | exact Grow.a3 _ _ _ _ | exact Grow.a4 _ _ _ _ _ | exact Grow.a5 _ _ _ _ _ _ | exact Grow.a6 _ _ _ _ _ _ _) gn
    replace c0 := c0.grow gs
    replace e2 := e2.grow gs
    replace c2 := c2.grow gs
    replace c3 := c3.grow gs
    replace c4 := c4.grow gs
    replace g := g.trans gs
    clear gs gn
    have k5 : M5.length ≤ 302 := by rw [HM5.out, List.length_append]; omega
    go_wp2_with fail
    refine (add_any _ _ _ _ _ (c2.grow (by first | exact Grow.refl _ | exact Grow.a1 _ _ | exact Grow.a2 _ _ _ | exact Grow.a3 _ _ _ _ | exact Grow.a4 _ _ _ _ _ | exact Grow.a5 _ _ _ _ _ _ | exact Grow.a6 _ _ _ _ _ _ _)) (c5.grow (by first | exact Grow.refl _ | exact Grow.a1 _ _ | exact Grow.a2 _ _ _ | exact Grow.a3 _ _ _ _ | exact Grow.a4 _ _ _ _ _ | exact Grow.a5 _ _ _ _ _ _ | exact Grow.a6 _ _ _ _ _ _ _)) (by omega)).mono ?_; rintro e w20 ⟨x6, rfl, o6, gn⟩
    have c6 := o6.isB
    obtain ⟨M6, HM6, c6⟩ := c6.named
    obtain ⟨p20c6, k20c6, rfl⟩ := c6.opened
    have gs : Grow w19 w20 := Grow.trans (by first | exact Grow.refl _ | exact Grow.a1 _ _ | exact Grow.a2 _ _ _ | exact Grow.a3 _ _ _ _ | exact Grow.a4 _ _ _ _ _ | exact Grow.a5 _ _ _ _ _ _ | exact Grow.a6 _ _ _ _ _ _ _) gn
    replace c0 := c0.grow gs
    replace e2 := e2.grow gs
    replace c2 := c2.grow gs
    replace c3 := c3.grow gs
    replace c4 := c4.grow gs
    replace c5 := c5.grow gs
    replace g := g.trans gs
    clear gs gn
    go_wp2_with fail
    refine (refSame_eq _ _ _ _ _ (e2.grow (by first | exact Grow.refl _ | exact Grow.a1 _ _ | exact Grow.a2 _ _ _ | exact Grow.a3 _ _ _ _ | exact Grow.a4 _ _ _ _ _ | exact Grow.a5 _ _ _ _ _ _ | exact Grow.a6 _ _ _ _ _ _ _)) (c6.grow (by first | exact Grow.refl _ | exact Grow.a1 _ _ | exact Grow.a2 _ _ _ | exact Grow.a3 _ _ _ _ | exact Grow.a4 _ _ _ _ _ | exact Grow.a5 _ _ _ _ _ _ | exact Grow.a6 _ _ _ _ _ _ _)) (by rw [HS.out, HM6.out, HM5.out, HM4.out, lowB_two, Hh.out, Ht.out])).mono ?_; rintro e w21 ⟨rfl, gn⟩
    have gs : Grow w20 w21 := Grow.trans (by first | exact Grow.refl _ | exact Grow.a1 _ _ | exact Grow.a2 _ _ _ | exact Grow.a3 _ _ _ _ | exact Grow.a4 _ _ _ _ _ | exact Grow.a5 _ _ _ _ _ _ | exact Grow.a6 _ _ _ _ _ _ _) gn
    replace c0 := c0.grow gs
    replace e2 := e2.grow gs
    replace c2 := c2.grow gs
    replace c3 := c3.grow gs
    replace c4 := c4.grow gs
    replace c5 := c5.grow gs
    replace c6 := c6.grow gs
    replace g := g.trans gs
    clear gs gn
    go_wp2_with fail
    refine (lives01_any _).mono ?_; rintro e w22 ⟨rfl, gn⟩
    have gs : Grow w21 w22 := Grow.trans (by first | exact Grow.refl _ | exact Grow.a1 _ _ | exact Grow.a2 _ _ _ | exact Grow.a3 _ _ _ _ | exact Grow.a4 _ _ _ _ _ | exact Grow.a5 _ _ _ _ _ _ | exact Grow.a6 _ _ _ _ _ _ _) gn
    replace c0 := c0.grow gs
    replace e2 := e2.grow gs
    replace c2 := c2.grow gs
    replace c3 := c3.grow gs
    replace c4 := c4.grow gs
    replace c5 := c5.grow gs
    replace c6 := c6.grow gs
    replace g := g.trans gs
    clear gs gn
    go_wp2_with fail
    go_ret
    exact ⟨rfl, g⟩
  · have HB := Lib.hid (show thereB b.length at_ 2 = false by simpa using hb)
    have hS := Lib.hid (show set16 b at_ n = [] by rw [set16, if_neg hb])
    clear hb
    go_wp2_with fail
    refine (set16_any _ _ _ _ _ (c0.grow (by first | exact Grow.refl _ | exact Grow.a1 _ _ | exact Grow.a2 _ _ _ | exact Grow.a3 _ _ _ _ | exact Grow.a4 _ _ _ _ _ | exact Grow.a5 _ _ _ _ _ _ | exact Grow.a6 _ _ _ _ _ _ _)) ha (by omega) (by omega)).mono ?_; rintro e w14 ⟨z2, rfl, o2, gn⟩
    have e2 := o2.isB
    have gs : Grow w13 w14 := Grow.trans (by first | exact Grow.refl _ | exact Grow.a1 _ _ | exact Grow.a2 _ _ _ | exact Grow.a3 _ _ _ _ | exact Grow.a4 _ _ _ _ _ | exact Grow.a5 _ _ _ _ _ _ | exact Grow.a6 _ _ _ _ _ _ _) gn
    replace c0 := c0.grow gs
    replace g := g.trans gs
    clear gs gn
    rw [HB.out]
    rw [hS.out] at e2
    clear o2
    obtain ⟨ps, ks, rfl⟩ := e2.opened
    go_wp2_with fail
    refine (refGet_no _ _ _ 2 _ (c0.grow (by first | exact Grow.refl _ | exact Grow.a1 _ _ | exact Grow.a2 _ _ _ | exact Grow.a3 _ _ _ _ | exact Grow.a4 _ _ _ _ _ | exact Grow.a5 _ _ _ _ _ _ | exact Grow.a6 _ _ _ _ _ _ _)) ha (by omega) HB.out).mono ?_; rintro e w' ⟨rfl, rfl⟩
    go_wp2_with fail
    refine (lives01_any _).mono ?_; rintro e w16 ⟨rfl, gn⟩
    have gs : Grow w14 w16 := Grow.trans (by first | exact Grow.refl _ | exact Grow.a1 _ _ | exact Grow.a2 _ _ _ | exact Grow.a3 _ _ _ _ | exact Grow.a4 _ _ _ _ _ | exact Grow.a5 _ _ _ _ _ _ | exact Grow.a6 _ _ _ _ _ _ _) gn
    replace c0 := c0.grow gs
    replace e2 := e2.grow gs
    replace g := g.trans gs
    clear gs gn
    go_wp2_with fail
    go_ret
    exact ⟨rfl, g⟩

end Go.Proofs.Ytmdaajlcikmnaaa
