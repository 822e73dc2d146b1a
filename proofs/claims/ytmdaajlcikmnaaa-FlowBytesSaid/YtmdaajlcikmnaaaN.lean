/- The statements of chapter 1: OctetGets, OctetPuts, OctetCuts: the walks. -/
import Derived.Test.YtmdaajlcikmnaaaM
import Derived.Test.YtmdaajlcikmnaaaK
namespace Go.Proofs.Ytmdaajlcikmnaaa
open Go.RowKit

theorem num2_le (l : List UInt8) (a : Nat) (h : a + 2 ≤ l.length) : num ((l.drop a).take 2) ≤ 65535 := by
  have := (split16 h).2
  omega
theorem get16_yes (v : Value) (l : List UInt8) (at_ : Int) (w : World) (h : IsB w v l) (ha : -9223372036854775808 ≤ at_ ∧ at_ ≤ 9223372036854775807) (hb : thereB l.length at_ 2 = true) :
    Calls Try.prog 48 #[v, .int .i64 at_] w fun e w' => e = .returned (.tuple #[.int .u16 (num ((l.drop at_.toNat).take 2)), .bool true]) ∧ w = w' := by
  have := get16_any v l at_ w h ha
  have g := thereB_iff.1 hb
  have hn := num2_le l at_.toNat (by omega)
  rw [get16, if_pos hb, hb, Nat.mod_eq_of_lt (by omega)] at this
  exact this
theorem get16_no (v : Value) (l : List UInt8) (at_ : Int) (w : World) (h : IsB w v l) (ha : -9223372036854775808 ≤ at_ ∧ at_ ≤ 9223372036854775807) (hb : thereB l.length at_ 2 = false) :
    Calls Try.prog 48 #[v, .int .i64 at_] w fun e w' => e = .returned (.tuple #[.int .u16 0, .bool false]) ∧ w = w' := by
  have := get16_any v l at_ w h ha
  rw [get16, if_neg (by rw [hb]; simp), hb] at this
  exact this
theorem get32_yes (v : Value) (l : List UInt8) (at_ : Int) (w : World) (h : IsB w v l) (ha : -9223372036854775808 ≤ at_ ∧ at_ ≤ 9223372036854775807) (hb : thereB l.length at_ 4 = true) :
    Calls Try.prog 49 #[v, .int .i64 at_] w fun e w' => e = .returned (.tuple #[.int .u32 (num ((l.drop at_.toNat).take 4)), .bool true]) ∧ w = w' := by
  have := get32_any v l at_ w h ha
  rw [get32, if_pos hb, hb] at this
  exact this
theorem get32_no (v : Value) (l : List UInt8) (at_ : Int) (w : World) (h : IsB w v l) (ha : -9223372036854775808 ≤ at_ ∧ at_ ≤ 9223372036854775807) (hb : thereB l.length at_ 4 = false) :
    Calls Try.prog 49 #[v, .int .i64 at_] w fun e w' => e = .returned (.tuple #[.int .u32 0, .bool false]) ∧ w = w' := by
  have := get32_any v l at_ w h ha
  rw [get32, if_neg (by rw [hb]; simp), hb] at this
  exact this
theorem refSame_eq (v v2 : Value) (l m : List UInt8) (w : World) (h : IsB w v l) (h2 : IsB w v2 m) (e : l = m) :
    Calls Try.prog 37 #[v, v2] w fun e w' => e = .returned (.bool true) ∧ Grow w w' := by
  have := refSame_any v v2 l m w h h2
  subst e
  simpa using this
theorem set_two (A : List UInt8) (x y u v : UInt8) (B : List UInt8) : ((A ++ x :: y :: B).set A.length u).set (A.length + 1) v = A ++ u :: v :: B := by
  induction A with
  | nil => rfl
  | cons z A ih =>
    simp only [List.cons_append, List.length_cons, List.set_cons_succ]
    rw [ih]
theorem set16_split {l : List UInt8} {a : Nat} (n : Int) (h : a + 2 ≤ l.length) : set16 l a n = l.take a ++ (put16 [n] ++ l.drop (a + 2)) := by
  rw [set16, if_pos (thereB_iff.2 ⟨by omega, by omega, by omega, by omega⟩)]
  rw [Int.toNat_natCast]
  have e : l = l.take a ++ (l[a] :: l[a + 1] :: l.drop (a + 2)) := by
    rw [← List.drop_eq_getElem_cons (by omega), ← List.drop_eq_getElem_cons (by omega), List.take_append_drop]
  have hA : (l.take a).length = a := by rw [List.length_take]; omega
  have := set_two (l.take a) l[a] l[a + 1] (u8 (n / 256)) (u8 n) (l.drop (a + 2))
  rw [← e, hA] at this
  rw [this]
  rfl

set_option maxHeartbeats 1000000 in
theorem octetGets_walk (v0 : Value) (l0 : List UInt8) (at_ : Int) (w : World) (b0 : IsB w v0 l0) (ha : -9223372036854775808 ≤ at_ ∧ at_ ≤ 9223372036854775807) :
    Calls Try.prog 10 #[v0, .int .i64 at_] w fun e w' => e = .returned (.bool true) ∧ Grow w w' := by
  go_enter Try.func10, Try.ntmps10
  go_wp2_with fail
  refine (few_any _ _ _ _ b0 (by omega)).mono ?_; rintro e w' ⟨x0, rfl, c0, rfl⟩
  obtain ⟨m, Hm, c0⟩ := c0.named
  obtain ⟨p1c0, k1c0, rfl⟩ := c0.opened
  clear b0 Hm
  by_cases hb : thereB m.length at_ 2 = true
  · have HB := Lib.hid hb
    have hbd := num2_le m at_.toNat (by have := thereB_iff.1 hb; omega)
    clear hb
    by_cases hd : thereB m.length at_ 4 = true
    · have HD := Lib.hid hd
      clear hd
      go_wp2_with fail
      refine (get16_yes _ _ _ _ c0 ha HB.out).mono ?_; rintro e w' ⟨rfl, rfl⟩
      go_wp2_with fail
      refine (refGet_yes _ _ _ 2 _ c0 ha (by omega) HB.out).mono ?_; rintro e w' ⟨rfl, rfl⟩
      go_wp2_with fail
      refine (get32_yes _ _ _ _ c0 ha HD.out).mono ?_; rintro e w' ⟨rfl, rfl⟩
      go_wp2_with fail
      refine (refGet_yes _ _ _ 4 _ c0 ha (by omega) HD.out).mono ?_; rintro e w' ⟨rfl, rfl⟩
      go_wp2_with fail
      refine (lives01_any _).mono ?_; rintro e w6 ⟨rfl, gn⟩
      have gs : Grow w w6 := Grow.trans (by first | exact Grow.refl _ | exact Grow.a1 _ _ | exact Grow.a2 _ _ _ | exact Grow.a3 _ _ _ _ | exact Grow.a4 _ _ _ _ _ | exact Grow.a5 _ _ _ _ _ _ | exact Grow.a6 _ _ _ _ _ _ _) gn
      have g := gs
      clear gs gn
      go_wp2_with fail
      go_ret
      exact ⟨rfl, g⟩
    · have HD := Lib.hid (show thereB m.length at_ 4 = false by simpa using hd)
      clear hd
      go_wp2_with fail
      refine (get16_yes _ _ _ _ c0 ha HB.out).mono ?_; rintro e w' ⟨rfl, rfl⟩
      go_wp2_with fail
      refine (refGet_yes _ _ _ 2 _ c0 ha (by omega) HB.out).mono ?_; rintro e w' ⟨rfl, rfl⟩
      go_wp2_with fail
      refine (get32_no _ _ _ _ c0 ha HD.out).mono ?_; rintro e w' ⟨rfl, rfl⟩
      go_wp2_with fail
      refine (refGet_no _ _ _ 4 _ c0 ha (by omega) HD.out).mono ?_; rintro e w' ⟨rfl, rfl⟩
      go_wp2_with fail
      refine (lives01_any _).mono ?_; rintro e w6 ⟨rfl, gn⟩
      have gs : Grow w w6 := Grow.trans (by first | exact Grow.refl _ | exact Grow.a1 _ _ | exact Grow.a2 _ _ _ | exact Grow.a3 _ _ _ _ | exact Grow.a4 _ _ _ _ _ | exact Grow.a5 _ _ _ _ _ _ | exact Grow.a6 _ _ _ _ _ _ _) gn
      have g := gs
      clear gs gn
      go_wp2_with fail
      go_ret
      exact ⟨rfl, g⟩
  · have HB := Lib.hid (show thereB m.length at_ 2 = false by simpa using hb)
    clear hb
    by_cases hd : thereB m.length at_ 4 = true
    · have HD := Lib.hid hd
      clear hd
      go_wp2_with fail
      refine (get16_no _ _ _ _ c0 ha HB.out).mono ?_; rintro e w' ⟨rfl, rfl⟩
      go_wp2_with fail
      refine (refGet_no _ _ _ 2 _ c0 ha (by omega) HB.out).mono ?_; rintro e w' ⟨rfl, rfl⟩
      go_wp2_with fail
      refine (get32_yes _ _ _ _ c0 ha HD.out).mono ?_; rintro e w' ⟨rfl, rfl⟩
      go_wp2_with fail
      refine (refGet_yes _ _ _ 4 _ c0 ha (by omega) HD.out).mono ?_; rintro e w' ⟨rfl, rfl⟩
      go_wp2_with fail
      refine (lives01_any _).mono ?_; rintro e w6 ⟨rfl, gn⟩
      have gs : Grow w w6 := Grow.trans (by first | exact Grow.refl _ | exact Grow.a1 _ _ | exact Grow.a2 _ _ _ | exact Grow.a3 _ _ _ _ | exact Grow.a4 _ _ _ _ _ | exact Grow.a5 _ _ _ _ _ _ | exact Grow.a6 _ _ _ _ _ _ _) gn
      have g := gs
      clear gs gn
      go_wp2_with fail
      go_ret
      exact ⟨rfl, g⟩
    · have HD := Lib.hid (show thereB m.length at_ 4 = false by simpa using hd)
      clear hd
      go_wp2_with fail
      refine (get16_no _ _ _ _ c0 ha HB.out).mono ?_; rintro e w' ⟨rfl, rfl⟩
      go_wp2_with fail
      refine (refGet_no _ _ _ 2 _ c0 ha (by omega) HB.out).mono ?_; rintro e w' ⟨rfl, rfl⟩
      go_wp2_with fail
      refine (get32_no _ _ _ _ c0 ha HD.out).mono ?_; rintro e w' ⟨rfl, rfl⟩
      go_wp2_with fail
      refine (refGet_no _ _ _ 4 _ c0 ha (by omega) HD.out).mono ?_; rintro e w' ⟨rfl, rfl⟩
      go_wp2_with fail
      refine (lives01_any _).mono ?_; rintro e w6 ⟨rfl, gn⟩
      have gs : Grow w w6 := Grow.trans (by first | exact Grow.refl _ | exact Grow.a1 _ _ | exact Grow.a2 _ _ _ | exact Grow.a3 _ _ _ _ | exact Grow.a4 _ _ _ _ _ | exact Grow.a5 _ _ _ _ _ _ | exact Grow.a6 _ _ _ _ _ _ _) gn
      have g := gs
      clear gs gn
      go_wp2_with fail
      go_ret
      exact ⟨rfl, g⟩

set_option maxHeartbeats 1000000 in
theorem octetCuts_walk (v0 v1 : Value) (l0 l1 : List UInt8) (at_ n : Int) (w : World) (b0 : IsB w v0 l0) (b1 : IsB w v1 l1) (ha : -9223372036854775808 ≤ at_ ∧ at_ ≤ 9223372036854775807) :
    Calls Try.prog 12 #[v0, v1, .int .i64 at_, .int .i64 n] w fun e w' => e = .returned (.bool true) ∧ Grow w w' := by
  go_enter Try.func12, Try.ntmps12
  go_wp2_with fail
  refine (few_any _ _ _ _ b0 (by omega)).mono ?_; rintro e w' ⟨x0, rfl, c0, rfl⟩
  obtain ⟨m, Hm, c0⟩ := c0.named
  obtain ⟨p1c0, k1c0, rfl⟩ := c0.opened
  go_wp2_with fail
  refine (few_any _ _ _ _ b1 (by omega)).mono ?_; rintro e w' ⟨x1, rfl, c1, rfl⟩
  obtain ⟨n1, Hn1, c1⟩ := c1.named
  obtain ⟨p2c1, k2c1, rfl⟩ := c1.opened
  have k0 : m.length ≤ 300 := by rw [Hm.out, List.length_take]; omega
  have k1 : n1.length ≤ 300 := by rw [Hn1.out, List.length_take]; omega
  clear b0 b1 Hm Hn1
  go_wp2_with fail
  refine (cut_any _ _ _ _ _ (c0.grow (by first | exact Grow.refl _ | exact Grow.a1 _ _ | exact Grow.a2 _ _ _ | exact Grow.a3 _ _ _ _ | exact Grow.a4 _ _ _ _ _ | exact Grow.a5 _ _ _ _ _ _ | exact Grow.a6 _ _ _ _ _ _ _)) ha (by omega)).mono ?_; rintro e w3 ⟨x2, rfl, o2, gn⟩
  have c2 := o2.isB
  obtain ⟨M2, HM2, c2⟩ := c2.named
  obtain ⟨p3c2, k3c2, rfl⟩ := c2.opened
  have gs : Grow w w3 := Grow.trans (by first | exact Grow.refl _ | exact Grow.a1 _ _ | exact Grow.a2 _ _ _ | exact Grow.a3 _ _ _ _ | exact Grow.a4 _ _ _ _ _ | exact Grow.a5 _ _ _ _ _ _ | exact Grow.a6 _ _ _ _ _ _ _) gn
  replace c0 := c0.grow gs
  replace c1 := c1.grow gs
  have g := gs
  clear gs gn
  go_wp2_with fail
  refine (refCut_any _ _ _ _ _ (c0.grow (by first | exact Grow.refl _ | exact Grow.a1 _ _ | exact Grow.a2 _ _ _ | exact Grow.a3 _ _ _ _ | exact Grow.a4 _ _ _ _ _ | exact Grow.a5 _ _ _ _ _ _ | exact Grow.a6 _ _ _ _ _ _ _)) ha (by omega)).mono ?_; rintro e w4 ⟨x3, rfl, o3, gn⟩
  have c3 := o3.isB
  obtain ⟨M3, HM3, c3⟩ := c3.named
  obtain ⟨p4c3, k4c3, rfl⟩ := c3.opened
  have gs : Grow w3 w4 := Grow.trans (by first | exact Grow.refl _ | exact Grow.a1 _ _ | exact Grow.a2 _ _ _ | exact Grow.a3 _ _ _ _ | exact Grow.a4 _ _ _ _ _ | exact Grow.a5 _ _ _ _ _ _ | exact Grow.a6 _ _ _ _ _ _ _) gn
  replace c0 := c0.grow gs
  replace c1 := c1.grow gs
  replace c2 := c2.grow gs
  replace g := g.trans gs
  clear gs gn
  go_wp2_with fail
  refine (refSame_eq _ _ _ _ _ (c2.grow (by first | exact Grow.refl _ | exact Grow.a1 _ _ | exact Grow.a2 _ _ _ | exact Grow.a3 _ _ _ _ | exact Grow.a4 _ _ _ _ _ | exact Grow.a5 _ _ _ _ _ _ | exact Grow.a6 _ _ _ _ _ _ _)) (c3.grow (by first | exact Grow.refl _ | exact Grow.a1 _ _ | exact Grow.a2 _ _ _ | exact Grow.a3 _ _ _ _ | exact Grow.a4 _ _ _ _ _ | exact Grow.a5 _ _ _ _ _ _ | exact Grow.a6 _ _ _ _ _ _ _)) (by rw [HM2.out, HM3.out])).mono ?_; rintro e w5 ⟨rfl, gn⟩
  have gs : Grow w4 w5 := Grow.trans (by first | exact Grow.refl _ | exact Grow.a1 _ _ | exact Grow.a2 _ _ _ | exact Grow.a3 _ _ _ _ | exact Grow.a4 _ _ _ _ _ | exact Grow.a5 _ _ _ _ _ _ | exact Grow.a6 _ _ _ _ _ _ _) gn
  replace c0 := c0.grow gs
  replace c1 := c1.grow gs
  replace c2 := c2.grow gs
  replace c3 := c3.grow gs
  replace g := g.trans gs
  clear gs gn
  go_wp2_with fail
  refine (same_any _ _ _ _ _ (c0.grow (by first | exact Grow.refl _ | exact Grow.a1 _ _ | exact Grow.a2 _ _ _ | exact Grow.a3 _ _ _ _ | exact Grow.a4 _ _ _ _ _ | exact Grow.a5 _ _ _ _ _ _ | exact Grow.a6 _ _ _ _ _ _ _)) (c1.grow (by first | exact Grow.refl _ | exact Grow.a1 _ _ | exact Grow.a2 _ _ _ | exact Grow.a3 _ _ _ _ | exact Grow.a4 _ _ _ _ _ | exact Grow.a5 _ _ _ _ _ _ | exact Grow.a6 _ _ _ _ _ _ _))).mono ?_; rintro e w' ⟨rfl, rfl⟩
  go_wp2_with fail
  refine (refSame_any _ _ _ _ _ (c0.grow (by first | exact Grow.refl _ | exact Grow.a1 _ _ | exact Grow.a2 _ _ _ | exact Grow.a3 _ _ _ _ | exact Grow.a4 _ _ _ _ _ | exact Grow.a5 _ _ _ _ _ _ | exact Grow.a6 _ _ _ _ _ _ _)) (c1.grow (by first | exact Grow.refl _ | exact Grow.a1 _ _ | exact Grow.a2 _ _ _ | exact Grow.a3 _ _ _ _ | exact Grow.a4 _ _ _ _ _ | exact Grow.a5 _ _ _ _ _ _ | exact Grow.a6 _ _ _ _ _ _ _))).mono ?_; rintro e w7 ⟨rfl, gn⟩
  have gs : Grow w5 w7 := Grow.trans (by first | exact Grow.refl _ | exact Grow.a1 _ _ | exact Grow.a2 _ _ _ | exact Grow.a3 _ _ _ _ | exact Grow.a4 _ _ _ _ _ | exact Grow.a5 _ _ _ _ _ _ | exact Grow.a6 _ _ _ _ _ _ _) gn
  replace c0 := c0.grow gs
  replace c1 := c1.grow gs
  replace c2 := c2.grow gs
  replace c3 := c3.grow gs
  replace g := g.trans gs
  clear gs gn
  have nj : (m ++ (n1 ++ m)).length ≤ 900 := by simp; omega
  go_wp2_with fail
  refine (join_any _ [m, n1, m] (m ++ (n1 ++ m)) _ (IsBB.lit _ _ [_, _, _] _ _ _ (by first | rfl | simp) rfl (by simp) (.three (c0.grow (by first | exact Grow.refl _ | exact Grow.a1 _ _ | exact Grow.a2 _ _ _ | exact Grow.a3 _ _ _ _ | exact Grow.a4 _ _ _ _ _ | exact Grow.a5 _ _ _ _ _ _ | exact Grow.a6 _ _ _ _ _ _ _)) (c1.grow (by first | exact Grow.refl _ | exact Grow.a1 _ _ | exact Grow.a2 _ _ _ | exact Grow.a3 _ _ _ _ | exact Grow.a4 _ _ _ _ _ | exact Grow.a5 _ _ _ _ _ _ | exact Grow.a6 _ _ _ _ _ _ _)) (c0.grow (by first | exact Grow.refl _ | exact Grow.a1 _ _ | exact Grow.a2 _ _ _ | exact Grow.a3 _ _ _ _ | exact Grow.a4 _ _ _ _ _ | exact Grow.a5 _ _ _ _ _ _ | exact Grow.a6 _ _ _ _ _ _ _)))) (by simp) (by omega)).mono ?_; rintro e w8 ⟨x4, rfl, o4, gn⟩
  have c4 := o4.isB
  obtain ⟨M4, HM4, c4⟩ := c4.named
  obtain ⟨p8c4, k8c4, rfl⟩ := c4.opened
  have gs : Grow w7 w8 := Grow.trans (by first | exact Grow.refl _ | exact Grow.a1 _ _ | exact Grow.a2 _ _ _ | exact Grow.a3 _ _ _ _ | exact Grow.a4 _ _ _ _ _ | exact Grow.a5 _ _ _ _ _ _ | exact Grow.a6 _ _ _ _ _ _ _) gn
  replace c0 := c0.grow gs
  replace c1 := c1.grow gs
  replace c2 := c2.grow gs
  replace c3 := c3.grow gs
  replace g := g.trans gs
  clear gs gn
  go_wp2_with fail
  refine (add_any _ _ _ _ _ (c1.grow (by first | exact Grow.refl _ | exact Grow.a1 _ _ | exact Grow.a2 _ _ _ | exact Grow.a3 _ _ _ _ | exact Grow.a4 _ _ _ _ _ | exact Grow.a5 _ _ _ _ _ _ | exact Grow.a6 _ _ _ _ _ _ _)) (c0.grow (by first | exact Grow.refl _ | exact Grow.a1 _ _ | exact Grow.a2 _ _ _ | exact Grow.a3 _ _ _ _ | exact Grow.a4 _ _ _ _ _ | exact Grow.a5 _ _ _ _ _ _ | exact Grow.a6 _ _ _ _ _ _ _)) (by omega)).mono ?_; rintro e w9 ⟨x5, rfl, o5, gn⟩
  have c5 := o5.isB
  obtain ⟨M5, HM5, c5⟩ := c5.named
  obtain ⟨p9c5, k9c5, rfl⟩ := c5.opened
  have gs : Grow w8 w9 := Grow.trans (by first | exact Grow.refl _ | exact Grow.a1 _ _ | exact Grow.a2 _ _ _ | exact Grow.a3 _ _ _ _ | exact Grow.a4 _ _ _ _ _ | exact Grow.a5 _ _ _ _ _ _ | exact Grow.a6 _ _ _ _ _ _ _) gn
  replace c0 := c0.grow gs
  replace c1 := c1.grow gs
  replace c2 := c2.grow gs
  replace c3 := c3.grow gs
  replace c4 := c4.grow gs
  replace g := g.trans gs
  clear gs gn
  go_wp2_with fail
  refine (add_any _ _ _ _ _ (c0.grow (by first | exact Grow.refl _ | exact Grow.a1 _ _ | exact Grow.a2 _ _ _ | exact Grow.a3 _ _ _ _ | exact Grow.a4 _ _ _ _ _ | exact Grow.a5 _ _ _ _ _ _ | exact Grow.a6 _ _ _ _ _ _ _)) (c5.grow (by first | exact Grow.refl _ | exact Grow.a1 _ _ | exact Grow.a2 _ _ _ | exact Grow.a3 _ _ _ _ | exact Grow.a4 _ _ _ _ _ | exact Grow.a5 _ _ _ _ _ _ | exact Grow.a6 _ _ _ _ _ _ _)) (by rw [HM5.out, List.length_append]; omega)).mono ?_; rintro e w10 ⟨x6, rfl, o6, gn⟩
  have c6 := o6.isB
  obtain ⟨M6, HM6, c6⟩ := c6.named
  obtain ⟨p10c6, k10c6, rfl⟩ := c6.opened
  have gs : Grow w9 w10 := Grow.trans (by first | exact Grow.refl _ | exact Grow.a1 _ _ | exact Grow.a2 _ _ _ | exact Grow.a3 _ _ _ _ | exact Grow.a4 _ _ _ _ _ | exact Grow.a5 _ _ _ _ _ _ | exact Grow.a6 _ _ _ _ _ _ _) gn
  replace c0 := c0.grow gs
  replace c1 := c1.grow gs
  replace c2 := c2.grow gs
  replace c3 := c3.grow gs
  replace c4 := c4.grow gs
  replace c5 := c5.grow gs
  replace g := g.trans gs
  clear gs gn
  go_wp2_with fail
  refine (refSame_eq _ _ _ _ _ (c4.grow (by first | exact Grow.refl _ | exact Grow.a1 _ _ | exact Grow.a2 _ _ _ | exact Grow.a3 _ _ _ _ | exact Grow.a4 _ _ _ _ _ | exact Grow.a5 _ _ _ _ _ _ | exact Grow.a6 _ _ _ _ _ _ _)) (c6.grow (by first | exact Grow.refl _ | exact Grow.a1 _ _ | exact Grow.a2 _ _ _ | exact Grow.a3 _ _ _ _ | exact Grow.a4 _ _ _ _ _ | exact Grow.a5 _ _ _ _ _ _ | exact Grow.a6 _ _ _ _ _ _ _)) (by rw [HM4.out, HM6.out, HM5.out])).mono ?_; rintro e w11 ⟨rfl, gn⟩
  have gs : Grow w10 w11 := Grow.trans (by first | exact Grow.refl _ | exact Grow.a1 _ _ | exact Grow.a2 _ _ _ | exact Grow.a3 _ _ _ _ | exact Grow.a4 _ _ _ _ _ | exact Grow.a5 _ _ _ _ _ _ | exact Grow.a6 _ _ _ _ _ _ _) gn
  replace c0 := c0.grow gs
  replace c1 := c1.grow gs
  replace c2 := c2.grow gs
  replace c3 := c3.grow gs
  replace c4 := c4.grow gs
  replace c5 := c5.grow gs
  replace c6 := c6.grow gs
  replace g := g.trans gs
  clear gs gn
  go_wp2_with fail
  refine (join_any _ [] [] _ (IsBB.nil _) rfl (by simp)).mono ?_; rintro e w12 ⟨x7, rfl, o7, gn⟩
  have c7 := o7.isB
  obtain ⟨p12c7, k12c7, rfl⟩ := c7.opened
  have gs : Grow w11 w12 := Grow.trans (by first | exact Grow.refl _ | exact Grow.a1 _ _ | exact Grow.a2 _ _ _ | exact Grow.a3 _ _ _ _ | exact Grow.a4 _ _ _ _ _ | exact Grow.a5 _ _ _ _ _ _ | exact Grow.a6 _ _ _ _ _ _ _) gn
  replace c0 := c0.grow gs
  replace c1 := c1.grow gs
  replace c2 := c2.grow gs
  replace c3 := c3.grow gs
  replace c4 := c4.grow gs
  replace c5 := c5.grow gs
  replace c6 := c6.grow gs
  replace g := g.trans gs
  clear gs gn
  go_wp2_with fail
  refine (lives01_any _).mono ?_; rintro e w13 ⟨rfl, gn⟩
  have gs : Grow w12 w13 := Grow.trans (by first | exact Grow.refl _ | exact Grow.a1 _ _ | exact Grow.a2 _ _ _ | exact Grow.a3 _ _ _ _ | exact Grow.a4 _ _ _ _ _ | exact Grow.a5 _ _ _ _ _ _ | exact Grow.a6 _ _ _ _ _ _ _) gn
  replace c0 := c0.grow gs
  replace c1 := c1.grow gs
  replace c2 := c2.grow gs
  replace c3 := c3.grow gs
  replace c4 := c4.grow gs
  replace c5 := c5.grow gs
  replace c6 := c6.grow gs
  replace c7 := c7.grow gs
  replace g := g.trans gs
  clear gs gn
  go_wp2_with fail
  go_ret
  exact ⟨rfl, g⟩

end Go.Proofs.Ytmdaajlcikmnaaa
