/- The statements of chapter 2, further: SumFills, SumKeeps. -/
import Derived.Test.YtmdaajlcikmnaaaJ
namespace Go.Proofs.Ytmdaajlcikmnaaa
open Go.RowKit

theorem raw_put16 {s : Int} (h0 : 0 ≤ s) (h1 : s ≤ 65535) : (raw (put16 [s]) : Int) = s := by
  simp only [put16, raw, Int.natCast_add, Int.natCast_mul, u8_toNat]
  omega
theorem raw_mid (a b : List UInt8) (s : Int) (ha : a.length % 2 = 0) (h0 : 0 ≤ s) (h1 : s ≤ 65535) : (raw (a ++ (put16 [s] ++ b)) : Int) = raw a + s + raw b := by
  have e := raw_put16 h0 h1
  rw [raw_append _ _ ha, raw_append _ _ (by rw [length_put16]; simp)]
  omega
theorem fills_law (a b : List UInt8) (ha : a.length % 2 = 0) : onesF (a ++ (put16 [65535 - onesF (a ++ ([0, 0] ++ b))] ++ b)) = 65535 := by
  have hb := onesF_bd (a ++ ([0, 0] ++ b))
  have e : (raw (a ++ ([0, 0] ++ b)) : Int) = raw a + raw b := by
    have := raw_mid a b 0 ha (by omega) (by omega)
    have e2 : put16 [0] = [0, 0] := by decide
    rw [e2] at this
    omega
  have e3 := raw_mid a b (65535 - onesF (a ++ ([0, 0] ++ b))) ha (by omega) (by omega)
  have hO : onesF (a ++ ([0, 0] ++ b)) = foldF (raw a + raw b) := by rw [onesF, e]
  show foldF _ = 65535
  rw [e3]
  generalize onesF (a ++ ([0, 0] ++ b)) = O at *
  have hm := foldF_mod (raw a + raw b)
  have hp := foldF_pos (n := (raw a : Int) + raw b)
  have hz := foldF_eq_zero (n := (raw a : Int) + raw b) (by omega)
  have h2 := foldF_mod (↑(raw a) + (65535 - O) + ↑(raw b))
  have h3 := foldF_pos (n := ↑(raw a) + (65535 - O) + ↑(raw b))
  have h4 := foldF_bd (↑(raw a) + (65535 - O) + ↑(raw b))
  by_cases h0 : (raw a : Int) + raw b = 0
  · have := hz.2 h0
    have := h3 (by omega)
    omega
  · have := hp (by omega)
    have := h3 (by omega)
    omega
theorem raw_pos : ∀ (l : List UInt8), l.any (fun x => x != 0) = true → 0 < raw l
  | [], h => by simp at h
  | [a], h => by
    simp only [List.any_cons, List.any_nil, Bool.or_false, bne_iff_ne, ne_eq] at h
    have : 0 < a.toNat := Nat.pos_of_ne_zero (fun e => h (UInt8.toNat_inj.1 e))
    simp only [raw]; omega
  | a :: b :: r, h => by
    simp only [raw]
    by_cases ha : a = 0
    · by_cases hb : b = 0
      · have := raw_pos r (by simpa [ha, hb] using h)
        omega
      · have : 0 < b.toNat := Nat.pos_of_ne_zero (fun e => hb (UInt8.toNat_inj.1 e))
        omega
    · have : 0 < a.toNat := Nat.pos_of_ne_zero (fun e => ha (UInt8.toNat_inj.1 e))
      omega
theorem keeps_law (h t : List UInt8) (old next : Int) (hh : h.length % 2 = 0) (ho : 0 ≤ old ∧ old ≤ 65535) (hn : 0 ≤ next ∧ next ≤ 65535)
    (hs : (h ++ (put16 [next] ++ t)).any (fun x => x != 0) = true) :
    turnF (65535 - onesF (h ++ (put16 [old] ++ t))) old next = 65535 - onesF (h ++ (put16 [next] ++ t)) := by
  have e1 := raw_mid h t old hh ho.1 ho.2
  have e2 := raw_mid h t next hh hn.1 hn.2
  have hp := raw_pos _ hs
  unfold turnF onesF
  rw [e1]
  have e3 : (raw (h ++ (put16 [next] ++ t)) : Int) = raw h + next + raw t := e2
  rw [e3]
  congr 1
  have hm := foldF_mod (raw h + old + raw t)
  have hq := foldF_pos (n := (raw h : Int) + old + raw t)
  have hb := foldF_bd (raw h + old + raw t)
  refine foldF_congr ?_ (by omega) (by omega)
  by_cases h0 : (raw h : Int) + old + raw t = 0
  · omega
  · have := hq (by omega)
    omega
theorem any_step {l : List UInt8} {k : Nat} (h : k < l.length) : (l.take (k + 1)).any (fun x => x != 0) = ((l.take k).any (fun x => x != 0) || l[k] != 0) := by
  rw [List.take_succ_eq_append_getElem h, List.any_append]
  simp
theorem byte_ne (x : UInt8) : ((x.toNat : Int) != 0) = (x != 0) := by
  by_cases h : x = 0
  · subst h; rfl
  · have h2 : x.toNat ≠ 0 := fun e => h (UInt8.toNat_inj.1 e)
    rw [bne_iff_ne.2 h]
    simpa using h2

set_option maxHeartbeats 1000000 in
theorem sumFills_walk (v0 v1 : Value) (l0 l1 : List UInt8) (w : World) (b0 : IsB w v0 l0) (b1 : IsB w v1 l1) :
    Calls Try.prog 5 #[v0, v1] w fun e w' => e = .returned (.bool true) ∧ Grow w w' := by
  go_enter Try.func5, Try.ntmps5
  go_wp2_with fail
  refine (few_any _ _ _ _ b0 (by omega)).mono ?_; rintro e w' ⟨x0, rfl, c0, rfl⟩
  obtain ⟨m0, Hm0, c0⟩ := c0.named
  obtain ⟨p1c0, k1c0, rfl⟩ := c0.opened
  go_wp2_with fail
  refine (few_any _ _ _ _ b1 (by omega)).mono ?_; rintro e w' ⟨x1, rfl, c1, rfl⟩
  obtain ⟨m1, Hm1, c1⟩ := c1.named
  obtain ⟨p2c1, k2c1, rfl⟩ := c1.opened
  have n0 : m0.length ≤ 100 := by rw [Hm0.out, List.length_take]; omega
  have n1 : m1.length ≤ 100 := by rw [Hm1.out, List.length_take]; omega
  clear b0 b1 Hm0 Hm1
  obtain ⟨i, hi, hz0, hz1, hz2⟩ := info_parts Try.info5
  by_cases hpar : m0.length % 2 = 1
  · have hp1 : ((m0.length : Int) % 2 == 1) = true := by simp; omega
    obtain ⟨v', hv, -, -, hs⟩ := c0.cutI (P := Try.prog) 38 5 i Try.underlying38 hi hz1 1 m0.length (by omega) (by omega) (by omega)
    have hs' := hs rfl
    have hm : ((m0.drop (1 : Int).toNat).take ((m0.length : Int) - 1).toNat) = m0.drop 1 := by rw [List.take_of_length_le (by simp)]; rfl
    rw [hm] at hv
    clear hs hi hz0 hz1 hz2 hm
    have nd : (m0.drop 1).length ≤ 100 := by simp; omega
    have hpd : (m0.drop 1).length % 2 = 0 := by simp; omega
    generalize m0.drop 1 = m2 at *
    obtain ⟨pv, kv, rfl⟩ := hv.opened
    have bd := onesF_bd (m2 ++ ([0, 0] ++ m1))
    have HF := Lib.hid (fills_law m2 m1 hpd)
    go_wp2_with fail
    refine (of_any _ [m2, [0, 0], m1] (m2 ++ ([0, 0] ++ m1)) _ (IsBB.lit _ _ [_, _, _] _ _ _ (by simp) rfl (by simp) (.three (hv.grow (by first | exact Grow.refl _ | exact Grow.a1 _ _ | exact Grow.a2 _ _ _ | exact Grow.a3 _ _ _ _ | exact Grow.a4 _ _ _ _ _ | exact Grow.a5 _ _ _ _ _ _ | exact Grow.a6 _ _ _ _ _ _ _)) (IsB.lit2 _ _ _ _ 0 0 _ (by first | rfl | simp) rfl rfl) (c1.grow (by first | exact Grow.refl _ | exact Grow.a1 _ _ | exact Grow.a2 _ _ _ | exact Grow.a3 _ _ _ _ | exact Grow.a4 _ _ _ _ _ | exact Grow.a5 _ _ _ _ _ _ | exact Grow.a6 _ _ _ _ _ _ _)))) (by simp) (by simp; omega)).mono ?_; rintro e w3 ⟨rfl, gn⟩
    have gs : Grow w w3 := Grow.trans (by first | exact Grow.refl _ | exact Grow.a1 _ _ | exact Grow.a2 _ _ _ | exact Grow.a3 _ _ _ _ | exact Grow.a4 _ _ _ _ _ | exact Grow.a5 _ _ _ _ _ _ | exact Grow.a6 _ _ _ _ _ _ _) gn
    replace hv := hv.grow gs
    replace c1 := c1.grow gs
    have g := gs
    clear gs gn
    generalize onesF (m2 ++ ([0, 0] ++ m1)) = O at *
    obtain ⟨bd1, bd2⟩ := bd
    go_wp2_with fail
    refine (refPut_any _ 2 _ (by omega) (by omega)).mono ?_; rintro e w4 ⟨x5, rfl, o5, gn⟩
    have c5 := o5.isB
    have gs : Grow w3 w4 := Grow.trans (by first | exact Grow.refl _ | exact Grow.a1 _ _ | exact Grow.a2 _ _ _ | exact Grow.a3 _ _ _ _ | exact Grow.a4 _ _ _ _ _ | exact Grow.a5 _ _ _ _ _ _ | exact Grow.a6 _ _ _ _ _ _ _) gn
    replace hv := hv.grow gs
    replace c1 := c1.grow gs
    replace g := g.trans gs
    clear gs gn
    rw [lowB_two] at c5
    obtain ⟨P5, HP5, c5⟩ := c5.named
    obtain ⟨pp, kp, rfl⟩ := c5.opened
    go_wp2_with fail
    refine (right_any _ [m2, P5, m1] (m2 ++ (put16 [65535 - O] ++ m1)) _ (IsBB.lit _ _ [_, _, _] _ _ _ (by first | rfl | simp) rfl (by simp) (.three (hv.grow (by first | exact Grow.refl _ | exact Grow.a1 _ _ | exact Grow.a2 _ _ _ | exact Grow.a3 _ _ _ _ | exact Grow.a4 _ _ _ _ _ | exact Grow.a5 _ _ _ _ _ _ | exact Grow.a6 _ _ _ _ _ _ _)) (c5.grow (by first | exact Grow.refl _ | exact Grow.a1 _ _ | exact Grow.a2 _ _ _ | exact Grow.a3 _ _ _ _ | exact Grow.a4 _ _ _ _ _ | exact Grow.a5 _ _ _ _ _ _ | exact Grow.a6 _ _ _ _ _ _ _)) (c1.grow (by first | exact Grow.refl _ | exact Grow.a1 _ _ | exact Grow.a2 _ _ _ | exact Grow.a3 _ _ _ _ | exact Grow.a4 _ _ _ _ _ | exact Grow.a5 _ _ _ _ _ _ | exact Grow.a6 _ _ _ _ _ _ _)))) (by rw [HP5.out]; simp) (by simp [length_put16]; omega)).mono ?_; rintro e w5 ⟨rfl, gn⟩
    have gs : Grow w4 w5 := Grow.trans (by first | exact Grow.refl _ | exact Grow.a1 _ _ | exact Grow.a2 _ _ _ | exact Grow.a3 _ _ _ _ | exact Grow.a4 _ _ _ _ _ | exact Grow.a5 _ _ _ _ _ _ | exact Grow.a6 _ _ _ _ _ _ _) gn
    replace hv := hv.grow gs
    replace c1 := c1.grow gs
    replace c5 := c5.grow gs
    replace g := g.trans gs
    clear gs gn
    rw [HF.out]
    go_wp2_with fail
    refine (lives02_any _).mono ?_; rintro e w6 ⟨rfl, gn⟩
    have gs : Grow w5 w6 := Grow.trans (by first | exact Grow.refl _ | exact Grow.a1 _ _ | exact Grow.a2 _ _ _ | exact Grow.a3 _ _ _ _ | exact Grow.a4 _ _ _ _ _ | exact Grow.a5 _ _ _ _ _ _ | exact Grow.a6 _ _ _ _ _ _ _) gn
    replace hv := hv.grow gs
    replace c1 := c1.grow gs
    replace c5 := c5.grow gs
    replace g := g.trans gs
    clear gs gn
    go_wp2_with fail
    go_ret
    exact ⟨rfl, g⟩
  · have hp1 : ((m0.length : Int) % 2 == 1) = false := by simp; omega
    have hpd : m0.length % 2 = 0 := by omega
    clear hi hz0 hz1 hz2
    have bd := onesF_bd (m0 ++ ([0, 0] ++ m1))
    have HF := Lib.hid (fills_law m0 m1 hpd)
    go_wp2_with fail
    refine (of_any _ [m0, [0, 0], m1] (m0 ++ ([0, 0] ++ m1)) _ (IsBB.lit _ _ [_, _, _] _ _ _ (by simp) rfl (by simp) (.three (c0.grow (by first | exact Grow.refl _ | exact Grow.a1 _ _ | exact Grow.a2 _ _ _ | exact Grow.a3 _ _ _ _ | exact Grow.a4 _ _ _ _ _ | exact Grow.a5 _ _ _ _ _ _ | exact Grow.a6 _ _ _ _ _ _ _)) (IsB.lit2 _ _ _ _ 0 0 _ (by first | rfl | simp) rfl rfl) (c1.grow (by first | exact Grow.refl _ | exact Grow.a1 _ _ | exact Grow.a2 _ _ _ | exact Grow.a3 _ _ _ _ | exact Grow.a4 _ _ _ _ _ | exact Grow.a5 _ _ _ _ _ _ | exact Grow.a6 _ _ _ _ _ _ _)))) (by simp) (by simp; omega)).mono ?_; rintro e w3 ⟨rfl, gn⟩
    have gs : Grow w w3 := Grow.trans (by first | exact Grow.refl _ | exact Grow.a1 _ _ | exact Grow.a2 _ _ _ | exact Grow.a3 _ _ _ _ | exact Grow.a4 _ _ _ _ _ | exact Grow.a5 _ _ _ _ _ _ | exact Grow.a6 _ _ _ _ _ _ _) gn
    replace c0 := c0.grow gs
    replace c1 := c1.grow gs
    have g := gs
    clear gs gn
    generalize onesF (m0 ++ ([0, 0] ++ m1)) = O at *
    obtain ⟨bd1, bd2⟩ := bd
    go_wp2_with fail
    refine (refPut_any _ 2 _ (by omega) (by omega)).mono ?_; rintro e w4 ⟨x5, rfl, o5, gn⟩
    have c5 := o5.isB
    have gs : Grow w3 w4 := Grow.trans (by first | exact Grow.refl _ | exact Grow.a1 _ _ | exact Grow.a2 _ _ _ | exact Grow.a3 _ _ _ _ | exact Grow.a4 _ _ _ _ _ | exact Grow.a5 _ _ _ _ _ _ | exact Grow.a6 _ _ _ _ _ _ _) gn
    replace c0 := c0.grow gs
    replace c1 := c1.grow gs
    replace g := g.trans gs
    clear gs gn
    rw [lowB_two] at c5
    obtain ⟨P5, HP5, c5⟩ := c5.named
    obtain ⟨pp, kp, rfl⟩ := c5.opened
    go_wp2_with fail
    refine (right_any _ [m0, P5, m1] (m0 ++ (put16 [65535 - O] ++ m1)) _ (IsBB.lit _ _ [_, _, _] _ _ _ (by first | rfl | simp) rfl (by simp) (.three (c0.grow (by first | exact Grow.refl _ | exact Grow.a1 _ _ | exact Grow.a2 _ _ _ | exact Grow.a3 _ _ _ _ | exact Grow.a4 _ _ _ _ _ | exact Grow.a5 _ _ _ _ _ _ | exact Grow.a6 _ _ _ _ _ _ _)) (c5.grow (by first | exact Grow.refl _ | exact Grow.a1 _ _ | exact Grow.a2 _ _ _ | exact Grow.a3 _ _ _ _ | exact Grow.a4 _ _ _ _ _ | exact Grow.a5 _ _ _ _ _ _ | exact Grow.a6 _ _ _ _ _ _ _)) (c1.grow (by first | exact Grow.refl _ | exact Grow.a1 _ _ | exact Grow.a2 _ _ _ | exact Grow.a3 _ _ _ _ | exact Grow.a4 _ _ _ _ _ | exact Grow.a5 _ _ _ _ _ _ | exact Grow.a6 _ _ _ _ _ _ _)))) (by rw [HP5.out]; simp) (by simp [length_put16]; omega)).mono ?_; rintro e w5 ⟨rfl, gn⟩
    have gs : Grow w4 w5 := Grow.trans (by first | exact Grow.refl _ | exact Grow.a1 _ _ | exact Grow.a2 _ _ _ | exact Grow.a3 _ _ _ _ | exact Grow.a4 _ _ _ _ _ | exact Grow.a5 _ _ _ _ _ _ | exact Grow.a6 _ _ _ _ _ _ _) gn
    replace c0 := c0.grow gs
    replace c1 := c1.grow gs
    replace c5 := c5.grow gs
    replace g := g.trans gs
    clear gs gn
    rw [HF.out]
    go_wp2_with fail
    refine (lives02_any _).mono ?_; rintro e w6 ⟨rfl, gn⟩
    have gs : Grow w5 w6 := Grow.trans (by first | exact Grow.refl _ | exact Grow.a1 _ _ | exact Grow.a2 _ _ _ | exact Grow.a3 _ _ _ _ | exact Grow.a4 _ _ _ _ _ | exact Grow.a5 _ _ _ _ _ _ | exact Grow.a6 _ _ _ _ _ _ _) gn
    replace c0 := c0.grow gs
    replace c1 := c1.grow gs
    replace c5 := c5.grow gs
    replace g := g.trans gs
    clear gs gn
    go_wp2_with fail
    go_ret
    exact ⟨rfl, g⟩

theorem refGet_yes (v : Value) (l : List UInt8) (at_ : Int) (n : Nat) (w : World) (h : IsB w v l) (ha : -9223372036854775808 ≤ at_ ∧ at_ ≤ 9223372036854775807) (hn : n ≤ 4) (hb : thereB l.length at_ n = true) :
    Calls Try.prog 41 #[v, .int .i64 at_, .int .i64 n] w fun e w' => e = .returned (.tuple #[.int .u32 (num ((l.drop at_.toNat).take n)), .bool true]) ∧ w = w' := by
  have := refGet_any v l at_ n w h ha hn
  rw [hb] at this
  exact this
theorem refGet_no (v : Value) (l : List UInt8) (at_ : Int) (n : Nat) (w : World) (h : IsB w v l) (ha : -9223372036854775808 ≤ at_ ∧ at_ ≤ 9223372036854775807) (hn : n ≤ 4) (hb : thereB l.length at_ n = false) :
    Calls Try.prog 41 #[v, .int .i64 at_, .int .i64 n] w fun e w' => e = .returned (.tuple #[.int .u32 0, .bool false]) ∧ w = w' := by
  have := refGet_any v l at_ n w h ha hn
  rw [hb] at this
  exact this
theorem num_two (x y : UInt8) : num [x, y] = x.toNat * 256 + y.toNat := by
  have := x.toNat_lt
  have := y.toNat_lt
  simp only [num, List.foldl_cons, List.foldl_nil]
  omega
theorem split16 {l : List UInt8} {n : Nat} (h : n + 2 ≤ l.length) :
    l = l.take n ++ (put16 [(num ((l.drop n).take 2) : Int)] ++ l.drop (n + 2)) ∧ (num ((l.drop n).take 2) : Int) ≤ 65535 := by
  have e : (l.drop n).take 2 = [l[n], l[n + 1]] := by
    rw [List.drop_eq_getElem_cons (by omega), List.drop_eq_getElem_cons (by omega)]
    rfl
  have hx := l[n].toNat_lt
  have hy := l[n + 1].toNat_lt
  rw [e, num_two]
  refine ⟨?_, by omega⟩
  have e2 : put16 [((l[n].toNat * 256 + l[n + 1].toNat : Nat) : Int)] = [l[n], l[n + 1]] := by
    simp only [put16]
    have a1 : u8 (((l[n].toNat * 256 + l[n + 1].toNat : Nat) : Int) / 256) = l[n] := UInt8.toNat_inj.1 (by have := u8_toNat (((l[n].toNat * 256 + l[n + 1].toNat : Nat) : Int) / 256); omega)
    have a2 : u8 ((l[n].toNat * 256 + l[n + 1].toNat : Nat) : Int) = l[n + 1] := UInt8.toNat_inj.1 (by have := u8_toNat ((l[n].toNat * 256 + l[n + 1].toNat : Nat) : Int); omega)
    rw [a1, a2]
  rw [e2, ← e, ← List.drop_drop, List.take_append_drop, List.take_append_drop]
theorem cut_head {l : List UInt8} {n : Nat} (h : n ≤ l.length) : cutB l 0 n = l.take n := by
  rw [cutB, if_pos (thereB_iff.2 ⟨by omega, by omega, by omega, by omega⟩)]
  simp
theorem cut_tail {l : List UInt8} {n : Nat} {k : Int} (h : n ≤ l.length) (hk : k = (l.length : Int) - n) : cutB l n k = l.drop n := by
  subst hk
  rw [cutB, if_pos (thereB_iff.2 ⟨by omega, by omega, by omega, by omega⟩), List.take_of_length_le (by rw [List.length_drop]; omega)]
  simp
theorem inF_bd (n lo hi : Int) (h : lo ≤ hi) : lo ≤ inF n lo hi ∧ inF n lo hi ≤ hi := by
  unfold inF
  split
  · omega
  · split <;> omega

set_option maxHeartbeats 1000000 in
theorem sumKeeps_walk (v0 : Value) (l0 : List UInt8) (at_ next : Int) (w : World) (b0 : IsB w v0 l0) (hn : 0 ≤ next ∧ next ≤ 65535) :
    Calls Try.prog 8 #[v0, .int .i64 at_, .int .u16 next] w fun e w' => e = .returned (.bool true) ∧ Grow w w' := by
  obtain ⟨hn1, hn2⟩ := hn
  go_enter Try.func8, Try.ntmps8
  go_wp2_with fail
  refine (few_any _ _ _ _ b0 (by omega)).mono ?_; rintro e w' ⟨x0, rfl, c0, rfl⟩
  obtain ⟨m, Hm, c0⟩ := c0.named
  obtain ⟨p1c0, k1c0, rfl⟩ := c0.opened
  have n0 : m.length ≤ 200 := by rw [Hm.out, List.length_take]; omega
  clear b0 Hm
  go_wp2_with fail
  refine (in_any _ _ _ _).mono ?_; rintro e w' ⟨rfl, rfl⟩
  obtain ⟨q1, q2⟩ := inF_bd at_ 0 200 (by omega)
  generalize inF at_ 0 200 = q at *
  obtain ⟨Q, rfl⟩ := Int.eq_ofNat_of_zero_le q1
  by_cases hb : thereB m.length ((Q : Int) * 2) 2 = true
  · obtain ⟨t1, t2, t3, t4⟩ := thereB_iff.1 hb
    have HB := Lib.hid hb
    clear hb
    obtain ⟨HM, hold⟩ := split16 (l := m) (n := Q * 2) (by omega)
    have HM1 := Lib.hid HM
    clear HM
    have hm1 : 0 ≤ (num ((m.drop (Q * 2)).take 2) : Int) := by omega
    go_wp2_with fail
    refine (refGet_yes _ _ _ 2 _ (c0.grow (by first | exact Grow.refl _ | exact Grow.a1 _ _ | exact Grow.a2 _ _ _ | exact Grow.a3 _ _ _ _ | exact Grow.a4 _ _ _ _ _ | exact Grow.a5 _ _ _ _ _ _ | exact Grow.a6 _ _ _ _ _ _ _)) (by omega) (by omega) HB.out).mono ?_; rintro e w' ⟨rfl, rfl⟩
    rw [show ((Q : Int) * 2).toNat = Q * 2 by omega]
    generalize (num ((m.drop (Q * 2)).take 2) : Int) = old at *
    have hw := u16_in (n := old) (by omega) (by omega)
    go_wp2_with fail
    refine (refCut_any _ _ 0 _ _ (c0.grow (by first | exact Grow.refl _ | exact Grow.a1 _ _ | exact Grow.a2 _ _ _ | exact Grow.a3 _ _ _ _ | exact Grow.a4 _ _ _ _ _ | exact Grow.a5 _ _ _ _ _ _ | exact Grow.a6 _ _ _ _ _ _ _)) (by omega) (by omega)).mono ?_; rintro e w4 ⟨x2, rfl, o2, gn⟩
    have c2 := o2.isB
    have gs : Grow w w4 := Grow.trans (by first | exact Grow.refl _ | exact Grow.a1 _ _ | exact Grow.a2 _ _ _ | exact Grow.a3 _ _ _ _ | exact Grow.a4 _ _ _ _ _ | exact Grow.a5 _ _ _ _ _ _ | exact Grow.a6 _ _ _ _ _ _ _) gn
    replace c0 := c0.grow gs
    have g := gs
    clear gs gn
    rw [show ((Q : Int) * 2) = ((Q * 2 : Nat) : Int) by omega, cut_head (by omega)] at c2
    clear o2
    obtain ⟨h, Hh, c2⟩ := c2.named
    obtain ⟨p2, k2, rfl⟩ := c2.opened
    go_wp2_with fail
    refine (refCut_any _ _ _ _ _ (c0.grow (by first | exact Grow.refl _ | exact Grow.a1 _ _ | exact Grow.a2 _ _ _ | exact Grow.a3 _ _ _ _ | exact Grow.a4 _ _ _ _ _ | exact Grow.a5 _ _ _ _ _ _ | exact Grow.a6 _ _ _ _ _ _ _)) (by omega) (by omega)).mono ?_; rintro e w5 ⟨x3, rfl, o3, gn⟩
    have c3 := o3.isB
    have gs : Grow w4 w5 := Grow.trans (by first | exact Grow.refl _ | exact Grow.a1 _ _ | exact Grow.a2 _ _ _ | exact Grow.a3 _ _ _ _ | exact Grow.a4 _ _ _ _ _ | exact Grow.a5 _ _ _ _ _ _ | exact Grow.a6 _ _ _ _ _ _ _) gn
    replace c0 := c0.grow gs
    replace c2 := c2.grow gs
    replace g := g.trans gs
    clear gs gn
    rw [show ((Q : Int) * 2 + 2) = ((Q * 2 + 2 : Nat) : Int) by omega, cut_tail (by omega) (by omega)] at c3
    clear o3
    obtain ⟨t, Ht, c3⟩ := c3.named
    obtain ⟨p3, k3, rfl⟩ := c3.opened
    have e2 : h.length = Q * 2 := by rw [Hh.out, List.length_take]; omega
    have e3 : t.length ≤ 200 := by rw [Ht.out, List.length_drop]; omega
    have hth : thereB m.length 0 ((Q : Int) * 2) = true := thereB_iff.2 ⟨by omega, by omega, by omega, by omega⟩
    rw [← Hh.out, ← Ht.out] at HM1
    have e4 : h.length % 2 = 0 := by omega
    have E2 := Lib.hid e2
    have E4 := Lib.hid e4
    have e5 : h.length ≤ 200 := by omega
    clear e2 e4
    go_wp2_with fail
    refine (refPut_any _ 2 _ (by omega) (by omega)).mono ?_; rintro e w6 ⟨x4, rfl, o4, gn⟩
    have c4 := o4.isB
    have gs : Grow w5 w6 := Grow.trans (by first | exact Grow.refl _ | exact Grow.a1 _ _ | exact Grow.a2 _ _ _ | exact Grow.a3 _ _ _ _ | exact Grow.a4 _ _ _ _ _ | exact Grow.a5 _ _ _ _ _ _ | exact Grow.a6 _ _ _ _ _ _ _) gn
    replace c0 := c0.grow gs
    replace c2 := c2.grow gs
    replace c3 := c3.grow gs
    replace g := g.trans gs
    clear gs gn
    rw [lowB_two] at c4
    clear o4
    have n4 : (put16 [next]).length ≤ 2 := Nat.le_refl 2
    obtain ⟨P4, H4, c4⟩ := c4.named
    rw [← H4.out] at n4
    obtain ⟨p4, k4, rfl⟩ := c4.opened
    go_wp2_with fail
    refine (add_any _ _ _ _ _ (c4.grow (by first | exact Grow.refl _ | exact Grow.a1 _ _ | exact Grow.a2 _ _ _ | exact Grow.a3 _ _ _ _ | exact Grow.a4 _ _ _ _ _ | exact Grow.a5 _ _ _ _ _ _ | exact Grow.a6 _ _ _ _ _ _ _)) (c3.grow (by first | exact Grow.refl _ | exact Grow.a1 _ _ | exact Grow.a2 _ _ _ | exact Grow.a3 _ _ _ _ | exact Grow.a4 _ _ _ _ _ | exact Grow.a5 _ _ _ _ _ _ | exact Grow.a6 _ _ _ _ _ _ _)) (by omega)).mono ?_; rintro e w7 ⟨x5, rfl, o5, gn⟩
    have c5 := o5.isB
    obtain ⟨M5, HM5, c5⟩ := c5.named
    obtain ⟨p7c5, k7c5, rfl⟩ := c5.opened
    have gs : Grow w6 w7 := Grow.trans (by first | exact Grow.refl _ | exact Grow.a1 _ _ | exact Grow.a2 _ _ _ | exact Grow.a3 _ _ _ _ | exact Grow.a4 _ _ _ _ _ | exact Grow.a5 _ _ _ _ _ _ | exact Grow.a6 _ _ _ _ _ _ _) gn
    replace c0 := c0.grow gs
    replace c2 := c2.grow gs
    replace c3 := c3.grow gs
    replace c4 := c4.grow gs
    replace g := g.trans gs
    clear gs gn
    go_wp2_with fail
    refine (add_any _ _ _ _ _ (c2.grow (by first | exact Grow.refl _ | exact Grow.a1 _ _ | exact Grow.a2 _ _ _ | exact Grow.a3 _ _ _ _ | exact Grow.a4 _ _ _ _ _ | exact Grow.a5 _ _ _ _ _ _ | exact Grow.a6 _ _ _ _ _ _ _)) (c5.grow (by first | exact Grow.refl _ | exact Grow.a1 _ _ | exact Grow.a2 _ _ _ | exact Grow.a3 _ _ _ _ | exact Grow.a4 _ _ _ _ _ | exact Grow.a5 _ _ _ _ _ _ | exact Grow.a6 _ _ _ _ _ _ _)) (by rw [HM5.out, List.length_append]; omega)).mono ?_; rintro e w8 ⟨x6, rfl, o6, gn⟩
    have c6 := o6.isB
    obtain ⟨N, HN, c6⟩ := c6.named
    obtain ⟨p8c6, k8c6, rfl⟩ := c6.opened
    have gs : Grow w7 w8 := Grow.trans (by first | exact Grow.refl _ | exact Grow.a1 _ _ | exact Grow.a2 _ _ _ | exact Grow.a3 _ _ _ _ | exact Grow.a4 _ _ _ _ _ | exact Grow.a5 _ _ _ _ _ _ | exact Grow.a6 _ _ _ _ _ _ _) gn
    replace c0 := c0.grow gs
    replace c2 := c2.grow gs
    replace c3 := c3.grow gs
    replace c4 := c4.grow gs
    replace c5 := c5.grow gs
    replace g := g.trans gs
    clear gs gn
    have nN : N.length ≤ 402 := by rw [HN.out, HM5.out]; simp only [List.length_append]; omega
    have HK := fun hs => keeps_law h t old next E4.out ⟨hm1, hold⟩ ⟨hn1, hn2⟩ hs
    rw [← HM1.out, ← H4.out, ← HM5.out, ← HN.out] at HK
    have HK2 := Lib.hid HK
    clear HK o6 o5
    go_wp2_with fail
    have CN := Lib.hid c6
    go_loop [14, 15] (fun s i => ∃ (k : Nat) (B : Bool), k ≤ N.length ∧ i = .int .i64 k ∧ s = .bool B ∧ (N.take k).any (fun x => x != 0) = B) (fun _ i => N.length - (intOf i).toNat)
    case atStart => exact ⟨0, false, Nat.zero_le _, rfl, rfl, rfl⟩
    case round =>
      obtain ⟨k, B, hk, rfl, rfl, hB⟩ := hrel
      have HB2 := Lib.hid hB
      clear hB
      by_cases hlt : k < N.length
      · obtain ⟨b, o, rfl, hcell⟩ := CN.out.at_ (by omega)
        have hck := hcell k hlt
        have HS := Lib.hid (any_step hlt)
        have HY := Lib.hid (byte_ne N[k])
        clear hcell
        cases B
        · go_wp2
          go_round
          case rel => exact ⟨k + 1, _, by omega, by go_num, rfl, by rw [HS.out, HB2.out, Bool.false_or, HY.out]⟩
          case measure => simp [intOf]; omega
        · go_wp2
          go_round
          case rel => exact ⟨k + 1, _, by omega, by go_num, rfl, by rw [HS.out, HB2.out, Bool.true_or]⟩
          case measure => simp [intOf]; omega
      · have hB3 : N.any (fun x => x != 0) = B := by rw [← HB2.out, List.take_of_length_le (by omega)]
        have HB3 := Lib.hid hB3
        clear hB3
        cases B
        · go_wp2_with fail
          refine (lives02_any _).mono ?_; rintro e w9 ⟨rfl, gn⟩
          have gs : Grow w8 w9 := Grow.trans (by first | exact Grow.refl _ | exact Grow.a1 _ _ | exact Grow.a2 _ _ _ | exact Grow.a3 _ _ _ _ | exact Grow.a4 _ _ _ _ _ | exact Grow.a5 _ _ _ _ _ _ | exact Grow.a6 _ _ _ _ _ _ _) gn
          replace c0 := c0.grow gs
          replace c2 := c2.grow gs
          replace c3 := c3.grow gs
          replace c4 := c4.grow gs
          replace c5 := c5.grow gs
          replace c6 := c6.grow gs
          replace g := g.trans gs
          clear gs gn
          go_wp2_with fail
          go_ret
          exact ⟨rfl, g⟩
        · have ht := HK2.out HB3.out
          have HT := Lib.hid ht
          clear ht
          obtain ⟨om1, om2⟩ := onesF_bd m
          obtain ⟨on1, on2⟩ := onesF_bd N
          go_wp2_with fail
          refine (of_any _ [m] m _ (IsBB.lit _ _ [_] _ _ _ (by first | rfl | simp) rfl (by simp) (.one (c0.grow (by first | exact Grow.refl _ | exact Grow.a1 _ _ | exact Grow.a2 _ _ _ | exact Grow.a3 _ _ _ _ | exact Grow.a4 _ _ _ _ _ | exact Grow.a5 _ _ _ _ _ _ | exact Grow.a6 _ _ _ _ _ _ _)))) (by simp) (by omega)).mono ?_; rintro e w9 ⟨rfl, gn⟩
          have gs : Grow w8 w9 := Grow.trans (by first | exact Grow.refl _ | exact Grow.a1 _ _ | exact Grow.a2 _ _ _ | exact Grow.a3 _ _ _ _ | exact Grow.a4 _ _ _ _ _ | exact Grow.a5 _ _ _ _ _ _ | exact Grow.a6 _ _ _ _ _ _ _) gn
          replace c0 := c0.grow gs
          replace c2 := c2.grow gs
          replace c3 := c3.grow gs
          replace c4 := c4.grow gs
          replace c5 := c5.grow gs
          replace c6 := c6.grow gs
          replace g := g.trans gs
          clear gs gn
          go_wp2_with fail
          refine (turn_any _ _ _ _ (by omega) (by omega) (by omega)).mono ?_; rintro e w' ⟨rfl, rfl⟩
          rw [HT.out]
          go_wp2_with fail
          refine (of_any _ [N] N _ (IsBB.lit _ _ [_] _ _ _ (by first | rfl | simp) rfl (by simp) (.one (c6.grow (by first | exact Grow.refl _ | exact Grow.a1 _ _ | exact Grow.a2 _ _ _ | exact Grow.a3 _ _ _ _ | exact Grow.a4 _ _ _ _ _ | exact Grow.a5 _ _ _ _ _ _ | exact Grow.a6 _ _ _ _ _ _ _)))) (by simp) (by omega)).mono ?_; rintro e w11 ⟨rfl, gn⟩
          have gs : Grow w9 w11 := Grow.trans (by first | exact Grow.refl _ | exact Grow.a1 _ _ | exact Grow.a2 _ _ _ | exact Grow.a3 _ _ _ _ | exact Grow.a4 _ _ _ _ _ | exact Grow.a5 _ _ _ _ _ _ | exact Grow.a6 _ _ _ _ _ _ _) gn
          replace c0 := c0.grow gs
          replace c2 := c2.grow gs
          replace c3 := c3.grow gs
          replace c4 := c4.grow gs
          replace c5 := c5.grow gs
          replace c6 := c6.grow gs
          replace g := g.trans gs
          clear gs gn
          go_wp2_with fail
          refine (lives02_any _).mono ?_; rintro e w12 ⟨rfl, gn⟩
          have gs : Grow w11 w12 := Grow.trans (by first | exact Grow.refl _ | exact Grow.a1 _ _ | exact Grow.a2 _ _ _ | exact Grow.a3 _ _ _ _ | exact Grow.a4 _ _ _ _ _ | exact Grow.a5 _ _ _ _ _ _ | exact Grow.a6 _ _ _ _ _ _ _) gn
          replace c0 := c0.grow gs
          replace c2 := c2.grow gs
          replace c3 := c3.grow gs
          replace c4 := c4.grow gs
          replace c5 := c5.grow gs
          replace c6 := c6.grow gs
          replace g := g.trans gs
          clear gs gn
          go_wp2_with fail
          go_ret
          exact ⟨rfl, g⟩
  · have hb' : thereB m.length ((Q : Int) * 2) 2 = false := by simpa using hb
    have HB := Lib.hid hb'
    clear hb hb'
    go_wp2_with fail
    refine (refGet_no _ _ _ 2 _ c0 (by omega) (by omega) HB.out).mono ?_; rintro e w' ⟨rfl, rfl⟩
    go_wp2_with fail
    refine (lives02_any _).mono ?_; rintro e w10 ⟨rfl, gn⟩
    have gs : Grow w w10 := Grow.trans (by first | exact Grow.refl _ | exact Grow.a1 _ _ | exact Grow.a2 _ _ _ | exact Grow.a3 _ _ _ _ | exact Grow.a4 _ _ _ _ _ | exact Grow.a5 _ _ _ _ _ _ | exact Grow.a6 _ _ _ _ _ _ _) gn
    have g := gs
    clear gs gn
    go_wp2_with fail
    go_ret
    exact ⟨rfl, g⟩
end Go.Proofs.Ytmdaajlcikmnaaa
