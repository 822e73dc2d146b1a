/- The reference of chapter 1, further. -/
import Derived.Test.YthjojkkapboonaaCA
namespace Go.Proofs.Ythjojkkapboonaa
set_option linter.unusedSimpArgs false
set_option linter.unusedVariables false
open Go.RowKit

theorem growN {w wr : World} (h : Grow w wr) (n : Nat) : Grow w (wr.drewN n) := ⟨h.os, h.tape, h.output, h.size, h.block⟩
theorem ret_bool {a b : Bool} (h : b = a) : Ending.returned (.bool a) = .returned (.bool b) := by rw [h]
theorem num_stepI {l : List UInt8} {a k : Nat} (h : a + k < l.length) :
    ((num ((l.drop a).take (k + 1)) : Nat) : Int) = ((num ((l.drop a).take k) : Int) * 256 + ((l[a + k]).toNat : Int)) % 4294967296 := by
  rw [List.take_succ_eq_append_getElem (show k < (l.drop a).length by simp; omega), num_snoc]
  simp

set_option maxHeartbeats 400000 in
theorem refGet_any (v : Value) (l : List UInt8) (at_ : Int) (n : Nat) (w : World) (h : IsB w v l) (ha : -9223372036854775808 ≤ at_ ∧ at_ ≤ 9223372036854775807) (hn : n ≤ 4) :
    Calls Try.prog 87 #[v, .int .i64 at_, .int .i64 n] w fun e w' =>
      e = .returned (.tuple #[.int .u32 (if thereB l.length at_ n then (num ((l.drop at_.toNat).take n) : Int) else 0), .bool (thereB l.length at_ n)]) ∧ w = w' := by
  obtain ⟨p, c, rfl, hc, hm, hp, hx⟩ := h.form
  have HX := Lib.hid hx
  clear hx hp
  obtain ⟨ha1, ha2⟩ := ha
  by_cases hb : thereB l.length at_ n = true
  · obtain ⟨g1, g2, g3, g4⟩ := thereB_iff.1 hb
    obtain ⟨a, rfl⟩ := Int.eq_ofNat_of_zero_le g1
    rw [hb]
    clear hb
    go_enter Try.func87, Try.ntmps87
    go_wp2
    go_loop [8, 9] (fun x i => ∃ k : Nat, k ≤ n ∧ i = .int .i64 k ∧ x = .int .u32 (num ((l.drop a).take k))) (fun _ i => n - (intOf i).toNat)
    case atStart => exact ⟨0, Nat.zero_le _, rfl, rfl⟩
    case round =>
      obtain ⟨k, hk, rfl, rfl⟩ := hrel
      have hnl := num_lt ((l.drop a).take k)
      by_cases hlt : k < n
      · obtain ⟨b, o, rfl, hcell⟩ := HX.out (by omega)
        have hin : a + k < l.length := by omega
        have hck := hcell (a + k) hin
        have hx2 := (l[a + k]).toNat_lt
        have HS := Lib.hid (num_stepI hin)
        clear hcell
        go_wp2
        go_round
        case rel => exact ⟨k + 1, by omega, by go_num, by rw [HS.out]; congr 1; omega⟩
        case measure => simp [intOf]; omega
      · obtain rfl : k = n := by omega
        go_wp2
        go_ret2
        exact ⟨by simp, rfl⟩
  · have hb' : thereB l.length at_ n = false := by simpa using hb
    rw [hb']
    have hno : ¬ (0 ≤ at_ ∧ at_ ≤ (l.length : Int) ∧ (n : Int) ≤ (l.length : Int) - at_) := by
      intro hh
      exact hb (thereB_iff.2 ⟨hh.1, by omega, hh.2.1, hh.2.2⟩)
    clear hb hb'
    by_cases h1 : at_ < 0
    · clear hno
      go_enter Try.func87, Try.ntmps87
      go_wp2
      go_ret2
      exact ⟨by simp, rfl⟩
    · by_cases h2 : at_ > (l.length : Int)
      · clear hno
        go_enter Try.func87, Try.ntmps87
        go_wp2
        go_ret2
        exact ⟨by simp, rfl⟩
      · have h3 : (n : Int) > (l.length : Int) - at_ := by omega
        clear hno
        go_enter Try.func87, Try.ntmps87
        go_wp2
        go_ret2
        exact ⟨by simp, rfl⟩

set_option maxHeartbeats 400000 in
theorem refCut_any (v : Value) (l : List UInt8) (at_ n : Int) (w : World) (h : IsB w v l) (ha : -9223372036854775808 ≤ at_ ∧ at_ ≤ 9223372036854775807) (hlb : l.length ≤ 140737488355328) :
    Calls Try.prog 66 #[v, .int .i64 at_, .int .i64 n] w fun e w' => ∃ v', e = .returned (.tuple #[v', .bool (thereB l.length at_ n)]) ∧ Own 5 w.heap.size w' v' (cutB l at_ n) ∧ Grow w w' := by
  obtain ⟨p, c, rfl, hc, hm, hp, hx⟩ := h.form
  obtain ⟨i, hi, hz0, hz1, hz2⟩ := info_parts Try.info5
  have HI := Lib.hid hi
  have H0 := Lib.hid hz0
  have H1 := Lib.hid hz1
  have H2 := Lib.hid hz2
  have HX := Lib.hid hx
  have HB := Lib.hid hlb
  clear hx hp hlb hi hz0 hz1 hz2
  obtain ⟨ha1, ha2⟩ := ha
  by_cases hb : thereB l.length at_ n = true
  · obtain ⟨g1, g2, g3, g4⟩ := thereB_iff.1 hb
    obtain ⟨a, rfl⟩ := Int.eq_ofNat_of_zero_le g1
    obtain ⟨N, rfl⟩ := Int.eq_ofNat_of_zero_le g2
    have hfin := Lib.hid (show cutB l a N = (l.drop a).take N by rw [cutB, if_pos hb]; simp)
    rw [hb]
    clear hb
    have d1 : decide ((a : Int) < 0) = false := by simp
    have d2 : decide ((N : Int) < 0) = false := by simp
    have d3 : decide (l.length < a) = false := by simp; omega
    have d4 : decide ((l.length : Int) - (a : Int) < (N : Int)) = false := by simp; omega
    go_enter Try.func66, Try.ntmps66
    go_wp2
    go_loopw [8, 9] (fun out i wr => ∃ k : Nat, k ≤ N ∧ i = .int .i64 k ∧ Own 5 w.heap.size wr out ((l.drop a).take k) ∧ Grow w wr) (fun _ i _ => N - (intOf i).toNat)
    case atStart => exact ⟨0, Nat.zero_le _, rfl, Own.made0 _ _ _ (Nat.le_refl _), (Grow.refl _).alloc _⟩
    case round =>
      obtain ⟨k, hk, rfl, hown, hg⟩ := hrel
      by_cases hlt : k < N
      · obtain ⟨b, o, rfl, hcell⟩ := HX.out (by omega)
        have hin : a + k < l.length := by omega
        have hck := hg.cell (hcell (a + k) hin)
        have HS := Lib.hid (show (l.drop a).take k ++ [l[a + k]] = (l.drop a).take (k + 1) by rw [List.take_succ_eq_append_getElem (show k < (l.drop a).length by simp; omega)]; simp)
        clear hcell
        go_wp2_with (at_builtin; go_must (refine wpl_append rfl _ _ _ rfl w.heap.size 5 i Try.underlying38 HI.out H0.out H1.out H2.out _ _ rfl (hown.grow ((Grow.refl _).alloc _)) _ [l[a + k]] rfl (IsB.built1 _ _ _ _ rfl) (by have := HB.out; simp; omega) (by have := hg.le; simp; omega) ?_); intro v' w' hown2 hbl hgr)
        go_roundw
        case rel => exact ⟨k + 1, by omega, by go_num, by rw [← HS.out]; exact hown2, (hg.alloc _).on hbl (Nat.le_refl _)⟩
        case measure => simp [intOf]; omega
      · obtain rfl : k = N := by omega
        go_wp2
        go_ret2
        exact ⟨_, rfl, by rw [hfin.out]; exact hown, hg⟩
  · have hb' : thereB l.length at_ n = false := by simpa using hb
    have hfin := Lib.hid (show cutB l at_ n = [] by rw [cutB, if_neg hb])
    rw [hb']
    have hno : ¬ (0 ≤ at_ ∧ 0 ≤ n ∧ at_ ≤ (l.length : Int) ∧ n ≤ (l.length : Int) - at_) := fun hh => hb (thereB_iff.2 hh)
    clear hb hb'
    by_cases h1 : at_ < 0
    · clear hno
      go_enter Try.func66, Try.ntmps66
      go_wp2
      go_ret2
      exact ⟨_, rfl, by rw [hfin.out]; exact Own.nil _ _ _, Grow.refl _⟩
    · by_cases h0 : n < 0
      · clear hno
        go_enter Try.func66, Try.ntmps66
        go_wp2
        go_ret2
        exact ⟨_, rfl, by rw [hfin.out]; exact Own.nil _ _ _, Grow.refl _⟩
      · by_cases h2 : at_ > (l.length : Int)
        · clear hno
          go_enter Try.func66, Try.ntmps66
          go_wp2
          go_ret2
          exact ⟨_, rfl, by rw [hfin.out]; exact Own.nil _ _ _, Grow.refl _⟩
        · have h3 : n > (l.length : Int) - at_ := by omega
          clear hno
          go_enter Try.func66, Try.ntmps66
          go_wp2
          go_ret2
          exact ⟨_, rfl, by rw [hfin.out]; exact Own.nil _ _ _, Grow.refl _⟩

/-- ref01.In -/
def inF (n lo hi : Int) : Int := if n < lo then lo else if n > hi then hi else n
theorem in_any (n lo hi : Int) (w : World) :
    Calls Try.prog 77 #[.int .i64 n, .int .i64 lo, .int .i64 hi] w fun e w' => e = .returned (.int .i64 (inF n lo hi)) ∧ w = w' := by
  by_cases h1 : n < lo
  · go_enter Try.func77, Try.ntmps77
    go_wp2
    go_ret
    exact ⟨by simp [inF, h1], rfl⟩
  · by_cases h2 : n > hi
    · go_enter Try.func77, Try.ntmps77
      go_wp2
      go_ret
      exact ⟨by rw [inF, if_neg (by omega), if_pos h2]; rfl, rfl⟩
    · go_enter Try.func77, Try.ntmps77
      go_wp2
      go_ret
      exact ⟨by rw [inF, if_neg (by omega), if_neg (by omega)]; rfl, rfl⟩

set_option maxHeartbeats 400000 in
theorem refSame_any (v v2 : Value) (l m : List UInt8) (w : World) (h : IsB w v l) (h2 : IsB w v2 m) :
    Calls Try.prog 21 #[v, v2] w fun e w' => e = .returned (.bool (l == m)) ∧ Grow w w' := by
  obtain ⟨p, c, rfl, hc, hm, hp, hx⟩ := h.form
  obtain ⟨p2, c2, rfl, hc2, hm2, hp2, hx2⟩ := h2.form
  have HX := Lib.hid hx
  have HX2 := Lib.hid hx2
  clear hx hp hx2 hp2
  by_cases hne : l.length = m.length
  · have hne1 : ((l.length : Int) != (m.length : Int)) = false := by simp; omega
    have HN := Lib.hid hne
    have hle : m.length ≤ l.length := by omega
    have hle2 : l.length ≤ m.length := by omega
    clear hne
    go_enter Try.func21, Try.ntmps21
    go_wp2
    go_loopw [5] (fun i wr => ∃ k : Nat, k ≤ l.length ∧ i = .int .i64 k ∧ l.take k = m.take k ∧ Grow w wr) (fun i _ => l.length - (intOf i).toNat)
    case atStart => exact ⟨0, Nat.zero_le _, rfl, by simp, Grow.refl _⟩
    case round =>
      obtain ⟨k, hk, rfl, ht, hg⟩ := hrel
      have HT := Lib.hid ht
      clear ht
      by_cases hlt : k < l.length
      · obtain ⟨b, o, rfl, hcell⟩ := HX.out (by omega)
        obtain ⟨b2, o2, rfl, hcell2⟩ := HX2.out (by omega)
        have hck := hg.cell (hcell k hlt)
        have hck2 := hg.cell (hcell2 k (by omega))
        have hi1 : (0 : Int) ≤ (k : Int) := by omega
        have hi2 : (k : Int) < (l.length : Int) := by omega
        have hi3 : (k : Int) < (m.length : Int) := by omega
        have hkm : k < m.length := by omega
        clear hcell hcell2
        go_wp2
        by_cases hek : (l[k].toNat : Int) = (m[k].toNat : Int)
        · have he1 : ((l[k].toNat : Int) != (m[k].toNat : Int)) = false := by simp; omega
          have HE := Lib.hid hek
          clear hek
          go_quiet (fail)
          go_wp2
          go_roundw
          case rel => exact ⟨k + 1, by omega, by go_num, by rw [List.take_succ_eq_append_getElem hlt, List.take_succ_eq_append_getElem hkm, HT.out]; have e : l[k] = m[k] := UInt8.toNat_inj.1 (by have := HE.out; omega); rw [e], growN hg _⟩
          case measure => simp [intOf]; omega
        · have he1 : ((l[k].toNat : Int) != (m[k].toNat : Int)) = true := by simp; omega
          have HE := Lib.hid hek
          clear hek
          go_quiet (fail)
          go_wp2
          go_ret
          refine ⟨ret_bool ?_, growN hg _⟩
          rw [beq_eq_false_iff_ne.2]
          intro e
          subst e
          exact HE.out rfl
      · go_wp2
        go_ret
        have hkl : k = l.length := by omega
        refine ⟨by congr 2; have := HT.out; rw [List.take_of_length_le (by omega), List.take_of_length_le (by omega)] at this; simp [this], hg⟩
  · have hne1 : ((l.length : Int) != (m.length : Int)) = true := by simp; omega
    go_enter Try.func21, Try.ntmps21
    go_wp2
    go_ret
    exact ⟨by congr 2; simp; intro e; exact hne (congrArg List.length e), Grow.refl _⟩
end Go.Proofs.Ythjojkkapboonaa
