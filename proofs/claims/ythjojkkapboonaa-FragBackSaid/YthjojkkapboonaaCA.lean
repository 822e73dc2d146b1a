/- The references of chapters 1 and 2: what each function answers. -/
import Derived.Test.YthjojkkapboonaaC
import Derived.Deep.QuietTactic
import Derived.BigQuiet
namespace Go.Proofs.Ythjojkkapboonaa
set_option linter.unusedSimpArgs false
set_option linter.unusedVariables false
open Go.RowKit

theorem ones_two {l : List UInt8} {k : Nat} (h : 2 * k + 1 < l.length) :
    (65535 < onesF (l.take (2 * k)) + (((l[2 * k]).toNat : Int) * 256 + ((l[2 * k + 1]).toNat : Int)) →
      onesF (l.take (2 * k)) + (((l[2 * k]).toNat : Int) * 256 + ((l[2 * k + 1]).toNat : Int)) - 65535 = onesF (l.take (2 * (k + 1)))) ∧
    (¬ 65535 < onesF (l.take (2 * k)) + (((l[2 * k]).toNat : Int) * 256 + ((l[2 * k + 1]).toNat : Int)) →
      onesF (l.take (2 * k)) + (((l[2 * k]).toNat : Int) * 256 + ((l[2 * k + 1]).toNat : Int)) = onesF (l.take (2 * (k + 1)))) := by
  have hx1 := (l[2 * k]).toNat_lt
  have hx2 := (l[2 * k + 1]).toNat_lt
  have h1 := raw_step (l := l) (k := 2 * k) (by omega)
  have h2 := raw_step h
  rw [if_pos (by omega)] at h1
  rw [if_neg (by omega), h1] at h2
  have hp := ones_pair (r := raw (l.take (2 * k))) (x := ((l[2 * k]).toNat : Int) * 256 + ((l[2 * k + 1]).toNat : Int)) (by omega) (by omega) (by omega)
  have e : (raw (l.take (2 * (k + 1))) : Int) = raw (l.take (2 * k)) + (((l[2 * k]).toNat : Int) * 256 + ((l[2 * k + 1]).toNat : Int)) := by
    rw [show 2 * (k + 1) = 2 * k + 1 + 1 by omega, h2]
    omega
  unfold onesF
  rw [e]
  exact hp
theorem ones_one {l : List UInt8} {k : Nat} (h : 2 * k < l.length) (h' : ¬ 2 * k + 1 < l.length) :
    (65535 < onesF (l.take (2 * k)) + ((l[2 * k]).toNat : Int) * 256 →
      onesF (l.take (2 * k)) + ((l[2 * k]).toNat : Int) * 256 - 65535 = onesF (l.take (2 * (k + 1)))) ∧
    (¬ 65535 < onesF (l.take (2 * k)) + ((l[2 * k]).toNat : Int) * 256 →
      onesF (l.take (2 * k)) + ((l[2 * k]).toNat : Int) * 256 = onesF (l.take (2 * (k + 1)))) := by
  have hx1 := (l[2 * k]).toNat_lt
  have h1 := raw_step (l := l) (k := 2 * k) (by omega)
  rw [if_pos (by omega)] at h1
  have hp := ones_pair (r := raw (l.take (2 * k))) (x := ((l[2 * k]).toNat : Int) * 256) (by omega) (by omega) (by omega)
  have e : (raw (l.take (2 * (k + 1))) : Int) = raw (l.take (2 * k)) + ((l[2 * k]).toNat : Int) * 256 := by
    have e2 : l.take (2 * (k + 1)) = l.take (2 * k + 1) := by
      rw [List.take_of_length_le (show l.length ≤ 2 * (k + 1) by omega), List.take_of_length_le (show l.length ≤ 2 * k + 1 by omega)]
    rw [e2, h1]
    omega
  unfold onesF
  rw [e]
  exact hp

set_option maxHeartbeats 400000 in
theorem refOnes_any (v : Value) (l : List UInt8) (w : World) (h : IsB w v l) (hb : l.length ≤ 140737488355328) :
    Calls Try.prog 86 #[v] w fun e w' => e = .returned (.int .i64 (onesF l)) ∧ w = w' := by
  obtain ⟨p, c, rfl, hc, hm, hp, hx⟩ := h.form
  have HX := Lib.hid hx
  have HB := Lib.hid hb
  clear hx hp
  go_enter Try.func86, Try.ntmps86
  go_wp2
  go_loop [3, 4, 5] (fun n i x => ∃ k : Nat, 2 * k ≤ l.length + 1 ∧ i = .int .i64 ((2 * k : Nat) : Int) ∧ n = .int .i64 (onesF (l.take (2 * k)))) (fun _ i _ => l.length + 1 - (intOf i).toNat)
  case atStart => exact ⟨0, Nat.zero_le _, rfl, rfl⟩
  case round =>
    obtain ⟨k, hk, rfl, rfl⟩ := hrel
    obtain ⟨hn1, hn2⟩ := onesF_bd (l.take (2 * k))
    by_cases hlt : 2 * k < l.length
    · obtain ⟨b, o, rfl, hcell⟩ := HX.out (by omega)
      have hck := hcell (2 * k) hlt
      have hx1 := (l[2 * k]).toNat_lt
      by_cases h2 : 2 * k + 1 < l.length
      · have hck2 := hcell (2 * k + 1) h2
        have hx2 := (l[2 * k + 1]).toNat_lt
        have HT := Lib.hid (ones_two h2)
        clear hcell
        go_wp2
        all_goals
          go_round
          case rel => exact ⟨k + 1, by omega, by go_num, by first | rw [← HT.out.1 (by omega)] | rw [← HT.out.2 (by omega)]⟩
          case measure => simp [intOf]; omega
      · have HT := Lib.hid (ones_one hlt h2)
        clear hcell
        go_wp2
        all_goals
          go_round
          case rel => exact ⟨k + 1, by omega, by go_num, by first | rw [← HT.out.1 (by omega)] | rw [← HT.out.2 (by omega)]⟩
          case measure => simp [intOf]; omega
    · go_wp2
      go_ret
      exact ⟨ret_int (by rw [List.take_of_length_le (by omega)]), rfl⟩

theorem refOf_any (v : Value) (l : List UInt8) (w : World) (h : IsB w v l) (hb : l.length ≤ 140737488355328) :
    Calls Try.prog 80 #[v] w fun e w' => e = .returned (.int .i64 (65535 - onesF l)) ∧ w = w' := by
  obtain ⟨h1, h2⟩ := onesF_bd l
  go_enter Try.func80, Try.ntmps80
  go_wp2_with (first | (go_at_call 86; refine (refOnes_any v l _ h hb).mono ?_; rintro e w1 ⟨rfl, rfl⟩))
  go_ret
  exact ⟨rfl, rfl⟩

/-- ref01.Few -/
theorem few_any (v : Value) (l : List UInt8) (n : Int) (w : World) (h : IsB w v l) (hn : 0 ≤ n) :
    Calls Try.prog 24 #[v, .int .i64 n] w fun e w' => ∃ v', e = .returned v' ∧ IsB w v' (l.take n.toNat) ∧ w = w' := by
  obtain ⟨i, hi, hz0, hz1, hz2⟩ := info_parts Try.info5
  by_cases hl : n < (l.length : Int)
  · obtain ⟨v', hv', -, hs, -⟩ := h.cutI (P := Try.prog) 38 5 i Try.underlying38 hi hz1 0 n (by omega) (by omega) (by omega)
    have hs' := hs rfl
    obtain ⟨p, c, rfl, hc, hm, -, -⟩ := h.form
    clear hi hz0 hz1 hz2 hs
    go_enter Try.func24, Try.ntmps24
    go_wp2
    go_ret
    exact ⟨_, rfl, by simpa using hv', rfl⟩
  · have hl' : ¬ ((l.length : Int) > n) := by omega
    have HT := Lib.hid (List.take_of_length_le (show l.length ≤ n.toNat by omega))
    obtain ⟨p, c, rfl, hc, hm, -, -⟩ := id h.form
    clear hi hz0 hz1 hz2
    go_enter Try.func24, Try.ntmps24
    go_wp2
    go_ret
    exact ⟨_, rfl, by rw [HT.out]; exact h, rfl⟩

/-- ref01.Add -/
theorem add_any (v v2 : Value) (l m : List UInt8) (w : World) (h : IsB w v l) (h2 : IsB w v2 m) (hb : l.length + m.length ≤ 140737488355328) :
    Calls Try.prog 33 #[v, v2] w fun e w' => ∃ v', e = .returned v' ∧ Own 5 w.heap.size w' v' (l ++ m) ∧ Grow w w' := by
  obtain ⟨i, hi, hz0, hz1, hz2⟩ := info_parts Try.info5
  have HI := Lib.hid hi
  have H0 := Lib.hid hz0
  have H1 := Lib.hid hz1
  have H2 := Lib.hid hz2
  have HB := Lib.hid hb
  clear hi hz0 hz1 hz2 hb
  have tok1 : True := trivial
  go_enter Try.func33, Try.ntmps33
  go_wp2_with (first | (at_builtin; have _t := tok1; refine wpl_append rfl _ _ _ rfl w.heap.size 5 i Try.underlying38 HI.out H0.out H1.out H2.out _ [] rfl (Own.made0 _ _ _ (Nat.le_refl _)) _ l rfl (h.grow ((Grow.refl _).alloc _)) (by have := HB.out; simp; omega) (by simp) ?_; intro v1 w1 hown1 hbl1 hgr1; clear tok1 hgr1; have hg1 := ((Grow.refl w).alloc _).on hbl1 (Nat.le_refl _)) | (at_builtin; refine wpl_append rfl _ _ _ rfl w.heap.size 5 i Try.underlying38 HI.out H0.out H1.out H2.out _ _ rfl hown1 _ m rfl (h2.grow hg1) (by have := HB.out; simp; omega) hg1.le ?_; intro v' w' hown2 hbl2 hgr2))
  go_ret
  exact ⟨_, rfl, by simpa using hown2, hg1.on hbl2 (Nat.le_refl _)⟩
end Go.Proofs.Ythjojkkapboonaa
