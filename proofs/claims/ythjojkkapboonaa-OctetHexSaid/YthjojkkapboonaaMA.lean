/- Hex and its reference. -/
import Derived.Test.YthjojkkapboonaaCB
import Derived.Deep.RegionLaw
namespace Go.Proofs.Ythjojkkapboonaa
set_option linter.unusedSimpArgs false
set_option linter.unusedVariables false
open Go.RowKit

/-- The figure of a number below 16. -/
def fig (n : Int) : UInt8 := if n < 10 then u8 (48 + n) else u8 (87 + n)
def hexL : List UInt8 → List UInt8
  | [] => []
  | x :: r => fig ((x.toNat : Int) / 16) :: fig ((x.toNat : Int) % 16) :: hexL r
theorem hexL_append (a b : List UInt8) : hexL (a ++ b) = hexL a ++ hexL b := by
  induction a with
  | nil => rfl
  | cons x a ih => simp [hexL, ih]
theorem length_hexL (a : List UInt8) : (hexL a).length = 2 * a.length := by
  induction a with
  | nil => rfl
  | cons x a ih => simp [hexL, ih]; omega
theorem hex_step {l : List UInt8} {k : Nat} (h : k < l.length) :
    hexL (l.take k) ++ [fig ((l[k].toNat : Int) / 16), fig ((l[k].toNat : Int) % 16)] = hexL (l.take (k + 1)) := by
  rw [List.take_succ_eq_append_getElem h, hexL_append]
  rfl

theorem figure_index (j : Int) (h0 : 0 ≤ j) (h1 : j < 16) (w : World) :
    (Instr.index 9 (.string ⟨#[48, 49, 50, 51, 52, 53, 54, 55, 56, 57, 97, 98, 99, 100, 101, 102]⟩) (.int .u8 j)).run Try.prog w = .ok (.int .u8 (fig j).toNat) w := by
  have h : j = 0 ∨ j = 1 ∨ j = 2 ∨ j = 3 ∨ j = 4 ∨ j = 5 ∨ j = 6 ∨ j = 7 ∨ j = 8 ∨ j = 9 ∨ j = 10 ∨ j = 11 ∨ j = 12 ∨ j = 13 ∨ j = 14 ∨ j = 15 := by omega
  clear h0 h1
  rcases h with rfl | rfl | rfl | rfl | rfl | rfl | rfl | rfl | rfl | rfl | rfl | rfl | rfl | rfl | rfl | rfl
  all_goals (show Sem.run _ _ _ = _; kernel_rfl)

set_option maxHeartbeats 400000 in
set_option maxRecDepth 100000 in
theorem hex_any (v : Value) (l : List UInt8) (w : World) (h : IsB w v l) (hb : l.length ≤ 70368744177664) :
    Calls Try.prog 27 #[v] w fun e w' => e = .returned (.string (bstr (hexL l))) ∧ Grow w w' := by
  obtain ⟨i, hi, hz0, hz1, hz2⟩ := info_parts Try.info5
  have HI := Lib.hid hi
  have H0 := Lib.hid hz0
  have H1 := Lib.hid hz1
  have H2 := Lib.hid hz2
  obtain ⟨p, c, rfl, hc, hm, hp, hx⟩ := h.form
  have HB := Lib.hid hb
  have HX := Lib.hid hx
  have hl2 : (2 : Int) * (l.length : Int) ≤ 9223372036854775807 := by omega
  clear hi hz0 hz1 hz2 hx hp hb
  go_enter Try.func27, Try.ntmps27
  go_wp2_with (at_make; refine wpList_make_own _ rfl _ _ 38 rfl w.heap.size 5 i (.int .u8 0) 1 Try.underlying38 HI.out H0.out H1.out _ _ _ (2 * l.length) rfl rfl (by omega) (by rw [H2.out]; have := HB.out; omega) (by simp only [maxLen]; have := HB.out; omega) (Nat.le_refl _) ?_; intro w1 hown hgr)
  have hown' : Own 5 w.heap.size w1 (.slice (some ⟨w.heap.size, 0, none⟩) 0 (2 * l.length)) [] := hown
  have hg : Grow w w1 := growOf (Grow.refl _) hgr (fun k hk => by cases hk)
  clear hown hgr
  go_wp2
  go_loopw [3, 5, 12] (fun out x ix wr => ∃ k : Nat, k ≤ l.length ∧ ix = .int .i64 k ∧ Own 5 w.heap.size wr out (hexL (l.take k)) ∧ Grow w wr) (fun _ _ ix _ => l.length - (intOf ix).toNat)
  case atStart => exact ⟨0, Nat.zero_le _, rfl, hown', hg⟩
  case round =>
    clear hown' hg hl2
    obtain ⟨k, hk, rfl, hown, hg⟩ := hrel
    by_cases hlt : k < l.length
    · obtain ⟨b, o, rfl, hcell⟩ := HX.out (by omega)
      have hck := hg.cell (hcell k hlt)
      have hx2 := (l[k]).toNat_lt
      have HS := Lib.hid (hex_step hlt)
      have hand : bits .and .u8 (l[k].toNat : Int) 15 = (l[k].toNat : Int) % 16 := u8_and15 _ (by omega) (by omega)
      have f1 := figure_index ((l[k].toNat : Int) / 16) (by omega) (by omega)
      have f2 := figure_index ((l[k].toNat : Int) % 16) (by omega) (by omega)
      clear hcell
      go_wp2
      go_region_law (refine step_append (by rfl) _ _ _ (by rfl) w.heap.size 5 i Try.underlying38 HI.out H0.out H1.out H2.out _ _ (by rfl) (hown.grow ((Grow.refl _).drew.alloc _)) _ [fig ((l[k].toNat : Int) / 16), fig ((l[k].toNat : Int) % 16)] (by rfl) (IsB.lit2 _ _ _ _ _ _ _ (by simp) rfl rfl) (by have := HB.out; simp [length_hexL]; omega) (by have := hg.le; simp; omega) ?_; intro v' w' hown2 hbl hgr)
      all_goals
        go_wp2
        go_roundw
        case rel => exact ⟨k + 1, by omega, by go_num, by rw [← HS.out]; exact hown2, ((hg.drew).alloc _).on hbl (Nat.le_refl _)⟩
        case measure => simp [intOf]; omega
    · have hcv := hown.isB.convert (P := Try.prog) 38 5 9 Try.underlying38 Try.underlying5 Try.underlying9
      rw [List.take_of_length_le (by omega)] at hcv
      go_wp2_with fail
      go_ret
      exact ⟨rfl, hg⟩

theorem figure_any (n : Int) (w : World) (h0 : 0 ≤ n) (h1 : n < 16) :
    Calls Try.prog 56 #[.int .u8 n] w fun e w' => e = .returned (.int .u8 (fig n).toNat) ∧ w = w' := by
  by_cases h : n < 10
  · have HF := Lib.hid (show ((fig n).toNat : Int) = 48 + n by rw [fig, if_pos h, u8_toNat]; omega)
    go_enter Try.func56, Try.ntmps56
    go_wp2
    go_ret
    exact ⟨ret_int (by rw [HF.out]), rfl⟩
  · have HF := Lib.hid (show ((fig n).toNat : Int) = 97 + n - 10 by rw [fig, if_neg h, u8_toNat]; omega)
    go_enter Try.func56, Try.ntmps56
    go_wp2
    go_ret
    exact ⟨ret_int (by rw [HF.out]), rfl⟩

set_option maxHeartbeats 1000000 in
set_option maxRecDepth 100000 in
theorem refHex_any (v : Value) (l : List UInt8) (w : World) (h : IsB w v l) (hb : l.length ≤ 70368744177664) :
    Calls Try.prog 28 #[v] w fun e w' => e = .returned (.string (bstr (hexL l))) ∧ Grow w w' := by
  obtain ⟨i, hi, hz0, hz1, hz2⟩ := info_parts Try.info5
  have HI := Lib.hid hi
  have H0 := Lib.hid hz0
  have H1 := Lib.hid hz1
  have H2 := Lib.hid hz2
  obtain ⟨p, c, rfl, hc, hm, hp, hx⟩ := h.form
  have HB := Lib.hid hb
  have HX := Lib.hid hx
  clear hi hz0 hz1 hz2 hx hp hb
  go_enter Try.func28, Try.ntmps28
  go_wp2_with fail
  go_loopw [3, 4] (fun out ix wr => ∃ k : Nat, k ≤ l.length ∧ ix = .int .i64 k ∧ Own 5 w.heap.size wr out (hexL (l.take k)) ∧ Grow w wr) (fun _ ix _ => l.length - (intOf ix).toNat)
  case atStart => exact ⟨0, Nat.zero_le _, rfl, Own.made0 _ _ _ (Nat.le_refl _), Grow.a1 _ _⟩
  case round =>
    obtain ⟨k, hk, rfl, hown, hg⟩ := hrel
    by_cases hlt : k < l.length
    · obtain ⟨b, o, rfl, hcell⟩ := HX.out (by omega)
      have hck := hg.cell (hcell k hlt)
      have HCK := Lib.hid (hcell k hlt)
      have hx2 := (l[k]).toNat_lt
      have HS := Lib.hid (hex_step hlt)
      clear hcell
      have tok1 : True := trivial
      go_wp2_with (first | (go_at_call 56; refine (figure_any _ _ (by omega) (by omega)).mono ?_; rintro e w' ⟨rfl, rfl⟩) | (at_builtin; have _t := tok1; refine wpl_append rfl _ _ _ rfl w.heap.size 5 i Try.underlying38 HI.out H0.out H1.out H2.out _ _ rfl (hown.grow (Grow.a1 _ _)) _ [fig ((l[k].toNat : Int) / 16)] rfl (IsB.built1 _ _ _ _ rfl) (by have := HB.out; simp [length_hexL]; omega) (by have := hg.le; simp; omega) ?_; intro v1 w1 hown1 hbl1 hgr1; clear tok1 hgr1; have hg1 := (hg.alloc _).on hbl1 (Nat.le_refl _); have hck1 := hg1.cell HCK.out) | (at_builtin; refine wpl_append rfl _ _ _ rfl w.heap.size 5 i Try.underlying38 HI.out H0.out H1.out H2.out _ _ rfl (hown1.grow (Grow.a1 _ _)) _ [fig ((l[k].toNat : Int) % 16)] rfl (IsB.built1 _ _ _ _ rfl) (by have := HB.out; simp [length_hexL]; omega) (by have := hg1.le; simp; omega) ?_; intro v2 w2 hown2 hbl2 hgr2))
      go_roundw
      case rel => exact ⟨k + 1, by omega, by go_num, by rw [← HS.out]; simpa using hown2, (hg1.alloc _).on hbl2 (Nat.le_refl _)⟩
      case measure => simp [intOf]; omega
    · have hcv := hown.isB.convert (P := Try.prog) 38 5 9 Try.underlying38 Try.underlying5 Try.underlying9
      rw [List.take_of_length_le (by omega)] at hcv
      go_wp2_with fail
      go_ret
      exact ⟨rfl, hg⟩

set_option maxHeartbeats 1000000 in
theorem lives01_any (w : World) : Calls Try.prog 29 #[] w fun e w' => e = .returned (.bool true) ∧ Grow w w' := by
  have o1 := Lib.hid (show get16 ([] ++ put16 [258]) 0 = 258 by decide)
  have o2 := Lib.hid (show thereB ([] ++ put16 [258]).length 0 2 = true by decide)
  have o3 := Lib.hid (show bstr (hexL [171, 5]) = ⟨#[97, 98, 48, 53]⟩ by decide)
  go_enter Try.func29, Try.ntmps29
  go_wp2_with fail
  refine (put16_any _ [] _ [258] _ (IsB.nil _) (IsI.lit _ _ _ [_] _ _ _ rfl rfl (by simp) rfl) (by simp) (by simp)).mono ?_; rintro e w1 ⟨v1, rfl, ho, g1⟩
  go_wp2_with fail
  refine (get16_any _ _ _ _ ho.isB (by omega)).mono ?_; rintro e w' ⟨rfl, rfl⟩; rw [o1.out, o2.out]
  go_wp2_with fail
  refine (hex_any _ [171, 5] _ (IsB.lit2 _ _ _ _ _ _ _ rfl rfl rfl) (by simp)).mono ?_; rintro e w2 ⟨rfl, g2⟩; rw [o3.out]
  go_wp2_with fail
  go_ret
  exact ⟨rfl, (((Grow.a1 _ _).trans g1).alloc _).trans g2⟩

end Go.Proofs.Ythjojkkapboonaa
