/- Package octet: what each function answers (contracts). -/
import Derived.Test.YthjojkkapboonaaProg
import Derived.Test.YthjojkkapboonaaA
namespace Go.Proofs.Ythjojkkapboonaa
set_option linter.unusedSimpArgs false
set_option linter.unusedVariables false
open Go.RowKit

/-! ### plain words -/
def thereB (n : Nat) (at_ k : Int) : Bool := decide (0 ≤ at_ ∧ 0 ≤ k ∧ at_ ≤ n ∧ k ≤ n - at_)
def num (l : List UInt8) : Nat := l.foldl (fun n x => (n * 256 + x.toNat) % 4294967296) 0

theorem num_lt (l : List UInt8) : num l < 4294967296 := by
  unfold num
  rw [← List.foldr_reverse]
  cases l.reverse with
  | nil => simp
  | cons x l => simp only [List.foldr_cons]; exact Nat.mod_lt _ (by decide)

theorem num_snoc (l : List UInt8) (x : UInt8) : num (l ++ [x]) = (num l * 256 + x.toNat) % 4294967296 := by simp [num]

theorem take_snoc_getD {l : List UInt8} {k : Nat} (h : k < l.length) : l.take (k + 1) = l.take k ++ [l.getD k 0] := by
  rw [List.take_succ_eq_append_getElem h]
  simp [List.getD, h]

theorem num_step {l : List UInt8} {k : Nat} (h : k < l.length) :
    ((num (l.take (k + 1)) : Nat) : Int) = bits .or .u32 ((num (l.take k) : Int) * 256 % 4294967296) ((l[k].toNat : Int) % 4294967296) := by
  have hn := num_lt (l.take k)
  have hx := l[k].toNat_lt
  rw [List.take_succ_eq_append_getElem h, num_snoc]
  rw [bits_join .u32 32 (by decide) (fun n h1 h2 => by rw [IntKind.wrap_u32]; omega) 8 _ _ (by omega) (by omega) (by omega) (by omega) (by omega) (by omega)]
  omega

def get16 (l : List UInt8) (at_ : Int) : Int := if thereB l.length at_ 2 then ((num ((l.drop at_.toNat).take 2) % 65536 : Nat) : Int) else 0
def get32 (l : List UInt8) (at_ : Int) : Int := if thereB l.length at_ 4 then ((num ((l.drop at_.toNat).take 4) : Nat) : Int) else 0

theorem thereB_iff {n : Nat} {at_ k : Int} : thereB n at_ k = true ↔ 0 ≤ at_ ∧ 0 ≤ k ∧ at_ ≤ n ∧ k ≤ n - at_ := by simp [thereB]

theorem Try.info5 : (Try.prog.info? 5).map (fun i => (i.zero, i.size, i.bytes)) = some (some (.int .u8 0), 1, 1) := by kernel_rfl

set_option maxHeartbeats 400000 in
theorem there_any (v : Value) (l : List UInt8) (at_ k : Int) (w : World) (h : IsB w v l) (ha : -9223372036854775808 ≤ at_ ∧ at_ ≤ 9223372036854775807) :
    Calls Try.prog 89 #[v, .int .i64 at_, .int .i64 k] w fun e w' => e = .returned (.bool (thereB l.length at_ k)) ∧ w = w' := by
  obtain ⟨p, c, rfl, hc, hm, -, -⟩ := h.form
  obtain ⟨ha1, ha2⟩ := ha
  by_cases h1 : 0 ≤ at_
  · by_cases h2 : 0 ≤ k
    · by_cases h3 : at_ ≤ (l.length : Int)
      · by_cases h4 : k ≤ (l.length : Int) - at_
        · go_enter Try.func89, Try.ntmps89
          go_wp2
          go_ret
          exact ⟨by simp [thereB, *] <;> omega, rfl⟩
        · go_enter Try.func89, Try.ntmps89
          go_wp2
          go_ret
          exact ⟨by simp [thereB, *] <;> omega, rfl⟩
      · go_enter Try.func89, Try.ntmps89
        go_wp2
        go_ret
        exact ⟨by simp [thereB, *] <;> omega, rfl⟩
    · go_enter Try.func89, Try.ntmps89
      go_wp2
      go_ret
      exact ⟨by simp [thereB, *] <;> omega, rfl⟩
  · go_enter Try.func89, Try.ntmps89
    go_wp2
    go_ret
    exact ⟨by simp [thereB, *] <;> omega, rfl⟩

set_option maxHeartbeats 400000 in
theorem number_any (v : Value) (l : List UInt8) (w : World) (h : IsB w v l) :
    Calls Try.prog 90 #[v] w fun e w' => e = .returned (.int .u32 (num l)) ∧ w = w' := by
  obtain ⟨p, c, rfl, hc, hm, hp, hx⟩ := h.form
  go_enter Try.func90, Try.ntmps90
  go_wp2
  go_loop [3, 5, 8] (fun n x i => ∃ k : Nat, k ≤ l.length ∧ i = .int .i64 k ∧ n = .int .u32 (num (l.take k))) (fun _ _ i => l.length - (intOf i).toNat)
  case atStart => exact ⟨0, Nat.zero_le _, rfl, rfl⟩
  case round =>
    obtain ⟨k, hk, rfl, rfl⟩ := hrel
    by_cases hlt : k < l.length
    · obtain ⟨b, o, rfl, hcell⟩ := hx (by omega)
      have hck := hcell k hlt
      have hn := num_lt (l.take k)
      have hs := Lib.hid (num_step hlt)
      clear hcell hx hp
      go_wp2
      go_round
      case rel => exact ⟨k + 1, by omega, by go_num, by rw [hs.out]⟩
      case measure => simp [intOf]; omega
    · have hk' : k = l.length := by omega
      go_wp2
      go_ret
      exact ⟨rfl, rfl⟩



set_option maxHeartbeats 400000 in
set_option maxRecDepth 100000 in
theorem clone_any (v : Value) (l : List UInt8) (w : World) (h : IsB w v l) (hb : l.length ≤ 140737488355328) :
    Calls Try.prog 91 #[v] w fun e w' => ∃ v', e = .returned v' ∧ Own 5 w.heap.size w' v' l ∧ Grow w w' := by
  obtain ⟨p, c, rfl, hc, hm, hp, hx⟩ := h.form
  obtain ⟨i, hi, hz0, hz1, hz2⟩ := info_parts Try.info5
  cases p with
  | none =>
    have hc0 := hp rfl
    obtain rfl : l = [] := List.eq_nil_of_length_eq_zero (by omega)
    clear hp hx hm hc hb hi hz0 hz1 hz2
    subst hc0
    have he := fun wx => Lib.run_eql_slice_nil (P := Try.prog) wx 38 5 none 0 0 0 0 Try.underlying38
    go_enter Try.func91, Try.ntmps91
    go_wp2_with fail
    go_ret
    exact ⟨_, rfl, Own.nil _ _ _, Grow.refl _⟩
  | some a =>
    have he := fun wx => Lib.run_eql_slice_nil (P := Try.prog) wx 38 5 (some a) l.length c 0 0 Try.underlying38
    clear hp hx hm
    go_enter Try.func91, Try.ntmps91
    go_wp2_with (at_builtin; refine wpl_append rfl _ _ _ rfl w.heap.size 5 i Try.underlying38 hi hz0 hz1 hz2 _ [] rfl (Own.made0 _ _ _ (Nat.le_refl _)) _ l rfl (h.grow ((Grow.refl _).alloc _)) (by simpa using hb) (by simp) ?_; intro v' w' hown hbl hgr)
    go_ret
    exact ⟨_, rfl, hown, ((Grow.refl _).alloc _).on hbl (Nat.le_refl _)⟩

theorem clone_form (v : Value) (l : List UInt8) (w : World) (h : IsB w v l) (hl : 0 < l.length) (hb : l.length ≤ 140737488355328) :
    Calls Try.prog 91 #[v] w fun e w' => ∃ g cap, e = .returned (.slice (some ⟨g, 0, none⟩) l.length cap) ∧ Own 5 w.heap.size w' (.slice (some ⟨g, 0, none⟩) l.length cap) l ∧ Grow w w' ∧ w.heap.size ≤ g :=
  (clone_any v l w h hb).mono fun e w' ⟨v', he, ho, hg⟩ => by
    obtain ⟨g, cap, rfl, hbg⟩ := ho.form hl
    exact ⟨g, cap, he, ho, hg, hbg⟩

set_option maxHeartbeats 400000 in
theorem get16_any (v : Value) (l : List UInt8) (at_ : Int) (w : World) (h : IsB w v l) (ha : -9223372036854775808 ≤ at_ ∧ at_ ≤ 9223372036854775807) :
    Calls Try.prog 57 #[v, .int .i64 at_] w fun e w' => e = .returned (.tuple #[.int .u16 (get16 l at_), .bool (thereB l.length at_ 2)]) ∧ w = w' := by
  have hlen := h.len
  simp only [maxLen, Nat.reducePow, Nat.reduceSub] at hlen
  obtain ⟨i, hi, hz0, hz1, hz2⟩ := info_parts Try.info5
  by_cases hb : thereB l.length at_ 2 = true
  · have hfin := Lib.hid (show get16 l at_ = _ by rw [get16, if_pos hb])
    obtain ⟨g1, g2, g3, g4⟩ := thereB_iff.1 hb
    obtain ⟨v', hv', hs, -, -⟩ := h.cutI (P := Try.prog) 38 5 i Try.underlying38 hi hz1 at_ (at_ + 2) g1 (by omega) (by omega)
    rw [show (at_ + 2 - at_).toNat = 2 by omega] at hv'
    clear hi hz0 hz1 hz2
    go_enter Try.func57, Try.ntmps57
    go_wp2_with (first | (go_at_call 89; refine (there_any v l _ 2 _ h ha).mono ?_; rintro e w' ⟨rfl, rfl⟩) | (go_at_call 90; refine (number_any v' _ _ hv').mono ?_; rintro e w' ⟨rfl, rfl⟩))
    go_ret2
    exact ⟨by rw [hfin.out]; simp [hb, IntKind.wrap_u16], rfl⟩
  · have hb' : thereB l.length at_ 2 = false := by simpa using hb
    have hfin := Lib.hid (show get16 l at_ = 0 by rw [get16, if_neg hb])
    clear hb hi hz0 hz1 hz2
    go_enter Try.func57, Try.ntmps57
    go_wp2_with (first | (go_at_call 89; refine (there_any v l _ 2 _ h ha).mono ?_; rintro e w' ⟨rfl, rfl⟩))
    go_ret2
    exact ⟨by rw [hfin.out]; simp [hb'], rfl⟩

set_option maxHeartbeats 400000 in
theorem get32_any (v : Value) (l : List UInt8) (at_ : Int) (w : World) (h : IsB w v l) (ha : -9223372036854775808 ≤ at_ ∧ at_ ≤ 9223372036854775807) :
    Calls Try.prog 99 #[v, .int .i64 at_] w fun e w' => e = .returned (.tuple #[.int .u32 (get32 l at_), .bool (thereB l.length at_ 4)]) ∧ w = w' := by
  have hlen := h.len
  simp only [maxLen, Nat.reducePow, Nat.reduceSub] at hlen
  obtain ⟨i, hi, hz0, hz1, hz2⟩ := info_parts Try.info5
  by_cases hb : thereB l.length at_ 4 = true
  · have hfin := Lib.hid (show get32 l at_ = _ by rw [get32, if_pos hb])
    obtain ⟨g1, g2, g3, g4⟩ := thereB_iff.1 hb
    obtain ⟨v', hv', hs, -, -⟩ := h.cutI (P := Try.prog) 38 5 i Try.underlying38 hi hz1 at_ (at_ + 4) g1 (by omega) (by omega)
    rw [show (at_ + 4 - at_).toNat = 4 by omega] at hv'
    clear hi hz0 hz1 hz2
    go_enter Try.func99, Try.ntmps99
    go_wp2_with (first | (go_at_call 89; refine (there_any v l _ 4 _ h ha).mono ?_; rintro e w' ⟨rfl, rfl⟩) | (go_at_call 90; refine (number_any v' _ _ hv').mono ?_; rintro e w' ⟨rfl, rfl⟩))
    go_ret2
    exact ⟨by rw [hfin.out]; simp [hb], rfl⟩
  · have hb' : thereB l.length at_ 4 = false := by simpa using hb
    have hfin := Lib.hid (show get32 l at_ = 0 by rw [get32, if_neg hb])
    clear hb hi hz0 hz1 hz2
    go_enter Try.func99, Try.ntmps99
    go_wp2_with (first | (go_at_call 89; refine (there_any v l _ 4 _ h ha).mono ?_; rintro e w' ⟨rfl, rfl⟩))
    go_ret2
    exact ⟨by rw [hfin.out]; simp [hb'], rfl⟩

/-- octet.Cut -/
def cutB (l : List UInt8) (at_ n : Int) : List UInt8 := if thereB l.length at_ n then (l.drop at_.toNat).take n.toNat else []

set_option maxHeartbeats 400000 in
theorem cut_any (v : Value) (l : List UInt8) (at_ n : Int) (w : World) (h : IsB w v l) (ha : -9223372036854775808 ≤ at_ ∧ at_ ≤ 9223372036854775807) (hlb : l.length ≤ 140737488355328) :
    Calls Try.prog 76 #[v, .int .i64 at_, .int .i64 n] w fun e w' => ∃ v', e = .returned (.tuple #[v', .bool (thereB l.length at_ n)]) ∧ Own 5 w.heap.size w' v' (cutB l at_ n) ∧ Grow w w' := by
  have hlen := h.len
  simp only [maxLen, Nat.reducePow, Nat.reduceSub] at hlen
  obtain ⟨i, hi, hz0, hz1, hz2⟩ := info_parts Try.info5
  by_cases hb : thereB l.length at_ n = true
  · have hfin := Lib.hid (show cutB l at_ n = _ by rw [cutB, if_pos hb])
    obtain ⟨g1, g2, g3, g4⟩ := thereB_iff.1 hb
    obtain ⟨v', hv', hs, -, -⟩ := h.cutI (P := Try.prog) 38 5 i Try.underlying38 hi hz1 at_ (at_ + n) g1 (by omega) (by omega)
    rw [show (at_ + n - at_).toNat = n.toNat by omega] at hv'
    have hcl : ((l.drop at_.toNat).take n.toNat).length ≤ 140737488355328 := by simp; omega
    have Hcl := Lib.hid hcl
    clear hi hz0 hz1 hz2 hcl hlb
    go_enter Try.func76, Try.ntmps76
    go_wp2_with (first | (go_at_call 89; refine (there_any v l _ _ _ h ha).mono ?_; rintro e w' ⟨rfl, rfl⟩) | (go_at_call 91; refine (clone_any v' _ _ hv' Hcl.out).mono ?_; rintro e w' ⟨v2, rfl, hown, hg⟩))
    go_ret2
    exact ⟨v2, by simp [hb], by rw [hfin.out]; exact hown, hg⟩
  · have hb' : thereB l.length at_ n = false := by simpa using hb
    have hfin := Lib.hid (show cutB l at_ n = [] by rw [cutB, if_neg hb])
    clear hb hi hz0 hz1 hz2
    go_enter Try.func76, Try.ntmps76
    go_wp2_with (first | (go_at_call 89; refine (there_any v l _ _ _ h ha).mono ?_; rintro e w' ⟨rfl, rfl⟩))
    go_ret2
    exact ⟨.slice none 0 0, by simp [hb'], by rw [hfin.out]; exact Own.nil _ _ _, Grow.refl _⟩


/-- Numbers of two bytes behind one another. -/
def put16 : List Int → List UInt8
  | [] => []
  | n :: r => u8 (n / 256) :: u8 n :: put16 r
def put32 : List Int → List UInt8
  | [] => []
  | n :: r => u8 (n / 16777216) :: u8 (n / 65536) :: u8 (n / 256) :: u8 n :: put32 r
theorem put16_append (a b : List Int) : put16 (a ++ b) = put16 a ++ put16 b := by
  induction a with
  | nil => rfl
  | cons x a ih => simp [put16, ih]
theorem put32_append (a b : List Int) : put32 (a ++ b) = put32 a ++ put32 b := by
  induction a with
  | nil => rfl
  | cons x a ih => simp [put32, ih]
theorem length_put16 (a : List Int) : (put16 a).length = 2 * a.length := by
  induction a with
  | nil => rfl
  | cons x a ih => simp [put16, ih]; omega
theorem length_put32 (a : List Int) : (put32 a).length = 4 * a.length := by
  induction a with
  | nil => rfl
  | cons x a ih => simp [put32, ih]; omega
theorem put16_step {ns : List Int} {k : Nat} (h : k < ns.length) (l : List UInt8) :
    l ++ put16 (ns.take k) ++ [u8 (ns[k] / 256), u8 ns[k]] = l ++ put16 (ns.take (k + 1)) := by
  rw [List.take_succ_eq_append_getElem h, put16_append]
  simp [put16]
theorem put32_step {ns : List Int} {k : Nat} (h : k < ns.length) (l : List UInt8) :
    l ++ put32 (ns.take k) ++ [u8 (ns[k] / 16777216), u8 (ns[k] / 65536), u8 (ns[k] / 256), u8 ns[k]] = l ++ put32 (ns.take (k + 1)) := by
  rw [List.take_succ_eq_append_getElem h, put32_append]
  simp [put32]

set_option maxHeartbeats 400000 in
theorem put16_any (v : Value) (l : List UInt8) (vn : Value) (ns : List Int) (w : World) (h : IsB w v l) (hn : IsI .u16 w vn ns) (hb : l.length + 2 * ns.length ≤ 140737488355328) (hr : ∀ n ∈ ns, 0 ≤ n ∧ n ≤ 65535) :
    Calls Try.prog 58 #[v, vn] w fun e w' => ∃ v', e = .returned v' ∧ Own 5 w.heap.size w' v' (l ++ put16 ns) ∧ Grow w w' := by
  obtain ⟨i, hi, hz0, hz1, hz2⟩ := info_parts Try.info5
  have HI := Lib.hid hi
  have H0 := Lib.hid hz0
  have H1 := Lib.hid hz1
  have H2 := Lib.hid hz2
  obtain ⟨p, c, rfl, hc, hm, hp, hx⟩ := hn.form
  have HB := Lib.hid hb
  have HX := Lib.hid hx
  have HR := Lib.hid hr
  clear hi hz0 hz1 hz2 hx hp hb hr
  go_enter Try.func58, Try.ntmps58
  go_wp2_with (first | (go_at_call 91; refine (clone_any v _ _ h (by have := HB.out; omega)).mono ?_; rintro e w1 ⟨v1, rfl, hown, hg⟩))
  go_loopw [5, 7, 12] (fun out x ix wr => ∃ k : Nat, k ≤ ns.length ∧ ix = .int .i64 k ∧ Own 5 w.heap.size wr out (l ++ put16 (ns.take k)) ∧ Grow w wr) (fun _ _ ix _ => ns.length - (intOf ix).toNat)
  case atStart => exact ⟨0, Nat.zero_le _, rfl, by simpa [put16] using hown, hg⟩
  case round =>
    clear hown hg
    obtain ⟨k, hk, rfl, hown, hg⟩ := hrel
    by_cases hlt : k < ns.length
    · obtain ⟨b, o, rfl, hcell⟩ := HX.out (by omega)
      have hck := hg.cell (hcell k hlt)
      obtain ⟨hr1, hr2⟩ := HR.out ns[k] (List.getElem_mem _)
      clear hcell
      go_wp2_with (at_builtin; go_must (refine wpl_append rfl _ _ _ rfl w.heap.size 5 i Try.underlying38 HI.out H0.out H1.out H2.out _ _ rfl (hown.grow ((Grow.refl _).alloc _)) _ [u8 (ns[k] / 256), u8 ns[k]] rfl (IsB.built2 _ _ _ _ _ _ (by rw [u8_toNat]; omega) (by rw [u8_toNat]; try omega)) (by have := HB.out; simp [length_put16]; omega) (by have := hg.le; simp; omega) ?_); intro v' w' hown2 hbl hgr)
      go_roundw
      case rel => exact ⟨k + 1, by omega, by go_num, by rw [← put16_step hlt]; exact hown2, (hg.alloc _).on hbl (Nat.le_refl _)⟩
      case measure => simp [intOf]; omega
    · go_wp2
      go_ret
      exact ⟨_, rfl, by rw [List.take_of_length_le (by omega)] at hown; exact hown, hg⟩

set_option maxHeartbeats 400000 in
theorem put32_any (v : Value) (l : List UInt8) (vn : Value) (ns : List Int) (w : World) (h : IsB w v l) (hn : IsI .u32 w vn ns) (hb : l.length + 4 * ns.length ≤ 140737488355328) (hr : ∀ n ∈ ns, 0 ≤ n ∧ n ≤ 4294967295) :
    Calls Try.prog 103 #[v, vn] w fun e w' => ∃ v', e = .returned v' ∧ Own 5 w.heap.size w' v' (l ++ put32 ns) ∧ Grow w w' := by
  obtain ⟨i, hi, hz0, hz1, hz2⟩ := info_parts Try.info5
  have HI := Lib.hid hi
  have H0 := Lib.hid hz0
  have H1 := Lib.hid hz1
  have H2 := Lib.hid hz2
  obtain ⟨p, c, rfl, hc, hm, hp, hx⟩ := hn.form
  have HB := Lib.hid hb
  have HX := Lib.hid hx
  have HR := Lib.hid hr
  clear hi hz0 hz1 hz2 hx hp hb hr
  go_enter Try.func103, Try.ntmps103
  go_wp2_with (first | (go_at_call 91; refine (clone_any v _ _ h (by have := HB.out; omega)).mono ?_; rintro e w1 ⟨v1, rfl, hown, hg⟩))
  go_loopw [5, 7, 12] (fun out x ix wr => ∃ k : Nat, k ≤ ns.length ∧ ix = .int .i64 k ∧ Own 5 w.heap.size wr out (l ++ put32 (ns.take k)) ∧ Grow w wr) (fun _ _ ix _ => ns.length - (intOf ix).toNat)
  case atStart => exact ⟨0, Nat.zero_le _, rfl, by simpa [put32] using hown, hg⟩
  case round =>
    clear hown hg
    obtain ⟨k, hk, rfl, hown, hg⟩ := hrel
    by_cases hlt : k < ns.length
    · obtain ⟨b, o, rfl, hcell⟩ := HX.out (by omega)
      have hck := hg.cell (hcell k hlt)
      obtain ⟨hr1, hr2⟩ := HR.out ns[k] (List.getElem_mem _)
      clear hcell
      go_wp2_with (at_builtin; go_must (refine wpl_append rfl _ _ _ rfl w.heap.size 5 i Try.underlying38 HI.out H0.out H1.out H2.out _ _ rfl (hown.grow ((Grow.refl _).alloc _)) _ [u8 (ns[k] / 16777216), u8 (ns[k] / 65536), u8 (ns[k] / 256), u8 ns[k]] rfl (IsB.built4 _ _ _ _ _ _ _ _ _ _ (by rw [u8_toNat]; omega) (by rw [u8_toNat]; try omega) (by rw [u8_toNat]; try omega) (by rw [u8_toNat]; try omega)) (by have := HB.out; simp [length_put32]; omega) (by have := hg.le; simp; omega) ?_); intro v' w' hown2 hbl hgr)
      go_roundw
      case rel => exact ⟨k + 1, by omega, by go_num, by rw [← put32_step hlt]; exact hown2, (hg.alloc _).on hbl (Nat.le_refl _)⟩
      case measure => simp [intOf]; omega
    · go_wp2
      go_ret
      exact ⟨_, rfl, by rw [List.take_of_length_le (by omega)] at hown; exact hown, hg⟩

/-- octet.Set16 -/
def set16 (l : List UInt8) (at_ n : Int) : List UInt8 := if thereB l.length at_ 2 then (l.set at_.toNat (u8 (n / 256))).set (at_.toNat + 1) (u8 n) else []

set_option maxHeartbeats 400000 in
theorem set16_any (v : Value) (l : List UInt8) (at_ n : Int) (w : World) (h : IsB w v l) (ha : -9223372036854775808 ≤ at_ ∧ at_ ≤ 9223372036854775807) (hlb : l.length ≤ 140737488355328) (hn : 0 ≤ n ∧ n ≤ 65535) :
    Calls Try.prog 84 #[v, .int .i64 at_, .int .u16 n] w fun e w' => ∃ v', e = .returned (.tuple #[v', .bool (thereB l.length at_ 2)]) ∧ Own 5 w.heap.size w' v' (set16 l at_ n) ∧ Grow w w' := by
  have hlen := h.len
  simp only [maxLen, Nat.reducePow, Nat.reduceSub] at hlen
  obtain ⟨n1, n2⟩ := hn
  by_cases hb : thereB l.length at_ 2 = true
  · have hfin := Lib.hid (show set16 l at_ n = _ by rw [set16, if_pos hb])
    obtain ⟨g1, g2, g3, g4⟩ := thereB_iff.1 hb
    obtain ⟨a, rfl⟩ := Int.eq_ofNat_of_zero_le g1
    have Hcl := Lib.hid hlb
    clear hlb
    go_enter Try.func84, Try.ntmps84
    go_wp2_with (first | (go_at_call 89; refine (there_any v l _ _ _ h ha).mono ?_; rintro e w' ⟨rfl, rfl⟩) | (go_at_call 91; refine (clone_form v _ _ h (by omega) Hcl.out).mono ?_; rintro e w' ⟨g, cap, rfl, hown, hg, hgb⟩; have hc1 := hown.cellAt a (by omega); have hc2 := hown.cellAt (a + 1) (by omega); have hf1 := hown.frozenAt a; have hf2 := hown.frozenAt (a + 1)))
    go_ret2
    exact ⟨.slice (some ⟨g, 0, none⟩) l.length cap, by simp [hb], by rw [hfin.out]; exact (hown.set a _ _ (by rw [u8_toNat]; omega)).set (a + 1) _ _ (by rw [u8_toNat]; try omega), Below.setCell (Below.setCell hg hgb _) hgb _⟩
  · have hb' : thereB l.length at_ 2 = false := by simpa using hb
    have hfin := Lib.hid (show set16 l at_ n = [] by rw [set16, if_neg hb])
    clear hb
    go_enter Try.func84, Try.ntmps84
    go_wp2_with (first | (go_at_call 89; refine (there_any v l _ _ _ h ha).mono ?_; rintro e w' ⟨rfl, rfl⟩))
    go_ret2
    exact ⟨.slice none 0 0, by simp [hb'], by rw [hfin.out]; exact Own.nil _ _ _, Grow.refl _⟩


theorem flatten_step {ls : List (List UInt8)} {k : Nat} (h : k < ls.length) : (ls.take k).flatten ++ ls.getD k [] = (ls.take (k + 1)).flatten := by
  rw [List.take_succ_eq_append_getElem h, List.flatten_append, List.flatten_singleton]
  simp [List.getD, h]
theorem flatten_le {ls : List (List UInt8)} {k : Nat} (h : k < ls.length) : (ls.take k).flatten.length + (ls.getD k []).length ≤ ls.flatten.length := by
  rw [← List.length_append, flatten_step h]
  have := congrArg List.length (congrArg List.flatten (List.take_append_drop (k + 1) ls))
  rw [List.flatten_append, List.length_append] at this
  omega

set_option maxHeartbeats 400000 in
theorem join_any (v : Value) (ls : List (List UInt8)) (L : List UInt8) (w : World) (h : IsBB w v ls) (hL : ls.flatten = L) (hb : L.length ≤ 140737488355328) :
    Calls Try.prog 53 #[v] w fun e w' => ∃ v', e = .returned v' ∧ Own 5 w.heap.size w' v' L ∧ Grow w w' := by
  subst hL
  obtain ⟨i, hi, hz0, hz1, hz2⟩ := info_parts Try.info5
  have HI := Lib.hid hi
  have H0 := Lib.hid hz0
  have H1 := Lib.hid hz1
  have H2 := Lib.hid hz2
  obtain ⟨p, c, vs, rfl, hc, hm, hp, hvs, hx⟩ := h.form
  have HB := Lib.hid hb
  have HX := Lib.hid hx
  have HV := Lib.hid hvs
  clear hi hz0 hz1 hz2 hx hp hb hvs
  go_enter Try.func53, Try.ntmps53
  go_wp2_with fail
  go_loopw [3, 5, 8] (fun out x ix wr => ∃ k : Nat, k ≤ ls.length ∧ ix = .int .i64 k ∧ Own 5 w.heap.size wr out (ls.take k).flatten ∧ Grow w wr) (fun _ _ ix _ => ls.length - (intOf ix).toNat)
  case atStart => exact ⟨0, Nat.zero_le _, rfl, Own.nil _ _ _, Grow.refl _⟩
  case round =>
    obtain ⟨k, hk, rfl, hown, hg⟩ := hrel
    by_cases hlt : k < ls.length
    · obtain ⟨b, o, rfl, hcell⟩ := HX.out (by omega)
      have hck := hg.cell (hcell k hlt)
      have hvk := (HV.out k hlt).grow hg
      have HB2 := Lib.hid (flatten_le hlt)
      clear hcell
      go_wp2_with (at_builtin; go_must (refine wpl_append rfl _ _ _ rfl w.heap.size 5 i Try.underlying38 HI.out H0.out H1.out H2.out _ _ rfl hown _ _ rfl hvk (by have := HB.out; have := HB2.out; omega) hg.le ?_); intro v' w' hown2 hbl hgr)
      go_roundw
      case rel => exact ⟨k + 1, by omega, by go_num, by rw [← flatten_step hlt]; exact hown2, hg.on hbl (Nat.le_refl _)⟩
      case measure => simp [intOf]; omega
    · go_wp2
      go_ret
      exact ⟨_, rfl, by rw [List.take_of_length_le (by omega)] at hown; exact hown, hg⟩

/-- bytes.Equal -/
theorem equal_any (v v2 : Value) (l m : List UInt8) (w : World) (h : IsB w v l) (h2 : IsB w v2 m) :
    Calls Try.prog 93 #[v, v2] w fun e w' => e = .returned (.bool (l == m)) ∧ w = w' := by
  have c1 := h.convert (P := Try.prog) 38 5 9 Try.underlying38 Try.underlying5 Try.underlying9
  have c2 := h2.convert (P := Try.prog) 38 5 9 Try.underlying38 Try.underlying5 Try.underlying9
  go_enter Try.func93, Try.ntmps93
  go_wp2
  go_ret
  exact ⟨rfl, rfl⟩

theorem same_any (v v2 : Value) (l m : List UInt8) (w : World) (h : IsB w v l) (h2 : IsB w v2 m) :
    Calls Try.prog 63 #[v, v2] w fun e w' => e = .returned (.bool (l == m)) ∧ w = w' := by
  go_enter Try.func63, Try.ntmps63
  go_wp2_with (go_at_call 93; refine (equal_any _ _ _ _ _ h h2).mono ?_; rintro e w' ⟨rfl, rfl⟩)
  go_ret
  exact ⟨rfl, rfl⟩

end Go.Proofs.Ythjojkkapboonaa
