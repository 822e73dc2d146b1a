/- Package sum: what each function answers. -/
import Derived.Test.YthjojkkapboonaaB
import Derived.Test.YthjojkkapboonaaP
namespace Go.Proofs.Ythjojkkapboonaa
set_option linter.unusedSimpArgs false
set_option linter.unusedVariables false
open Go.RowKit

theorem u64_and65535 {m : Int} (h0 : 0 ≤ m) (h1 : m < 18446744073709551616) : bits .and .u64 m 65535 = m % 65536 :=
  bits_mask .u64 64 (by decide) (fun n g1 g2 => by simp [IntKind.wrap, IntKind.bits, IntKind.signed]; omega) 16 (by decide) m h0 h1

theorem u16_not {x : Int} (h0 : 0 ≤ x) (h1 : x ≤ 65535) : bits .xor .u16 IntKind.u16.max x = 65535 - x := by
  obtain ⟨a, rfl⟩ := Int.eq_ofNat_of_zero_le h0
  have e : BitVec.ofInt 16 IntKind.u16.max = BitVec.allOnes 16 := by decide
  show IntKind.u16.wrap ((BitVec.ofInt 16 IntKind.u16.max ^^^ BitVec.ofInt 16 (a : Int)).toNat : Int) = _
  rw [e, BitVec.allOnes_xor, BitVec.toNat_not, BitVec.ofInt_natCast, BitVec.toNat_ofNat, IntKind.wrap_u16]
  omega

set_option maxHeartbeats 400000 in
theorem fold_any (n : Int) (w : World) (h0 : 0 ≤ n) (h1 : n < 18446744073709551616) :
    Calls Try.prog 104 #[.int .u64 n] w fun e w' => e = .returned (.int .u16 (foldF n)) ∧ w = w' := by
  go_enter Try.func104, Try.ntmps104
  go_wp2
  go_loop [0] (fun s => ∃ m : Int, 0 ≤ m ∧ m < 18446744073709551616 ∧ s = .int .u64 m ∧ foldF m = foldF n) (fun s => (intOf s).toNat)
  case atStart => exact ⟨n, h0, h1, rfl, rfl⟩
  case round =>
    obtain ⟨m, hm0, hm1, rfl, hf⟩ := hrel
    have HF := Lib.hid hf
    clear hf
    by_cases hm : 65535 < m
    · have hbits := u64_and65535 hm0 hm1
      go_wp2
      go_round
      case rel => exact ⟨m / 65536 + m % 65536, by omega, by omega, rfl, by rw [foldF_round hm]; exact HF.out⟩
      case measure => simp [intOf]; omega
    · go_wp2
      go_ret
      exact ⟨ret_int (by rw [← HF.out, foldF_small hm0 (by omega)]), rfl⟩

set_option maxHeartbeats 400000 in
theorem sumOnes_any (v : Value) (ls : List (List UInt8)) (L : List UInt8) (w : World) (h : IsBB w v ls) (hL : ls.flatten = L) (hb : L.length ≤ 140737488355328) :
    Calls Try.prog 102 #[v] w fun e w' => e = .returned (.int .u16 (onesF L)) ∧ Grow w w' := by
  have HB := Lib.hid hb
  have HL := Lib.hid hL
  clear hb hL
  go_enter Try.func102, Try.ntmps102
  go_wp2_with (first | (go_at_call 53; refine (join_any v ls L _ h HL.out HB.out).mono ?_; rintro e w1 ⟨v1, rfl, hown, hg⟩; obtain ⟨p, c, rfl, hc, hm, hp, hx⟩ := hown.isB.form; have HX := Lib.hid hx; clear hown hp hx))
  go_loop [3, 4, 5, 9] (fun n i x ix => ∃ k : Nat, k ≤ L.length ∧ ix = .int .i64 k ∧ n = .int .u64 (raw (L.take k))) (fun _ _ _ ix => L.length - (intOf ix).toNat)
  case atStart => exact ⟨0, Nat.zero_le _, rfl, rfl⟩
  case round =>
    obtain ⟨k, hk, rfl, rfl⟩ := hrel
    have hr1 : (raw (L.take k) : Int) ≤ 9187343239835811840 := by have := HB.out; have := raw_take_le (l := L) k; omega
    by_cases hlt : k < L.length
    · obtain ⟨b, o, rfl, hcell⟩ := HX.out (by omega)
      have hck := hcell k hlt
      have HS := Lib.hid (raw_step hlt)
      have hx2 := (L[k]).toNat_lt
      clear hcell
      by_cases hpar : k % 2 = 0
      · have hp1 : ((k : Int) % 2 == 0) = true := by simp; omega
        go_wp2
        go_round
        case rel => exact ⟨k + 1, by omega, by go_num, by rw [HS.out, if_pos hpar]; go_num⟩
        case measure => simp [intOf]; omega
      · have hp1 : ((k : Int) % 2 == 0) = false := by simp; omega
        go_wp2
        go_round
        case rel => exact ⟨k + 1, by omega, by go_num, by rw [HS.out, if_neg hpar]; go_num⟩
        case measure => simp [intOf]; omega
    · go_wp2_with (go_at_call 104; refine (fold_any _ _ (by omega) (by omega)).mono ?_; rintro e w' ⟨rfl, rfl⟩)
      go_ret
      exact ⟨ret_int (by rw [List.take_of_length_le (by omega)]; rfl), hg⟩













theorem right_any (v : Value) (ls : List (List UInt8)) (L : List UInt8) (w : World) (h : IsBB w v ls) (hL : ls.flatten = L) (hb : L.length ≤ 140737488355328) :
    Calls Try.prog 97 #[v] w fun e w' => e = .returned (.bool (onesF L == 65535)) ∧ Grow w w' := by
  have HB := Lib.hid hb
  have HL := Lib.hid hL
  clear hb hL
  go_enter Try.func97, Try.ntmps97
  go_wp2_with (first | (go_at_call 102; refine (sumOnes_any v ls L _ h HL.out HB.out).mono ?_; rintro e w1 ⟨rfl, hg⟩))
  go_ret
  exact ⟨rfl, hg⟩

theorem turn_any (s old next : Int) (w : World) (hs : 0 ≤ s ∧ s ≤ 65535) (ho : 0 ≤ old ∧ old ≤ 65535) (hn : 0 ≤ next ∧ next ≤ 65535) :
    Calls Try.prog 100 #[.int .u16 s, .int .u16 old, .int .u16 next] w fun e w' => e = .returned (.int .u16 (turnF s old next)) ∧ w = w' := by
  obtain ⟨s1, s2⟩ := hs
  obtain ⟨o1, o2⟩ := ho
  obtain ⟨n1, n2⟩ := hn
  obtain ⟨f1, f2⟩ := foldF_bd (65535 - s + (65535 - old) + next)
  have x1 := u16_not s1 s2
  have x2 := u16_not o1 o2
  have x3 := u16_not f1 f2
  have w1 : IntKind.u64.wrap (65535 - s) = 65535 - s := u64_in (by omega) (by omega)
  have w2 : IntKind.u64.wrap (65535 - old) = 65535 - old := u64_in (by omega) (by omega)
  have w3 : IntKind.u64.wrap (65535 - s + (65535 - old)) = 65535 - s + (65535 - old) := u64_in (by omega) (by omega)
  have w4 : IntKind.u64.wrap (65535 - s + (65535 - old) + next) = 65535 - s + (65535 - old) + next := u64_in (by omega) (by omega)
  go_enter Try.func100, Try.ntmps100
  go_wp2_with (first | (go_at_call 104; refine (fold_any _ _ (by omega) (by omega)).mono ?_; rintro e w1 ⟨rfl, rfl⟩))
  go_ret
  exact ⟨rfl, rfl⟩

theorem turnF_bd (s old next : Int) : 0 ≤ turnF s old next ∧ turnF s old next ≤ 65535 := by
  have := foldF_bd (65535 - s + (65535 - old) + next)
  unfold turnF
  omega

theorem turn32_any (s old next : Int) (w : World) (hs : 0 ≤ s ∧ s ≤ 65535) (ho : 0 ≤ old ∧ old ≤ 4294967295) (hn : 0 ≤ next ∧ next ≤ 4294967295) :
    Calls Try.prog 85 #[.int .u16 s, .int .u32 old, .int .u32 next] w fun e w' =>
      e = .returned (.int .u16 (turnF (turnF s (old / 65536) (next / 65536)) (old % 65536) (next % 65536))) ∧ w = w' := by
  obtain ⟨s1, s2⟩ := hs
  obtain ⟨o1, o2⟩ := ho
  obtain ⟨n1, n2⟩ := hn
  have ht := turnF_bd s (old / 65536) (next / 65536)
  have hw1 := IntKind.wrap_u16 old
  have hw2 := IntKind.wrap_u16 next
  go_enter Try.func85, Try.ntmps85
  go_wp2_with (first | (go_at_call 100; refine (turn_any _ _ _ _ (by omega) (by omega) (by omega)).mono ?_; rintro e w1 ⟨rfl, rfl⟩))
  go_ret
  exact ⟨rfl, rfl⟩
end Go.Proofs.Ythjojkkapboonaa
