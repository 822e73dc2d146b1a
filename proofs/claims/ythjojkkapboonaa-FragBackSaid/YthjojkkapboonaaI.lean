/- ref01.Put. -/
import Derived.Test.YthjojkkapboonaaCB
namespace Go.Proofs.Ythjojkkapboonaa
set_option linter.unusedSimpArgs false
set_option linter.unusedVariables false
open Go.RowKit

/-- The lowest bytes of a number, the highest of them first. -/
def lowB : Nat → Int → List UInt8
  | 0, _ => []
  | i + 1, n => u8 (n / 256 ^ i) :: lowB i n
theorem length_lowB (i : Nat) (n : Int) : (lowB i n).length = i := by
  induction i with
  | zero => rfl
  | succ i ih => simp [lowB, ih]
theorem lowB_two (n : Int) : lowB 2 n = put16 [n] := by simp [lowB, put16]
theorem lowB_four (n : Int) : lowB 4 n = put32 [n] := by simp [lowB, put32]
theorem set_replicate (m : Nat) (x : UInt8) (r : List UInt8) : (List.replicate (m + 1) 0 ++ r).set m x = List.replicate m 0 ++ x :: r := by
  induction m with
  | zero => rfl
  | succ m ih =>
    rw [List.replicate_succ, List.cons_append, List.set_cons_succ, ih, List.replicate_succ, List.cons_append]

theorem madeCells_bytes (n : Nat) : (madeCells (Value.int .u8 0).cells (n * 1)).toList = bytesV (List.replicate n 0) := by
  apply List.ext_getElem
  · simp [madeCells]
  · intro i h1 h2
    simp [madeCells, bytesV, byteV, Value.cells, Nat.mod_one]

set_option maxHeartbeats 400000 in
theorem refPut_any (n : Int) (size : Nat) (w : World) (hn : 0 ≤ n ∧ n ≤ 4294967295) (hs : size ≤ 1000) :
    Calls Try.prog 92 #[.int .u32 n, .int .i64 size] w fun e w' => ∃ v', e = .returned v' ∧ Own 5 w.heap.size w' v' (lowB size n) ∧ Grow w w' := by
  obtain ⟨i, hi, hz0, hz1, hz2⟩ := info_parts Try.info5
  have HI := Lib.hid hi
  have H0 := Lib.hid hz0
  have H1 := Lib.hid hz1
  have H2 := Lib.hid hz2
  obtain ⟨n1, n2⟩ := hn
  clear hi hz0 hz1 hz2
  go_enter Try.func92, Try.ntmps92
  go_wp2_with (at_make; refine wpList_make_full _ rfl _ _ 38 rfl w.heap.size 5 i (.int .u8 0) 1 Try.underlying38 HI.out H0.out H1.out _ _ _ _ size rfl rfl rfl rfl (by rw [H2.out]; omega) (by simp only [maxLen]; omega) (Nat.le_refl _) ?_; intro w1 hown hgr)
  rw [madeCells_bytes] at hown
  have hown' : Own 5 w.heap.size w1 (.slice (some ⟨w.heap.size, 0, none⟩) size size) (List.replicate size 0) := by simpa [Own] using hown
  have hg : Grow w w1 := growOf (Grow.refl _) hgr (fun k hk => by cases hk)
  clear hown hgr
  go_wp2
  go_loopw [0, 6] (fun m ix wr => ∃ k : Nat, k ≤ size ∧ ix = .int .i64 k ∧ m = .int .u32 (n / 256 ^ k) ∧ Own 5 w.heap.size wr (.slice (some ⟨w.heap.size, 0, none⟩) size size) (List.replicate (size - k) 0 ++ lowB k n) ∧ Grow w wr) (fun _ ix _ => size - (intOf ix).toNat)
  case atStart => exact ⟨0, Nat.zero_le _, rfl, by rw [Int.pow_zero, Int.ediv_one], by simpa [lowB] using hown', hg⟩
  case round =>
    clear hown' hg
    obtain ⟨k, hk, rfl, rfl, hown, hg⟩ := hrel
    have hd1 : 0 ≤ n / 256 ^ k := Int.ediv_nonneg n1 (Int.le_of_lt (Int.pow_pos (by decide)))
    have hd2 : n / 256 ^ k ≤ 4294967295 := Int.le_trans (Int.ediv_le_self _ n1) n2
    by_cases hlt : k < size
    · have hlen : (List.replicate (size - k) (0 : UInt8) ++ lowB k n).length = size := by simp [length_lowB]; omega
      obtain ⟨z0, hc1⟩ : ∃ z, wr.cell? ⟨w.heap.size, size - 1 - k, none⟩ = some (.int .u8 z) := ⟨_, hown.cellAt (size - 1 - k) (by omega)⟩
      have hf1 := hown.frozenAt (size - 1 - k)
      have hst := hown.set (size - 1 - k) (u8 (n / 256 ^ k)) (n / 256 ^ k % 256) (by rw [u8_toNat])
      have hw : IntKind.u32.wrap (n / 256 ^ k / 256) = n / 256 ^ k / 256 := u32_in (by omega) (by omega)
      generalize hq : n / 256 ^ k = q at *
      have HQ := Lib.hid hq
      have HS := Lib.hid hst
      have HO := Lib.hid hown
      clear hq hst hown hlen
      go_wp2
      go_roundw
      case rel =>
        refine ⟨k + 1, by omega, by go_num, ?_, ?_, ?_⟩
        · rw [← HQ.out, Int.ediv_ediv_of_nonneg (Int.le_of_lt (Int.pow_pos (by decide))), ← Int.pow_succ]
        · have := HS.out
          rw [show size - k = size - 1 - k + 1 by omega, set_replicate, ← HQ.out] at this
          rw [show size - (k + 1) = size - 1 - k by omega]
          rw [← HQ.out]
          exact this
        · exact Below.setCell hg (Nat.le_refl _) _
      case measure => simp [intOf]; omega
    · obtain rfl : k = size := by omega
      go_wp2
      go_ret
      exact ⟨_, rfl, by simpa using hown, hg⟩
end Go.Proofs.Ythjojkkapboonaa
