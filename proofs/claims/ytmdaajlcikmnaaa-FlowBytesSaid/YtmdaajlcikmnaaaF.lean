/- The statements of chapter 2: the walks through the laws' own texts. -/
import Derived.Test.YtmdaajlcikmnaaaE
namespace Go.Proofs.Ytmdaajlcikmnaaa
open Go.RowKit

set_option maxHeartbeats 400000 in
theorem lives02_any (w : World) : Calls Try.prog 31 #[] w fun e w' => e = .returned (.bool true) ∧ Grow w w' := by
  have o1 := Lib.hid (show onesF [0, 1, 242, 3] = 61956 by decide)
  have o2 := Lib.hid (show foldF 65536 = 1 by decide)
  go_enter Try.func31, Try.ntmps31
  go_wp2_with (first | (go_at_call 28; refine (of_any _ [[0, 1], [242, 3]] [0, 1, 242, 3] _ (IsBB.lit _ _ [_, _] _ _ _ (by simp) rfl (by simp) (.two ((IsB.lit2 w _ _ _ 0 1 _ rfl rfl rfl).grow ((Grow.refl _).alloc _)) (IsB.lit2 _ _ _ _ 242 3 _ (by simp) rfl rfl))) rfl (by simp)).mono ?_; rintro e w1 ⟨rfl, hg1⟩; rw [o1.out]) | (go_at_call 45; refine (fold_any _ _ (by omega) (by omega)).mono ?_; rintro e w2 ⟨rfl, rfl⟩; rw [o2.out]))
  go_ret
  exact ⟨rfl, ((((Grow.refl _).alloc _).alloc _).alloc _).trans hg1⟩

set_option maxHeartbeats 1000000 in
theorem sumTurns_walk (n s old next was now : Int) (w : World) (hn : 0 ≤ n ∧ n < 18446744073709551616) (hs : 0 ≤ s ∧ s ≤ 65535) (ho : 0 ≤ old ∧ old ≤ 65535) (hx : 0 ≤ next ∧ next ≤ 65535) (hw : 0 ≤ was ∧ was ≤ 4294967295) (hm : 0 ≤ now ∧ now ≤ 4294967295) :
    Calls Try.prog 9 #[.int .u64 n, .int .u16 s, .int .u16 old, .int .u16 next, .int .u32 was, .int .u32 now] w fun e w' => e = .returned (.bool true) ∧ Grow w w' := by
  obtain ⟨n1, n2⟩ := hn
  obtain ⟨s1, s2⟩ := hs
  obtain ⟨o1, o2⟩ := ho
  obtain ⟨x1, x2⟩ := hx
  obtain ⟨w1, w2⟩ := hw
  obtain ⟨m1, m2⟩ := hm
  have ht := turnF_bd s (was / 65536) (now / 65536)
  have ht2 := turnF_bd (turnF s (was / 65536) (now / 65536)) (was % 65536) (now % 65536)
  have ht3 := turnF_bd s old next
  have hf := foldF_bd n
  go_enter Try.func9, Try.ntmps9
  go_wp2_with (first | (go_at_call 44; refine (refTurn_any _ _ _ _ (by omega) (by omega) (by omega)).mono ?_; rintro e w1 ⟨rfl, rfl⟩) | (go_at_call 46; refine (refFold_any _ _ (by omega) (by omega)).mono ?_; rintro e w1 ⟨rfl, rfl⟩) | (go_at_call 45; refine (fold_any _ _ (by omega) (by omega)).mono ?_; rintro e w1 ⟨rfl, rfl⟩) | (go_at_call 43; refine (turn_any _ _ _ _ (by omega) (by omega) (by omega)).mono ?_; rintro e w1 ⟨rfl, rfl⟩) | (go_at_call 47; refine (turn32_any _ _ _ _ (by omega) (by omega) (by omega)).mono ?_; rintro e w1 ⟨rfl, rfl⟩) | (go_at_call 31; refine (lives02_any _).mono ?_; rintro e w1 ⟨rfl, hg⟩))
  go_ret
  exact ⟨rfl, hg⟩
end Go.Proofs.Ytmdaajlcikmnaaa
