/- FragJoins: which packet any pieces are, or why none: for every input the law returns true and leaves its arguments as they were; no condition. -/
import Derived.Test.YthjojkkapboonaaRows
import Derived.Test.YthjojkkapboonaaG
import Derived.Test.YthjojkkapboonaaGA
import Derived.Test.YthjojkkapboonaaU
import Derived.Test.YthjojkkapboonaaHF
import Derived.Test.YthjojkkapboonaaFK
import Derived.Test.YthjojkkapboonaaGE
namespace Go.Proofs.Ythjojkkapboonaa
open Go.ChangeShapes Go.WideShapes Go.ChangeAt Go.RowKit

theorem fragJoins_lifted (os : Os) (started : os.Started) (H : Type) (enc : TypeId × Value → H) :
    ReturnsInHanded {} Try.checked os 9 .any (Rows.fragJoinsSpec.pre6 enc Try.prog Try.f9 Rows.fragJoinsRow.domain false) (Rows.fragJoinsSpec.post enc Try.prog Try.f9 false true false false) := by
  refine law_lifted (C := Try.checked) (tb := 4) os started H enc Try.own Try.laidOut (by kernel_rfl) Try.func9 Try.underlying4 rfl (by kernel_rfl) rfl ?_
    (ChangeSpec.witness6 (enc := enc) (C := Try.checked) false ⟨#[], #[.slice none 0 0], []⟩ 8 (by kernel_rfl) (by kernel_rfl) (by kernel_rfl) (by kernel_rfl)) ?_
  · intro ds h
    rw [Try.params9] at h
    simp at h
    match ds, h with
    | [_], _ => rfl
  · intro W vs h
    rw [Try.params9] at h
    obtain ⟨v0, vs, rfl, h0, h⟩ := Args.cons h
    obtain rfl := Args.nil h
    obtain ⟨l0, hl0, hn0, r0⟩ := h0.pktsA
    exact ASpec.walk (fragJoins_a l0 hl0 (Nat.le_trans hn0 (by simp [maxLen]))) (RepL.cons r0 RepL.nil)

theorem fragJoins_a1 : (Rows.fragJoinsRow.inPlace == Try.prog.inPlace 9) = true := by kernel_rfl
theorem fragJoins_a2 : (Rows.fragJoinsRow.unfollowed == Try.prog.unfollowed 9) = true := by kernel_rfl
theorem fragJoins_a3 : (Rows.fragJoinsRow.recurses == Try.prog.recurses 9) = true := by kernel_rfl
theorem fragJoins_a4 : (Rows.fragJoinsRow.named == Try.prog.varsNamed 9) = true := by kernel_rfl
theorem fragJoins_a5 : Try.prog.funcNamed Rows.fragJoinsRow.func = some 9 := by kernel_rfl
theorem fragJoins_closed : joinedFacts Try.prog 9 Try.f9 Rows.fragJoinsSpec Rows.fragJoinsRow = true :=
  joined_mk (by kernel_rfl) Try.laidOut Try.mapsRowed (by kernel_rfl) (by kernel_rfl) (by kernel_rfl) Try.stopsNone (by kernel_rfl) Try.knobsNone fragJoins_a1 fragJoins_a2 fragJoins_a3 fragJoins_a4
    (by kernel_rfl) (by kernel_rfl) (by kernel_rfl) (by kernel_rfl) (by kernel_rfl) (by kernel_rfl) (by kernel_rfl) (by kernel_rfl) (by kernel_rfl) (by rw [Try.plainKeysIs]; kernel_rfl) (by kernel_rfl) Try.stopsHeard Try.mayEnter (by rw [Try.lifts]; kernel_rfl) (by rw [Try.makeIs]; kernel_rfl) (by kernel_rfl) (by kernel_rfl) (by kernel_rfl) (by kernel_rfl)
theorem fragJoins_holds : Rows.FragJoinsSaid :=
  OpenClaim.holds_of_wide (p := Try.pinned) 9 Try.f9 rfl rfl rfl rfl rfl rfl rfl ⟨rfl, rfl, rfl, rfl, rfl⟩ rfl rfl rfl rfl rfl fragJoins_a5 Try.func9 fragJoins_closed
    (of_decide_eq_true (by kernel_rfl)) (by unfold Func.isWrapper; first | (rw [if_pos (by decide +kernel)]; kernel_rfl) | (rw [if_neg (by decide +kernel)]; exact ⟨rfl, rfl⟩))
    (fun os started H enc _ => fragJoins_lifted os started H enc)

end Go.Proofs.Ythjojkkapboonaa
