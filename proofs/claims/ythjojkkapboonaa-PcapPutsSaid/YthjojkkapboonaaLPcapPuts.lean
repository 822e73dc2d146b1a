/- PcapPuts: which file any records are, and that it is read: for every input the law returns true and leaves its arguments as they were; no condition. -/
import Derived.Test.YthjojkkapboonaaRows
import Derived.Test.YthjojkkapboonaaG
import Derived.Test.YthjojkkapboonaaGA
import Derived.Test.YthjojkkapboonaaU
import Derived.Test.YthjojkkapboonaaHF
import Derived.Test.YthjojkkapboonaaPH
import Derived.Test.YthjojkkapboonaaGC
namespace Go.Proofs.Ythjojkkapboonaa
open Go.ChangeShapes Go.WideShapes Go.ChangeAt Go.RowKit

theorem pcapPuts_lifted (os : Os) (started : os.Started) (H : Type) (enc : TypeId × Value → H) :
    ReturnsInHanded {} Try.checked os 7 .any (Rows.pcapPutsSpec.pre6 enc Try.prog Try.f7 Rows.pcapPutsRow.domain false) (Rows.pcapPutsSpec.post enc Try.prog Try.f7 false true false false) := by
  refine law_lifted (C := Try.checked) (tb := 4) os started H enc Try.own Try.laidOut (by kernel_rfl) Try.func7 Try.underlying4 rfl (by kernel_rfl) rfl ?_
    (ChangeSpec.witness6 (enc := enc) (C := Try.checked) false ⟨#[], #[.slice none 0 0], []⟩ 8 (by kernel_rfl) (by kernel_rfl) (by kernel_rfl) (by kernel_rfl)) ?_
  · intro ds h
    rw [Try.params7] at h
    simp at h
    match ds, h with
    | [_], _ => rfl
  · intro W vs h
    rw [Try.params7] at h
    obtain ⟨v0, vs, rfl, h0, h⟩ := Args.cons h
    obtain rfl := Args.nil h
    obtain ⟨l0, hl0, hn0, r0⟩ := h0.recsA
    exact ASpec.walk (pcapPuts_a l0 hl0 (Nat.le_trans hn0 (by simp [maxLen]))) (RepL.cons r0 RepL.nil)

theorem pcapPuts_a1 : (Rows.pcapPutsRow.inPlace == Try.prog.inPlace 7) = true := by kernel_rfl
theorem pcapPuts_a2 : (Rows.pcapPutsRow.unfollowed == Try.prog.unfollowed 7) = true := by kernel_rfl
theorem pcapPuts_a3 : (Rows.pcapPutsRow.recurses == Try.prog.recurses 7) = true := by kernel_rfl
theorem pcapPuts_a4 : (Rows.pcapPutsRow.named == Try.prog.varsNamed 7) = true := by kernel_rfl
theorem pcapPuts_a5 : Try.prog.funcNamed Rows.pcapPutsRow.func = some 7 := by kernel_rfl
theorem pcapPuts_closed : joinedFacts Try.prog 7 Try.f7 Rows.pcapPutsSpec Rows.pcapPutsRow = true :=
  joined_mk (by kernel_rfl) Try.laidOut Try.mapsRowed (by kernel_rfl) (by kernel_rfl) (by kernel_rfl) Try.stopsNone (by kernel_rfl) Try.knobsNone pcapPuts_a1 pcapPuts_a2 pcapPuts_a3 pcapPuts_a4
    (by kernel_rfl) (by kernel_rfl) (by kernel_rfl) (by kernel_rfl) (by kernel_rfl) (by kernel_rfl) (by kernel_rfl) (by kernel_rfl) (by kernel_rfl) (by rw [Try.plainKeysIs]; kernel_rfl) (by kernel_rfl) Try.stopsHeard Try.mayEnter (by rw [Try.lifts]; kernel_rfl) (by rw [Try.makeIs]; kernel_rfl) (by kernel_rfl) (by kernel_rfl) (by kernel_rfl) (by kernel_rfl)
theorem pcapPuts_holds : Rows.PcapPutsSaid :=
  OpenClaim.holds_of_wide (p := Try.pinned) 7 Try.f7 rfl rfl rfl rfl rfl rfl rfl ⟨rfl, rfl, rfl, rfl, rfl⟩ rfl rfl rfl rfl rfl pcapPuts_a5 Try.func7 pcapPuts_closed
    (of_decide_eq_true (by kernel_rfl)) (by unfold Func.isWrapper; first | (rw [if_pos (by decide +kernel)]; kernel_rfl) | (rw [if_neg (by decide +kernel)]; exact ⟨rfl, rfl⟩))
    (fun os started H enc _ => pcapPuts_lifted os started H enc)

end Go.Proofs.Ythjojkkapboonaa
