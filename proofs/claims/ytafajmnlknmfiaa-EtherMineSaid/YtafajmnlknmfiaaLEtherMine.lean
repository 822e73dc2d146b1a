/- EtherMine: whom any frame is for; addresses of one, of several, of all: for every input the law returns true and leaves its arguments as they were; no condition. -/
import Derived.Test.YtafajmnlknmfiaaRows
import Derived.Test.YtafajmnlknmfiaaG
import Derived.Test.YtafajmnlknmfiaaGA
import Derived.Test.YtafajmnlknmfiaaU
import Derived.Test.YtafajmnlknmfiaaHF
import Derived.Test.YtafajmnlknmfiaaEM
namespace Go.Proofs.Ytafajmnlknmfiaa
open Go.ChangeShapes Go.WideShapes Go.ChangeAt Go.RowKit

theorem etherMine_lifted (os : Os) (started : os.Started) (H : Type) (enc : TypeId × Value → H) :
    ReturnsInHanded {} Try.checked os 5 .any (Rows.etherMineSpec.pre6 enc Try.prog Try.f5 Rows.etherMineRow.domain false) (Rows.etherMineSpec.post enc Try.prog Try.f5 false true false false) := by
  refine law_lifted (C := Try.checked) (tb := 4) os started H enc Try.own Try.laidOut (by kernel_rfl) Try.func5 Try.underlying4 rfl (by kernel_rfl) rfl ?_
    (ChangeSpec.witness6 (enc := enc) (C := Try.checked) false ⟨#[], #[.agg #[.int .u8 0, .int .u8 0, .int .u8 0, .int .u8 0, .int .u8 0, .int .u8 0, .int .u8 0, .int .u8 0, .int .u8 0, .int .u8 0, .int .u8 0, .int .u8 0, .int .u16 0, .slice none 0 0], .agg #[.int .u8 0, .int .u8 0, .int .u8 0, .int .u8 0, .int .u8 0, .int .u8 0]], []⟩ 8 (by kernel_rfl) (by kernel_rfl) (by kernel_rfl) (by kernel_rfl)) ?_
  · intro ds h
    rw [Try.params5] at h
    simp at h
    match ds, h with
    | [_, _], _ => rfl
  · intro W vs h
    rw [Try.params5] at h
    obtain ⟨v0, vs, rfl, h0, h⟩ := Args.cons h
    obtain ⟨v1, vs, rfl, h1, h⟩ := Args.cons h
    obtain rfl := Args.nil h
    obtain ⟨d0, s0, t0, l0, hd0, hs0, ht0, r0⟩ := h0.frameA
    obtain ⟨m1, hm1, r1⟩ := h1.macA
    exact ASpec.walk (etherMine_a d0 s0 t0 l0 m1 hd0 hm1) (RepL.cons r0 (RepL.cons r1 RepL.nil))

theorem etherMine_a1 : (Rows.etherMineRow.inPlace == Try.prog.inPlace 5) = true := by kernel_rfl
theorem etherMine_a2 : (Rows.etherMineRow.unfollowed == Try.prog.unfollowed 5) = true := by kernel_rfl
theorem etherMine_a3 : (Rows.etherMineRow.recurses == Try.prog.recurses 5) = true := by kernel_rfl
theorem etherMine_a4 : (Rows.etherMineRow.named == Try.prog.varsNamed 5) = true := by kernel_rfl
theorem etherMine_a5 : Try.prog.funcNamed Rows.etherMineRow.func = some 5 := by kernel_rfl
theorem etherMine_closed : joinedFacts Try.prog 5 Try.f5 Rows.etherMineSpec Rows.etherMineRow = true :=
  joined_mk (by kernel_rfl) Try.laidOut Try.mapsRowed (by kernel_rfl) (by kernel_rfl) (by kernel_rfl) Try.stopsNone (by kernel_rfl) Try.knobsNone etherMine_a1 etherMine_a2 etherMine_a3 etherMine_a4
    (by kernel_rfl) (by kernel_rfl) (by kernel_rfl) (by kernel_rfl) (by kernel_rfl) (by kernel_rfl) (by kernel_rfl) (by kernel_rfl) (by kernel_rfl) (by rw [Try.plainKeysIs]; kernel_rfl) (by kernel_rfl) Try.stopsHeard Try.mayEnter (by rw [Try.lifts]; kernel_rfl) (by rw [Try.makeIs]; kernel_rfl) (by kernel_rfl) (by kernel_rfl) (by kernel_rfl) (by kernel_rfl)
theorem etherMine_holds : Rows.EtherMineSaid :=
  OpenClaim.holds_of_wide (p := Try.pinned) 5 Try.f5 rfl rfl rfl rfl rfl rfl rfl ⟨rfl, rfl, rfl, rfl, rfl⟩ rfl rfl rfl rfl rfl etherMine_a5 Try.func5 etherMine_closed
    (of_decide_eq_true (by kernel_rfl)) (by unfold Func.isWrapper; first | (rw [if_pos (by decide +kernel)]; kernel_rfl) | (rw [if_neg (by decide +kernel)]; exact ⟨rfl, rfl⟩))
    (fun os started H enc _ => etherMine_lifted os started H enc)

end Go.Proofs.Ytafajmnlknmfiaa
