/- RecvBody: what any packet's data are, or why they are nothing: for every input the law returns true and leaves its arguments as they were; no condition. -/
import Derived.Test.YtafajmnlknmfiaaRows
import Derived.Test.YtafajmnlknmfiaaG
import Derived.Test.YtafajmnlknmfiaaGA
import Derived.Test.YtafajmnlknmfiaaU
import Derived.Test.YtafajmnlknmfiaaHF
import Derived.Test.YtafajmnlknmfiaaSG
import Derived.Test.YtafajmnlknmfiaaGB
namespace Go.Proofs.Ytafajmnlknmfiaa
open Go.ChangeShapes Go.WideShapes Go.ChangeAt Go.RowKit

theorem recvBody_lifted (os : Os) (started : os.Started) (H : Type) (enc : TypeId × Value → H) :
    ReturnsInHanded {} Try.checked os 30 .any (Rows.recvBodySpec.pre6 enc Try.prog Try.f30 Rows.recvBodyRow.domain false) (Rows.recvBodySpec.post enc Try.prog Try.f30 false true false false) := by
  refine law_lifted (C := Try.checked) (tb := 4) os started H enc Try.own Try.laidOut (by kernel_rfl) Try.func30 Try.underlying4 rfl (by kernel_rfl) rfl ?_
    (ChangeSpec.witness6 (enc := enc) (C := Try.checked) false ⟨#[], #[.agg #[.int .u8 0, .int .u16 0, .bool false, .bool false, .int .u16 0, .int .u8 0, .int .u8 0, .int .u32 0, .int .u32 0, .slice none 0 0, .slice none 0 0]], []⟩ 8 (by kernel_rfl) (by kernel_rfl) (by kernel_rfl) (by kernel_rfl)) ?_
  · intro ds h
    rw [Try.params30] at h
    simp at h
    match ds, h with
    | [_], _ => rfl
  · intro W vs h
    rw [Try.params30] at h
    obtain ⟨v0, vs, rfl, h0, h⟩ := Args.cons h
    obtain rfl := Args.nil h
    obtain ⟨p0, hp0, r0⟩ := h0.pktA
    exact ASpec.walk (recvBody_a p0 hp0) (RepL.cons r0 RepL.nil)

theorem recvBody_a1 : (Rows.recvBodyRow.inPlace == Try.prog.inPlace 30) = true := by kernel_rfl
theorem recvBody_a2 : (Rows.recvBodyRow.unfollowed == Try.prog.unfollowed 30) = true := by kernel_rfl
theorem recvBody_a3 : (Rows.recvBodyRow.recurses == Try.prog.recurses 30) = true := by kernel_rfl
theorem recvBody_a4 : (Rows.recvBodyRow.named == Try.prog.varsNamed 30) = true := by kernel_rfl
theorem recvBody_a5 : Try.prog.funcNamed Rows.recvBodyRow.func = some 30 := by kernel_rfl
theorem recvBody_closed : joinedFacts Try.prog 30 Try.f30 Rows.recvBodySpec Rows.recvBodyRow = true :=
  joined_mk (by kernel_rfl) Try.laidOut Try.mapsRowed (by kernel_rfl) (by kernel_rfl) (by kernel_rfl) Try.stopsNone (by kernel_rfl) Try.knobsNone recvBody_a1 recvBody_a2 recvBody_a3 recvBody_a4
    (by kernel_rfl) (by kernel_rfl) (by kernel_rfl) (by kernel_rfl) (by kernel_rfl) (by kernel_rfl) (by kernel_rfl) (by kernel_rfl) (by kernel_rfl) (by rw [Try.plainKeysIs]; kernel_rfl) (by kernel_rfl) Try.stopsHeard Try.mayEnter (by rw [Try.lifts]; kernel_rfl) (by rw [Try.makeIs]; kernel_rfl) (by kernel_rfl) (by kernel_rfl) (by kernel_rfl) (by kernel_rfl)
theorem recvBody_holds : Rows.RecvBodySaid :=
  OpenClaim.holds_of_wide (p := Try.pinned) 30 Try.f30 rfl rfl rfl rfl rfl rfl rfl ⟨rfl, rfl, rfl, rfl, rfl⟩ rfl rfl rfl rfl rfl recvBody_a5 Try.func30 recvBody_closed
    (of_decide_eq_true (by kernel_rfl)) (by unfold Func.isWrapper; first | (rw [if_pos (by decide +kernel)]; kernel_rfl) | (rw [if_neg (by decide +kernel)]; exact ⟨rfl, rfl⟩))
    (fun os started H enc _ => recvBody_lifted os started H enc)

end Go.Proofs.Ytafajmnlknmfiaa
