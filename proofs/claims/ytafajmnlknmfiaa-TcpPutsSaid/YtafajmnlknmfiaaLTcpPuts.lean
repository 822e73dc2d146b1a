/- TcpPuts: which segments may be, which bytes they are, and that they are read again: for every input the law returns true and leaves its arguments as they were; no condition. -/
import Derived.Test.YtafajmnlknmfiaaRows
import Derived.Test.YtafajmnlknmfiaaG
import Derived.Test.YtafajmnlknmfiaaGA
import Derived.Test.YtafajmnlknmfiaaU
import Derived.Test.YtafajmnlknmfiaaHF
import Derived.Test.YtafajmnlknmfiaaTD
namespace Go.Proofs.Ytafajmnlknmfiaa
open Go.ChangeShapes Go.WideShapes Go.ChangeAt Go.RowKit

theorem tcpPuts_lifted (os : Os) (started : os.Started) (H : Type) (enc : TypeId × Value → H) :
    ReturnsInHanded {} Try.checked os 13 .any (Rows.tcpPutsSpec.pre6 enc Try.prog Try.f13 Rows.tcpPutsRow.domain false) (Rows.tcpPutsSpec.post enc Try.prog Try.f13 false true false false) := by
  refine law_lifted (C := Try.checked) (tb := 4) os started H enc Try.own Try.laidOut (by kernel_rfl) Try.func13 Try.underlying4 rfl (by kernel_rfl) rfl ?_
    (ChangeSpec.witness6 (enc := enc) (C := Try.checked) false ⟨#[], #[.int .u32 0, .int .u32 0, .agg #[.int .u16 0, .int .u16 0, .int .u32 0, .int .u32 0, .int .u8 0, .int .u8 0, .int .u16 0, .int .u16 0, .slice none 0 0, .slice none 0 0]], []⟩ 8 (by kernel_rfl) (by kernel_rfl) (by kernel_rfl) (by kernel_rfl)) ?_
  · intro ds h
    rw [Try.params13] at h
    simp at h
    match ds, h with
    | [_, _, _], _ => rfl
  · intro W vs h
    rw [Try.params13] at h
    obtain ⟨v0, vs, rfl, h0, h⟩ := Args.cons h
    obtain ⟨v1, vs, rfl, h1, h⟩ := Args.cons h
    obtain ⟨v2, vs, rfl, h2, h⟩ := Args.cons h
    obtain rfl := Args.nil h
    obtain ⟨a0, b0, r0⟩ := h0.u32A
    obtain ⟨a1, b1, r1⟩ := h1.u32A
    obtain ⟨g2, hg2, r2⟩ := h2.segA
    exact ASpec.walk (tcpPuts_a a0 a1 g2 hg2 b0 b1) (RepL.cons r0 (RepL.cons r1 (RepL.cons r2 RepL.nil)))

theorem tcpPuts_a1 : (Rows.tcpPutsRow.inPlace == Try.prog.inPlace 13) = true := by kernel_rfl
theorem tcpPuts_a2 : (Rows.tcpPutsRow.unfollowed == Try.prog.unfollowed 13) = true := by kernel_rfl
theorem tcpPuts_a3 : (Rows.tcpPutsRow.recurses == Try.prog.recurses 13) = true := by kernel_rfl
theorem tcpPuts_a4 : (Rows.tcpPutsRow.named == Try.prog.varsNamed 13) = true := by kernel_rfl
theorem tcpPuts_a5 : Try.prog.funcNamed Rows.tcpPutsRow.func = some 13 := by kernel_rfl
theorem tcpPuts_closed : joinedFacts Try.prog 13 Try.f13 Rows.tcpPutsSpec Rows.tcpPutsRow = true :=
  joined_mk (by kernel_rfl) Try.laidOut Try.mapsRowed (by kernel_rfl) (by kernel_rfl) (by kernel_rfl) Try.stopsNone (by kernel_rfl) Try.knobsNone tcpPuts_a1 tcpPuts_a2 tcpPuts_a3 tcpPuts_a4
    (by kernel_rfl) (by kernel_rfl) (by kernel_rfl) (by kernel_rfl) (by kernel_rfl) (by kernel_rfl) (by kernel_rfl) (by kernel_rfl) (by kernel_rfl) (by rw [Try.plainKeysIs]; kernel_rfl) (by kernel_rfl) Try.stopsHeard Try.mayEnter (by rw [Try.lifts]; kernel_rfl) (by rw [Try.makeIs]; kernel_rfl) (by kernel_rfl) (by kernel_rfl) (by kernel_rfl) (by kernel_rfl)
theorem tcpPuts_holds : Rows.TcpPutsSaid :=
  OpenClaim.holds_of_wide (p := Try.pinned) 13 Try.f13 rfl rfl rfl rfl rfl rfl rfl ⟨rfl, rfl, rfl, rfl, rfl⟩ rfl rfl rfl rfl rfl tcpPuts_a5 Try.func13 tcpPuts_closed
    (of_decide_eq_true (by kernel_rfl)) (by unfold Func.isWrapper; first | (rw [if_pos (by decide +kernel)]; kernel_rfl) | (rw [if_neg (by decide +kernel)]; exact ⟨rfl, rfl⟩))
    (fun os started H enc _ => tcpPuts_lifted os started H enc)

end Go.Proofs.Ytafajmnlknmfiaa
