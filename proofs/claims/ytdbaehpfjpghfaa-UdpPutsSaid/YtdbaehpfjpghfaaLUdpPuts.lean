/- UdpPuts: which bytes any datagram is, and that it is read again: for every input the law returns true and leaves its arguments as they were; no condition. -/
import Derived.Test.YtdbaehpfjpghfaaRows
import Derived.Test.YtdbaehpfjpghfaaG
import Derived.Test.YtdbaehpfjpghfaaGA
import Derived.Test.YtdbaehpfjpghfaaU
import Derived.Test.YtdbaehpfjpghfaaHF
import Derived.Test.YtdbaehpfjpghfaaCK
namespace Go.Proofs.Ytdbaehpfjpghfaa
open Go.ChangeShapes Go.WideShapes Go.ChangeAt Go.RowKit

theorem udpPuts_lifted (os : Os) (started : os.Started) (H : Type) (enc : TypeId × Value → H) :
    ReturnsInHanded {} Try.checked os 22 .any (Rows.udpPutsSpec.pre6 enc Try.prog Try.f22 Rows.udpPutsRow.domain false) (Rows.udpPutsSpec.post enc Try.prog Try.f22 false true false false) := by
  refine law_lifted (C := Try.checked) (tb := 4) os started H enc Try.own Try.laidOut (by kernel_rfl) Try.func22 Try.underlying4 rfl (by kernel_rfl) rfl ?_
    (ChangeSpec.witness6 (enc := enc) (C := Try.checked) false ⟨#[], #[.int .u32 0, .int .u32 0, .agg #[.int .u16 0, .int .u16 0, .bool false, .slice none 0 0], .slice none 0 0], []⟩ 8 (by kernel_rfl) (by kernel_rfl) (by kernel_rfl) (by kernel_rfl)) ?_
  · intro ds h
    rw [Try.params22] at h
    simp at h
    match ds, h with
    | [_, _, _, _], _ => rfl
  · intro W vs h
    rw [Try.params22] at h
    obtain ⟨v0, vs, rfl, h0, h⟩ := Args.cons h
    obtain ⟨v1, vs, rfl, h1, h⟩ := Args.cons h
    obtain ⟨v2, vs, rfl, h2, h⟩ := Args.cons h
    obtain ⟨v3, vs, rfl, h3, h⟩ := Args.cons h
    obtain rfl := Args.nil h
    obtain ⟨a0, b0, r0⟩ := h0.u32A
    obtain ⟨a1, b1, r1⟩ := h1.u32A
    obtain ⟨s2, d2, e2, l2, hs2, hd2, r2⟩ := h2.datA
    obtain ⟨l3, r3⟩ := h3.bytesA
    exact ASpec.walk (udpPuts_a a0 a1 s2 d2 e2 l2 l3 b0 b1 hs2 hd2) (RepL.cons r0 (RepL.cons r1 (RepL.cons r2 (RepL.cons r3 RepL.nil))))

theorem udpPuts_a1 : (Rows.udpPutsRow.inPlace == Try.prog.inPlace 22) = true := by kernel_rfl
theorem udpPuts_a2 : (Rows.udpPutsRow.unfollowed == Try.prog.unfollowed 22) = true := by kernel_rfl
theorem udpPuts_a3 : (Rows.udpPutsRow.recurses == Try.prog.recurses 22) = true := by kernel_rfl
theorem udpPuts_a4 : (Rows.udpPutsRow.named == Try.prog.varsNamed 22) = true := by kernel_rfl
theorem udpPuts_a5 : Try.prog.funcNamed Rows.udpPutsRow.func = some 22 := by kernel_rfl
theorem udpPuts_closed : joinedFacts Try.prog 22 Try.f22 Rows.udpPutsSpec Rows.udpPutsRow = true :=
  joined_mk (by kernel_rfl) Try.laidOut Try.mapsRowed (by kernel_rfl) (by kernel_rfl) (by kernel_rfl) Try.stopsNone (by kernel_rfl) Try.knobsNone udpPuts_a1 udpPuts_a2 udpPuts_a3 udpPuts_a4
    (by kernel_rfl) (by kernel_rfl) (by kernel_rfl) (by kernel_rfl) (by kernel_rfl) (by kernel_rfl) (by kernel_rfl) (by kernel_rfl) (by kernel_rfl) (by rw [Try.plainKeysIs]; kernel_rfl) (by kernel_rfl) Try.stopsHeard Try.mayEnter (by rw [Try.lifts]; kernel_rfl) (by rw [Try.makeIs]; kernel_rfl) (by kernel_rfl) (by kernel_rfl) (by kernel_rfl) (by kernel_rfl)
theorem udpPuts_holds : Rows.UdpPutsSaid :=
  OpenClaim.holds_of_wide (p := Try.pinned) 22 Try.f22 rfl rfl rfl rfl rfl rfl rfl ⟨rfl, rfl, rfl, rfl, rfl⟩ rfl rfl rfl rfl rfl udpPuts_a5 Try.func22 udpPuts_closed
    (of_decide_eq_true (by kernel_rfl)) (by unfold Func.isWrapper; first | (rw [if_pos (by decide +kernel)]; kernel_rfl) | (rw [if_neg (by decide +kernel)]; exact ⟨rfl, rfl⟩))
    (fun os started H enc _ => udpPuts_lifted os started H enc)

end Go.Proofs.Ytdbaehpfjpghfaa
