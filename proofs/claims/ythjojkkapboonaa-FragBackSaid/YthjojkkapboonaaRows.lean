/-
  No cell of these rows narrows 'for every input' (looked for: loops, veiled, ifaces, maps, wideKeys, modest, calm, conditions, laid).
  DERIVED. THE GIVEN ROWS OF THIS SEAT. 10 by the template 'for every input the law returns true; each argument reads behind the call as it read before'; 0 by the template 'total and deterministic' (their statements: YthjojkkapboonaaTotals.lean).
  GIVEN WITH THE SEED: the statements are not yours to turn. If you find one false, say at which input.
  Laid BY PROGRAM, IN A SANDBOX (cutbox-rows.mjs): the forced cells as the released guide's own fill.sh prints them over the translation 94f19610b6f9275d… (all of the seat's roots in one cut). By AI agents, Wed Nov 11 2026. No macro, syntax, notation, axiom, sorry.
-/
import Derived.Test.YthjojkkapboonaaChecked
import GoSem.Claim
import GoSem.ClaimJoined
import GoSem.ClaimMapViews
import Derived.JoinedTies
import Derived.KernelRfl
namespace Go.Proofs.Ythjojkkapboonaa
/- THE CELL 'sum', in the pinned program and in every row, IS THE sha256 OF THE DUMP (.gsa) THAT YthjojkkapboonaaProg.lean LOADS. Nothing in Lean hashes anything: it is a label: what it is worth is what the hold of that sum in a sandbox is worth. -/
noncomputable def Try.pinned : Pinned := { name := "ythjojkkapboonaa", sum := "94f19610b6f9275dee2e2491f490c908dbffbcab0a92e04d90b3b2365875cb19", checked := Try.checked }
namespace Rows
def none {H : Type} : Left H := { results := [], args := [] }

/-- 'linkboylaw28.SpliceApplies': WHATEVER THE INPUT: true; the input reads as it did. -/
def spliceAppliesSpec : ChangeSpec := { name := "spliceApplies", fn := fun _ => fun
  | [d1, d2, d3, d4, d5] => { results := [.lit (.bool true)], args := [d1, d2, d3, d4, d5] }
  | _ => none }
def spliceAppliesRow : OpenClaim := { program := "ythjojkkapboonaa", sum := "94f19610b6f9275dee2e2491f490c908dbffbcab0a92e04d90b3b2365875cb19", func := "linkboy/linkboylaw28.SpliceApplies", spec := "spliceApplies", apart := false }
def SpliceAppliesSaid : Prop := spliceAppliesRow.holds Try.pinned (OpenSpec.ofChange spliceAppliesSpec)

/-- ITS FALSE NEIGHBOUR: 'it returns false'. Refute it at one input. -/
def spliceAppliesWrong : ChangeSpec := { name := "spliceApplies", fn := fun _ => fun
  | [d1, d2, d3, d4, d5] => { results := [.lit (.bool false)], args := [d1, d2, d3, d4, d5] }
  | _ => none }
def SpliceAppliesWrongFalsely : Prop := spliceAppliesRow.holds Try.pinned (OpenSpec.ofChange spliceAppliesWrong)

/-- 'linkboylaw28.SpliceBack': WHATEVER THE INPUT: true; the input reads as it did. -/
def spliceBackSpec : ChangeSpec := { name := "spliceBack", fn := fun _ => fun
  | [d1, d2] => { results := [.lit (.bool true)], args := [d1, d2] }
  | _ => none }
def spliceBackRow : OpenClaim := { program := "ythjojkkapboonaa", sum := "94f19610b6f9275dee2e2491f490c908dbffbcab0a92e04d90b3b2365875cb19", func := "linkboy/linkboylaw28.SpliceBack", spec := "spliceBack", apart := false }
def SpliceBackSaid : Prop := spliceBackRow.holds Try.pinned (OpenSpec.ofChange spliceBackSpec)

/-- ITS FALSE NEIGHBOUR: 'it returns false'. Refute it at one input. -/
def spliceBackWrong : ChangeSpec := { name := "spliceBack", fn := fun _ => fun
  | [d1, d2] => { results := [.lit (.bool false)], args := [d1, d2] }
  | _ => none }
def SpliceBackWrongFalsely : Prop := spliceBackRow.holds Try.pinned (OpenSpec.ofChange spliceBackWrong)

/-- 'linkboylaw01.OctetHex': WHATEVER THE INPUT: true; the input reads as it did. -/
def octetHexSpec : ChangeSpec := { name := "octetHex", fn := fun _ => fun
  | [d1, d2] => { results := [.lit (.bool true)], args := [d1, d2] }
  | _ => none }
def octetHexRow : OpenClaim := { program := "ythjojkkapboonaa", sum := "94f19610b6f9275dee2e2491f490c908dbffbcab0a92e04d90b3b2365875cb19", func := "linkboy/linkboylaw01.OctetHex", spec := "octetHex", inPlace := ["internal/bytealg.IndexByteString"], apart := false }
def OctetHexSaid : Prop := octetHexRow.holds Try.pinned (OpenSpec.ofChange octetHexSpec)

/-- ITS FALSE NEIGHBOUR: 'it returns false'. Refute it at one input. -/
def octetHexWrong : ChangeSpec := { name := "octetHex", fn := fun _ => fun
  | [d1, d2] => { results := [.lit (.bool false)], args := [d1, d2] }
  | _ => none }
def OctetHexWrongFalsely : Prop := octetHexRow.holds Try.pinned (OpenSpec.ofChange octetHexWrong)

/-- 'linkboylaw46.PcapBehind': WHATEVER THE INPUT: true; the input reads as it did. -/
def pcapBehindSpec : ChangeSpec := { name := "pcapBehind", fn := fun _ => fun
  | [d1, d2] => { results := [.lit (.bool true)], args := [d1, d2] }
  | _ => none }
def pcapBehindRow : OpenClaim := { program := "ythjojkkapboonaa", sum := "94f19610b6f9275dee2e2491f490c908dbffbcab0a92e04d90b3b2365875cb19", func := "linkboy/linkboylaw46.PcapBehind", spec := "pcapBehind", apart := false }
def PcapBehindSaid : Prop := pcapBehindRow.holds Try.pinned (OpenSpec.ofChange pcapBehindSpec)

/-- ITS FALSE NEIGHBOUR: 'it returns false'. Refute it at one input. -/
def pcapBehindWrong : ChangeSpec := { name := "pcapBehind", fn := fun _ => fun
  | [d1, d2] => { results := [.lit (.bool false)], args := [d1, d2] }
  | _ => none }
def PcapBehindWrongFalsely : Prop := pcapBehindRow.holds Try.pinned (OpenSpec.ofChange pcapBehindWrong)

/-- 'linkboylaw46.PcapPuts': WHATEVER THE INPUT: true; the input reads as it did. -/
def pcapPutsSpec : ChangeSpec := { name := "pcapPuts", fn := fun _ => fun
  | [d] => { results := [.lit (.bool true)], args := [d] }
  | _ => none }
def pcapPutsRow : OpenClaim := { program := "ythjojkkapboonaa", sum := "94f19610b6f9275dee2e2491f490c908dbffbcab0a92e04d90b3b2365875cb19", func := "linkboy/linkboylaw46.PcapPuts", spec := "pcapPuts", apart := false }
def PcapPutsSaid : Prop := pcapPutsRow.holds Try.pinned (OpenSpec.ofChange pcapPutsSpec)

/-- ITS FALSE NEIGHBOUR: 'it returns false'. Refute it at one input. -/
def pcapPutsWrong : ChangeSpec := { name := "pcapPuts", fn := fun _ => fun
  | [d] => { results := [.lit (.bool false)], args := [d] }
  | _ => none }
def PcapPutsWrongFalsely : Prop := pcapPutsRow.holds Try.pinned (OpenSpec.ofChange pcapPutsWrong)

/-- 'linkboylaw46.PcapParses': WHATEVER THE INPUT: true; the input reads as it did. -/
def pcapParsesSpec : ChangeSpec := { name := "pcapParses", fn := fun _ => fun
  | [d1, d2] => { results := [.lit (.bool true)], args := [d1, d2] }
  | _ => none }
def pcapParsesRow : OpenClaim := { program := "ythjojkkapboonaa", sum := "94f19610b6f9275dee2e2491f490c908dbffbcab0a92e04d90b3b2365875cb19", func := "linkboy/linkboylaw46.PcapParses", spec := "pcapParses", apart := false }
def PcapParsesSaid : Prop := pcapParsesRow.holds Try.pinned (OpenSpec.ofChange pcapParsesSpec)

/-- ITS FALSE NEIGHBOUR: 'it returns false'. Refute it at one input. -/
def pcapParsesWrong : ChangeSpec := { name := "pcapParses", fn := fun _ => fun
  | [d1, d2] => { results := [.lit (.bool false)], args := [d1, d2] }
  | _ => none }
def PcapParsesWrongFalsely : Prop := pcapParsesRow.holds Try.pinned (OpenSpec.ofChange pcapParsesWrong)

/-- 'linkboylaw43.FragJoins': WHATEVER THE INPUT: true; the input reads as it did. -/
def fragJoinsSpec : ChangeSpec := { name := "fragJoins", fn := fun _ => fun
  | [d] => { results := [.lit (.bool true)], args := [d] }
  | _ => none }
def fragJoinsRow : OpenClaim := { program := "ythjojkkapboonaa", sum := "94f19610b6f9275dee2e2491f490c908dbffbcab0a92e04d90b3b2365875cb19", func := "linkboy/linkboylaw43.FragJoins", spec := "fragJoins", apart := false }
def FragJoinsSaid : Prop := fragJoinsRow.holds Try.pinned (OpenSpec.ofChange fragJoinsSpec)

/-- ITS FALSE NEIGHBOUR: 'it returns false'. Refute it at one input. -/
def fragJoinsWrong : ChangeSpec := { name := "fragJoins", fn := fun _ => fun
  | [d] => { results := [.lit (.bool false)], args := [d] }
  | _ => none }
def FragJoinsWrongFalsely : Prop := fragJoinsRow.holds Try.pinned (OpenSpec.ofChange fragJoinsWrong)

/-- 'linkboylaw43.FragBack': WHATEVER THE INPUT: true; the input reads as it did. -/
def fragBackSpec : ChangeSpec := { name := "fragBack", fn := fun _ => fun
  | [d1, d2, d3, d4, d5] => { results := [.lit (.bool true)], args := [d1, d2, d3, d4, d5] }
  | _ => none }
def fragBackRow : OpenClaim := { program := "ythjojkkapboonaa", sum := "94f19610b6f9275dee2e2491f490c908dbffbcab0a92e04d90b3b2365875cb19", func := "linkboy/linkboylaw43.FragBack", spec := "fragBack", apart := false }
def FragBackSaid : Prop := fragBackRow.holds Try.pinned (OpenSpec.ofChange fragBackSpec)

/-- ITS FALSE NEIGHBOUR: 'it returns false'. Refute it at one input. -/
def fragBackWrong : ChangeSpec := { name := "fragBack", fn := fun _ => fun
  | [d1, d2, d3, d4, d5] => { results := [.lit (.bool false)], args := [d1, d2, d3, d4, d5] }
  | _ => none }
def FragBackWrongFalsely : Prop := fragBackRow.holds Try.pinned (OpenSpec.ofChange fragBackWrong)

/-- 'linkboylaw28.SpliceBytes': WHATEVER THE INPUT: true; the input reads as it did. -/
def spliceBytesSpec : ChangeSpec := { name := "spliceBytes", fn := fun _ => fun
  | [d1, d2, d3, d4] => { results := [.lit (.bool true)], args := [d1, d2, d3, d4] }
  | _ => none }
def spliceBytesRow : OpenClaim := { program := "ythjojkkapboonaa", sum := "94f19610b6f9275dee2e2491f490c908dbffbcab0a92e04d90b3b2365875cb19", func := "linkboy/linkboylaw28.SpliceBytes", spec := "spliceBytes", apart := false }
def SpliceBytesSaid : Prop := spliceBytesRow.holds Try.pinned (OpenSpec.ofChange spliceBytesSpec)

/-- ITS FALSE NEIGHBOUR: 'it returns false'. Refute it at one input. -/
def spliceBytesWrong : ChangeSpec := { name := "spliceBytes", fn := fun _ => fun
  | [d1, d2, d3, d4] => { results := [.lit (.bool false)], args := [d1, d2, d3, d4] }
  | _ => none }
def SpliceBytesWrongFalsely : Prop := spliceBytesRow.holds Try.pinned (OpenSpec.ofChange spliceBytesWrong)

/-- 'linkboylaw28.SpliceRefuses': WHATEVER THE INPUT: true; the input reads as it did. -/
def spliceRefusesSpec : ChangeSpec := { name := "spliceRefuses", fn := fun _ => fun
  | [d1, d2, d3, d4] => { results := [.lit (.bool true)], args := [d1, d2, d3, d4] }
  | _ => none }
def spliceRefusesRow : OpenClaim := { program := "ythjojkkapboonaa", sum := "94f19610b6f9275dee2e2491f490c908dbffbcab0a92e04d90b3b2365875cb19", func := "linkboy/linkboylaw28.SpliceRefuses", spec := "spliceRefuses", apart := false }
def SpliceRefusesSaid : Prop := spliceRefusesRow.holds Try.pinned (OpenSpec.ofChange spliceRefusesSpec)

/-- ITS FALSE NEIGHBOUR: 'it returns false'. Refute it at one input. -/
def spliceRefusesWrong : ChangeSpec := { name := "spliceRefuses", fn := fun _ => fun
  | [d1, d2, d3, d4] => { results := [.lit (.bool false)], args := [d1, d2, d3, d4] }
  | _ => none }
def SpliceRefusesWrongFalsely : Prop := spliceRefusesRow.holds Try.pinned (OpenSpec.ofChange spliceRefusesWrong)

/- THE SECOND FORM. 'bulk': how many values and letters a reading holds, each counted each time it is reached (what is shared counts as often as it is met; a slice's spare places count too). A statement '..UptoSaid' is the law's where the arguments, and the package variables that the reading takes, are together of bulk at most 1048576: NARROWER than '..Said'. Prove '..Said' where nothing that the law and all that it calls make is longer than what came in: it says more and counts as full. Else prove '..UptoSaid'. A law counts once. -/
mutual
def uptoBulk {H : Type} : DataW H → Nat
  | .lit (.string bytes) => bytes.length + 1
  | .lit _ => 1
  | .nil => 1
  | .ptr d => uptoBulk d + 1
  | .slice elems spare => uptoBulkAll elems + uptoBulkAll spare + 1
  | .agg parts => uptoBulkAll parts + 1
  | .iface _ d => uptoBulk d + 1
  | .map entries => uptoBulkEntries entries + 1
  | .held _ => 1
def uptoBulkAll {H : Type} : List (DataW H) → Nat
  | [] => 0
  | d :: r => uptoBulk d + uptoBulkAll r
def uptoBulkEntries {H : Type} : List (Lit × DataW H) → Nat
  | [] => 0
  | x :: r => uptoBulkEntry x + uptoBulkEntries r
def uptoBulkEntry {H : Type} : Lit × DataW H → Nat
  | (.string bytes, d) => bytes.length + uptoBulk d + 1
  | (_, d) => uptoBulk d + 1
 end
def uptoSmall : (H : Type) → List (DataW H) → Bool := fun _ ds => decide (uptoBulkAll ds ≤ 1048576)
def OpenSpec.upto (s : _root_.Go.ChangeSpec) : _root_.Go.OpenSpec := { _root_.Go.OpenSpec.ofChange s with cond := some uptoSmall }

/-- 'linkboylaw28.SpliceApplies', WHERE WHAT IT READS IS OF BULK AT MOST 1048576: true; the input reads as it did. -/
def spliceAppliesUptoRow : OpenClaim := { program := "ythjojkkapboonaa", sum := "94f19610b6f9275dee2e2491f490c908dbffbcab0a92e04d90b3b2365875cb19", func := "linkboy/linkboylaw28.SpliceApplies", spec := "spliceApplies", apart := false, narrowed := true }
def SpliceAppliesUptoSaid : Prop := spliceAppliesUptoRow.holds Try.pinned (OpenSpec.upto spliceAppliesSpec)

/-- 'linkboylaw28.SpliceBack', WHERE WHAT IT READS IS OF BULK AT MOST 1048576: true; the input reads as it did. -/
def spliceBackUptoRow : OpenClaim := { program := "ythjojkkapboonaa", sum := "94f19610b6f9275dee2e2491f490c908dbffbcab0a92e04d90b3b2365875cb19", func := "linkboy/linkboylaw28.SpliceBack", spec := "spliceBack", apart := false, narrowed := true }
def SpliceBackUptoSaid : Prop := spliceBackUptoRow.holds Try.pinned (OpenSpec.upto spliceBackSpec)

/-- 'linkboylaw01.OctetHex', WHERE WHAT IT READS IS OF BULK AT MOST 1048576: true; the input reads as it did. -/
def octetHexUptoRow : OpenClaim := { program := "ythjojkkapboonaa", sum := "94f19610b6f9275dee2e2491f490c908dbffbcab0a92e04d90b3b2365875cb19", func := "linkboy/linkboylaw01.OctetHex", spec := "octetHex", inPlace := ["internal/bytealg.IndexByteString"], apart := false, narrowed := true }
def OctetHexUptoSaid : Prop := octetHexUptoRow.holds Try.pinned (OpenSpec.upto octetHexSpec)

/-- 'linkboylaw46.PcapBehind', WHERE WHAT IT READS IS OF BULK AT MOST 1048576: true; the input reads as it did. -/
def pcapBehindUptoRow : OpenClaim := { program := "ythjojkkapboonaa", sum := "94f19610b6f9275dee2e2491f490c908dbffbcab0a92e04d90b3b2365875cb19", func := "linkboy/linkboylaw46.PcapBehind", spec := "pcapBehind", apart := false, narrowed := true }
def PcapBehindUptoSaid : Prop := pcapBehindUptoRow.holds Try.pinned (OpenSpec.upto pcapBehindSpec)

/-- 'linkboylaw46.PcapPuts', WHERE WHAT IT READS IS OF BULK AT MOST 1048576: true; the input reads as it did. -/
def pcapPutsUptoRow : OpenClaim := { program := "ythjojkkapboonaa", sum := "94f19610b6f9275dee2e2491f490c908dbffbcab0a92e04d90b3b2365875cb19", func := "linkboy/linkboylaw46.PcapPuts", spec := "pcapPuts", apart := false, narrowed := true }
def PcapPutsUptoSaid : Prop := pcapPutsUptoRow.holds Try.pinned (OpenSpec.upto pcapPutsSpec)

/-- 'linkboylaw46.PcapParses', WHERE WHAT IT READS IS OF BULK AT MOST 1048576: true; the input reads as it did. -/
def pcapParsesUptoRow : OpenClaim := { program := "ythjojkkapboonaa", sum := "94f19610b6f9275dee2e2491f490c908dbffbcab0a92e04d90b3b2365875cb19", func := "linkboy/linkboylaw46.PcapParses", spec := "pcapParses", apart := false, narrowed := true }
def PcapParsesUptoSaid : Prop := pcapParsesUptoRow.holds Try.pinned (OpenSpec.upto pcapParsesSpec)

/-- 'linkboylaw43.FragJoins', WHERE WHAT IT READS IS OF BULK AT MOST 1048576: true; the input reads as it did. -/
def fragJoinsUptoRow : OpenClaim := { program := "ythjojkkapboonaa", sum := "94f19610b6f9275dee2e2491f490c908dbffbcab0a92e04d90b3b2365875cb19", func := "linkboy/linkboylaw43.FragJoins", spec := "fragJoins", apart := false, narrowed := true }
def FragJoinsUptoSaid : Prop := fragJoinsUptoRow.holds Try.pinned (OpenSpec.upto fragJoinsSpec)

/-- 'linkboylaw43.FragBack', WHERE WHAT IT READS IS OF BULK AT MOST 1048576: true; the input reads as it did. -/
def fragBackUptoRow : OpenClaim := { program := "ythjojkkapboonaa", sum := "94f19610b6f9275dee2e2491f490c908dbffbcab0a92e04d90b3b2365875cb19", func := "linkboy/linkboylaw43.FragBack", spec := "fragBack", apart := false, narrowed := true }
def FragBackUptoSaid : Prop := fragBackUptoRow.holds Try.pinned (OpenSpec.upto fragBackSpec)

/-- 'linkboylaw28.SpliceBytes', WHERE WHAT IT READS IS OF BULK AT MOST 1048576: true; the input reads as it did. -/
def spliceBytesUptoRow : OpenClaim := { program := "ythjojkkapboonaa", sum := "94f19610b6f9275dee2e2491f490c908dbffbcab0a92e04d90b3b2365875cb19", func := "linkboy/linkboylaw28.SpliceBytes", spec := "spliceBytes", apart := false, narrowed := true }
def SpliceBytesUptoSaid : Prop := spliceBytesUptoRow.holds Try.pinned (OpenSpec.upto spliceBytesSpec)

/-- 'linkboylaw28.SpliceRefuses', WHERE WHAT IT READS IS OF BULK AT MOST 1048576: true; the input reads as it did. -/
def spliceRefusesUptoRow : OpenClaim := { program := "ythjojkkapboonaa", sum := "94f19610b6f9275dee2e2491f490c908dbffbcab0a92e04d90b3b2365875cb19", func := "linkboy/linkboylaw28.SpliceRefuses", spec := "spliceRefuses", apart := false, narrowed := true }
def SpliceRefusesUptoSaid : Prop := spliceRefusesUptoRow.holds Try.pinned (OpenSpec.upto spliceRefusesSpec)

end Rows
end Go.Proofs.Ythjojkkapboonaa
