/-
  No cell of these rows narrows 'for every input' (looked for: loops, veiled, ifaces, maps, wideKeys, modest, calm, conditions, laid).
  DERIVED. THE GIVEN ROWS OF THIS SEAT. 28 by the template 'for every input the law returns true; each argument reads behind the call as it read before'; 0 by the template 'total and deterministic' (their statements: YtafajmnlknmfiaaTotals.lean).
  GIVEN WITH THE SEED: the statements are not yours to turn. If you find one false, say at which input.
  Laid BY PROGRAM, IN A SANDBOX (cutbox-rows.mjs): the forced cells as the released guide's own fill.sh prints them over the translation 3843919ab60776aa… (all of the seat's roots in one cut). By AI agents, Wed Nov 11 2026. No macro, syntax, notation, axiom, sorry.
-/
import Derived.Test.YtafajmnlknmfiaaChecked
import GoSem.Claim
import GoSem.ClaimJoined
import GoSem.ClaimMapViews
import Derived.JoinedTies
import Derived.KernelRfl
namespace Go.Proofs.Ytafajmnlknmfiaa
/- THE CELL 'sum', in the pinned program and in every row, IS THE sha256 OF THE DUMP (.gsa) THAT YtafajmnlknmfiaaProg.lean LOADS. Nothing in Lean hashes anything: it is a label: what it is worth is what the hold of that sum in a sandbox is worth. -/
noncomputable def Try.pinned : Pinned := { name := "ytafajmnlknmfiaa", sum := "3843919ab60776aa307c9a12ec1d9a7f2dfff79084122b5b1ac40d42ddd8e8ca", checked := Try.checked }
namespace Rows
def none {H : Type} : Left H := { results := [], args := [] }

/-- 'linkboylaw28.SpliceApplies': WHATEVER THE INPUT: true; the input reads as it did. -/
def spliceAppliesSpec : ChangeSpec := { name := "spliceApplies", fn := fun _ => fun
  | [d1, d2, d3, d4, d5] => { results := [.lit (.bool true)], args := [d1, d2, d3, d4, d5] }
  | _ => none }
def spliceAppliesRow : OpenClaim := { program := "ytafajmnlknmfiaa", sum := "3843919ab60776aa307c9a12ec1d9a7f2dfff79084122b5b1ac40d42ddd8e8ca", func := "linkboy/linkboylaw28.SpliceApplies", spec := "spliceApplies", apart := false }
def SpliceAppliesSaid : Prop := spliceAppliesRow.holds Try.pinned (OpenSpec.ofChange spliceAppliesSpec)

/-- ITS FALSE NEIGHBOUR: 'it returns false'. Refute it at one input. -/
def spliceAppliesWrong : ChangeSpec := { name := "spliceApplies", fn := fun _ => fun
  | [d1, d2, d3, d4, d5] => { results := [.lit (.bool false)], args := [d1, d2, d3, d4, d5] }
  | _ => none }
def SpliceAppliesWrongFalsely : Prop := spliceAppliesRow.holds Try.pinned (OpenSpec.ofChange spliceAppliesWrong)

/-- 'linkboylaw28.SpliceBack': WHATEVER THE INPUT: true; the input reads as it did. -/
def spliceBackSpec : ChangeSpec := { name := "spliceBack", fn := fun _ => fun
  | [d1, d2] => { results := [.lit (.bool true)], args := [d1, d2] }
  | _ => none }
def spliceBackRow : OpenClaim := { program := "ytafajmnlknmfiaa", sum := "3843919ab60776aa307c9a12ec1d9a7f2dfff79084122b5b1ac40d42ddd8e8ca", func := "linkboy/linkboylaw28.SpliceBack", spec := "spliceBack", apart := false }
def SpliceBackSaid : Prop := spliceBackRow.holds Try.pinned (OpenSpec.ofChange spliceBackSpec)

/-- ITS FALSE NEIGHBOUR: 'it returns false'. Refute it at one input. -/
def spliceBackWrong : ChangeSpec := { name := "spliceBack", fn := fun _ => fun
  | [d1, d2] => { results := [.lit (.bool false)], args := [d1, d2] }
  | _ => none }
def SpliceBackWrongFalsely : Prop := spliceBackRow.holds Try.pinned (OpenSpec.ofChange spliceBackWrong)

/-- 'linkboylaw04.EtherMine': WHATEVER THE INPUT: true; the input reads as it did. -/
def etherMineSpec : ChangeSpec := { name := "etherMine", fn := fun _ => fun
  | [d1, d2] => { results := [.lit (.bool true)], args := [d1, d2] }
  | _ => none }
def etherMineRow : OpenClaim := { program := "ytafajmnlknmfiaa", sum := "3843919ab60776aa307c9a12ec1d9a7f2dfff79084122b5b1ac40d42ddd8e8ca", func := "linkboy/linkboylaw04.EtherMine", spec := "etherMine", apart := false }
def EtherMineSaid : Prop := etherMineRow.holds Try.pinned (OpenSpec.ofChange etherMineSpec)

/-- ITS FALSE NEIGHBOUR: 'it returns false'. Refute it at one input. -/
def etherMineWrong : ChangeSpec := { name := "etherMine", fn := fun _ => fun
  | [d1, d2] => { results := [.lit (.bool false)], args := [d1, d2] }
  | _ => none }
def EtherMineWrongFalsely : Prop := etherMineRow.holds Try.pinned (OpenSpec.ofChange etherMineWrong)

/-- 'linkboylaw01.OctetHex': WHATEVER THE INPUT: true; the input reads as it did. -/
def octetHexSpec : ChangeSpec := { name := "octetHex", fn := fun _ => fun
  | [d1, d2] => { results := [.lit (.bool true)], args := [d1, d2] }
  | _ => none }
def octetHexRow : OpenClaim := { program := "ytafajmnlknmfiaa", sum := "3843919ab60776aa307c9a12ec1d9a7f2dfff79084122b5b1ac40d42ddd8e8ca", func := "linkboy/linkboylaw01.OctetHex", spec := "octetHex", inPlace := ["internal/bytealg.IndexByteString"], apart := false }
def OctetHexSaid : Prop := octetHexRow.holds Try.pinned (OpenSpec.ofChange octetHexSpec)

/-- ITS FALSE NEIGHBOUR: 'it returns false'. Refute it at one input. -/
def octetHexWrong : ChangeSpec := { name := "octetHex", fn := fun _ => fun
  | [d1, d2] => { results := [.lit (.bool false)], args := [d1, d2] }
  | _ => none }
def OctetHexWrongFalsely : Prop := octetHexRow.holds Try.pinned (OpenSpec.ofChange octetHexWrong)

/-- 'linkboylaw46.PcapBehind': WHATEVER THE INPUT: true; the input reads as it did. -/
def pcapBehindSpec : ChangeSpec := { name := "pcapBehind", fn := fun _ => fun
  | [d1, d2] => { results := [.lit (.bool true)], args := [d1, d2] }
  | _ => none }
def pcapBehindRow : OpenClaim := { program := "ytafajmnlknmfiaa", sum := "3843919ab60776aa307c9a12ec1d9a7f2dfff79084122b5b1ac40d42ddd8e8ca", func := "linkboy/linkboylaw46.PcapBehind", spec := "pcapBehind", apart := false }
def PcapBehindSaid : Prop := pcapBehindRow.holds Try.pinned (OpenSpec.ofChange pcapBehindSpec)

/-- ITS FALSE NEIGHBOUR: 'it returns false'. Refute it at one input. -/
def pcapBehindWrong : ChangeSpec := { name := "pcapBehind", fn := fun _ => fun
  | [d1, d2] => { results := [.lit (.bool false)], args := [d1, d2] }
  | _ => none }
def PcapBehindWrongFalsely : Prop := pcapBehindRow.holds Try.pinned (OpenSpec.ofChange pcapBehindWrong)

/-- 'linkboylaw46.PcapPuts': WHATEVER THE INPUT: true; the input reads as it did. -/
def pcapPutsSpec : ChangeSpec := { name := "pcapPuts", fn := fun _ => fun
  | [d] => { results := [.lit (.bool true)], args := [d] }
  | _ => none }
def pcapPutsRow : OpenClaim := { program := "ytafajmnlknmfiaa", sum := "3843919ab60776aa307c9a12ec1d9a7f2dfff79084122b5b1ac40d42ddd8e8ca", func := "linkboy/linkboylaw46.PcapPuts", spec := "pcapPuts", apart := false }
def PcapPutsSaid : Prop := pcapPutsRow.holds Try.pinned (OpenSpec.ofChange pcapPutsSpec)

/-- ITS FALSE NEIGHBOUR: 'it returns false'. Refute it at one input. -/
def pcapPutsWrong : ChangeSpec := { name := "pcapPuts", fn := fun _ => fun
  | [d] => { results := [.lit (.bool false)], args := [d] }
  | _ => none }
def PcapPutsWrongFalsely : Prop := pcapPutsRow.holds Try.pinned (OpenSpec.ofChange pcapPutsWrong)

/-- 'linkboylaw46.PcapParses': WHATEVER THE INPUT: true; the input reads as it did. -/
def pcapParsesSpec : ChangeSpec := { name := "pcapParses", fn := fun _ => fun
  | [d1, d2] => { results := [.lit (.bool true)], args := [d1, d2] }
  | _ => none }
def pcapParsesRow : OpenClaim := { program := "ytafajmnlknmfiaa", sum := "3843919ab60776aa307c9a12ec1d9a7f2dfff79084122b5b1ac40d42ddd8e8ca", func := "linkboy/linkboylaw46.PcapParses", spec := "pcapParses", apart := false }
def PcapParsesSaid : Prop := pcapParsesRow.holds Try.pinned (OpenSpec.ofChange pcapParsesSpec)

/-- ITS FALSE NEIGHBOUR: 'it returns false'. Refute it at one input. -/
def pcapParsesWrong : ChangeSpec := { name := "pcapParses", fn := fun _ => fun
  | [d1, d2] => { results := [.lit (.bool false)], args := [d1, d2] }
  | _ => none }
def PcapParsesWrongFalsely : Prop := pcapParsesRow.holds Try.pinned (OpenSpec.ofChange pcapParsesWrong)

/-- 'linkboylaw43.FragJoins': WHATEVER THE INPUT: true; the input reads as it did. -/
def fragJoinsSpec : ChangeSpec := { name := "fragJoins", fn := fun _ => fun
  | [d] => { results := [.lit (.bool true)], args := [d] }
  | _ => none }
def fragJoinsRow : OpenClaim := { program := "ytafajmnlknmfiaa", sum := "3843919ab60776aa307c9a12ec1d9a7f2dfff79084122b5b1ac40d42ddd8e8ca", func := "linkboy/linkboylaw43.FragJoins", spec := "fragJoins", apart := false }
def FragJoinsSaid : Prop := fragJoinsRow.holds Try.pinned (OpenSpec.ofChange fragJoinsSpec)

/-- ITS FALSE NEIGHBOUR: 'it returns false'. Refute it at one input. -/
def fragJoinsWrong : ChangeSpec := { name := "fragJoins", fn := fun _ => fun
  | [d] => { results := [.lit (.bool false)], args := [d] }
  | _ => none }
def FragJoinsWrongFalsely : Prop := fragJoinsRow.holds Try.pinned (OpenSpec.ofChange fragJoinsWrong)

/-- 'linkboylaw43.FragBack': WHATEVER THE INPUT: true; the input reads as it did. -/
def fragBackSpec : ChangeSpec := { name := "fragBack", fn := fun _ => fun
  | [d1, d2, d3, d4, d5] => { results := [.lit (.bool true)], args := [d1, d2, d3, d4, d5] }
  | _ => none }
def fragBackRow : OpenClaim := { program := "ytafajmnlknmfiaa", sum := "3843919ab60776aa307c9a12ec1d9a7f2dfff79084122b5b1ac40d42ddd8e8ca", func := "linkboy/linkboylaw43.FragBack", spec := "fragBack", apart := false }
def FragBackSaid : Prop := fragBackRow.holds Try.pinned (OpenSpec.ofChange fragBackSpec)

/-- ITS FALSE NEIGHBOUR: 'it returns false'. Refute it at one input. -/
def fragBackWrong : ChangeSpec := { name := "fragBack", fn := fun _ => fun
  | [d1, d2, d3, d4, d5] => { results := [.lit (.bool false)], args := [d1, d2, d3, d4, d5] }
  | _ => none }
def FragBackWrongFalsely : Prop := fragBackRow.holds Try.pinned (OpenSpec.ofChange fragBackWrong)

/-- 'linkboylaw09.TcpParses': WHATEVER THE INPUT: true; the input reads as it did. -/
def tcpParsesSpec : ChangeSpec := { name := "tcpParses", fn := fun _ => fun
  | [d1, d2, d3] => { results := [.lit (.bool true)], args := [d1, d2, d3] }
  | _ => none }
def tcpParsesRow : OpenClaim := { program := "ytafajmnlknmfiaa", sum := "3843919ab60776aa307c9a12ec1d9a7f2dfff79084122b5b1ac40d42ddd8e8ca", func := "linkboy/linkboylaw09.TcpParses", spec := "tcpParses", apart := false }
def TcpParsesSaid : Prop := tcpParsesRow.holds Try.pinned (OpenSpec.ofChange tcpParsesSpec)

/-- ITS FALSE NEIGHBOUR: 'it returns false'. Refute it at one input. -/
def tcpParsesWrong : ChangeSpec := { name := "tcpParses", fn := fun _ => fun
  | [d1, d2, d3] => { results := [.lit (.bool false)], args := [d1, d2, d3] }
  | _ => none }
def TcpParsesWrongFalsely : Prop := tcpParsesRow.holds Try.pinned (OpenSpec.ofChange tcpParsesWrong)

/-- 'linkboylaw09.TcpPuts': WHATEVER THE INPUT: true; the input reads as it did. -/
def tcpPutsSpec : ChangeSpec := { name := "tcpPuts", fn := fun _ => fun
  | [d1, d2, d3] => { results := [.lit (.bool true)], args := [d1, d2, d3] }
  | _ => none }
def tcpPutsRow : OpenClaim := { program := "ytafajmnlknmfiaa", sum := "3843919ab60776aa307c9a12ec1d9a7f2dfff79084122b5b1ac40d42ddd8e8ca", func := "linkboy/linkboylaw09.TcpPuts", spec := "tcpPuts", apart := false }
def TcpPutsSaid : Prop := tcpPutsRow.holds Try.pinned (OpenSpec.ofChange tcpPutsSpec)

/-- ITS FALSE NEIGHBOUR: 'it returns false'. Refute it at one input. -/
def tcpPutsWrong : ChangeSpec := { name := "tcpPuts", fn := fun _ => fun
  | [d1, d2, d3] => { results := [.lit (.bool false)], args := [d1, d2, d3] }
  | _ => none }
def TcpPutsWrongFalsely : Prop := tcpPutsRow.holds Try.pinned (OpenSpec.ofChange tcpPutsWrong)

/-- 'linkboylaw09.TcpSpaces': WHATEVER THE INPUT: true; the input reads as it did. -/
def tcpSpacesSpec : ChangeSpec := { name := "tcpSpaces", fn := fun _ => fun
  | [d1, d2] => { results := [.lit (.bool true)], args := [d1, d2] }
  | _ => none }
def tcpSpacesRow : OpenClaim := { program := "ytafajmnlknmfiaa", sum := "3843919ab60776aa307c9a12ec1d9a7f2dfff79084122b5b1ac40d42ddd8e8ca", func := "linkboy/linkboylaw09.TcpSpaces", spec := "tcpSpaces", apart := false }
def TcpSpacesSaid : Prop := tcpSpacesRow.holds Try.pinned (OpenSpec.ofChange tcpSpacesSpec)

/-- ITS FALSE NEIGHBOUR: 'it returns false'. Refute it at one input. -/
def tcpSpacesWrong : ChangeSpec := { name := "tcpSpaces", fn := fun _ => fun
  | [d1, d2] => { results := [.lit (.bool false)], args := [d1, d2] }
  | _ => none }
def TcpSpacesWrongFalsely : Prop := tcpSpacesRow.holds Try.pinned (OpenSpec.ofChange tcpSpacesWrong)

/-- 'linkboylaw09.TcpBounds': WHATEVER THE INPUT: true; the input reads as it did. -/
def tcpBoundsSpec : ChangeSpec := { name := "tcpBounds", fn := fun _ => fun
  | [d] => { results := [.lit (.bool true)], args := [d] }
  | _ => none }
def tcpBoundsRow : OpenClaim := { program := "ytafajmnlknmfiaa", sum := "3843919ab60776aa307c9a12ec1d9a7f2dfff79084122b5b1ac40d42ddd8e8ca", func := "linkboy/linkboylaw09.TcpBounds", spec := "tcpBounds", apart := false }
def TcpBoundsSaid : Prop := tcpBoundsRow.holds Try.pinned (OpenSpec.ofChange tcpBoundsSpec)

/-- ITS FALSE NEIGHBOUR: 'it returns false'. Refute it at one input. -/
def tcpBoundsWrong : ChangeSpec := { name := "tcpBounds", fn := fun _ => fun
  | [d] => { results := [.lit (.bool false)], args := [d] }
  | _ => none }
def TcpBoundsWrongFalsely : Prop := tcpBoundsRow.holds Try.pinned (OpenSpec.ofChange tcpBoundsWrong)

/-- 'linkboylaw28.SpliceBytes': WHATEVER THE INPUT: true; the input reads as it did. -/
def spliceBytesSpec : ChangeSpec := { name := "spliceBytes", fn := fun _ => fun
  | [d1, d2, d3, d4] => { results := [.lit (.bool true)], args := [d1, d2, d3, d4] }
  | _ => none }
def spliceBytesRow : OpenClaim := { program := "ytafajmnlknmfiaa", sum := "3843919ab60776aa307c9a12ec1d9a7f2dfff79084122b5b1ac40d42ddd8e8ca", func := "linkboy/linkboylaw28.SpliceBytes", spec := "spliceBytes", apart := false }
def SpliceBytesSaid : Prop := spliceBytesRow.holds Try.pinned (OpenSpec.ofChange spliceBytesSpec)

/-- ITS FALSE NEIGHBOUR: 'it returns false'. Refute it at one input. -/
def spliceBytesWrong : ChangeSpec := { name := "spliceBytes", fn := fun _ => fun
  | [d1, d2, d3, d4] => { results := [.lit (.bool false)], args := [d1, d2, d3, d4] }
  | _ => none }
def SpliceBytesWrongFalsely : Prop := spliceBytesRow.holds Try.pinned (OpenSpec.ofChange spliceBytesWrong)

/-- 'linkboylaw28.SpliceRefuses': WHATEVER THE INPUT: true; the input reads as it did. -/
def spliceRefusesSpec : ChangeSpec := { name := "spliceRefuses", fn := fun _ => fun
  | [d1, d2, d3, d4] => { results := [.lit (.bool true)], args := [d1, d2, d3, d4] }
  | _ => none }
def spliceRefusesRow : OpenClaim := { program := "ytafajmnlknmfiaa", sum := "3843919ab60776aa307c9a12ec1d9a7f2dfff79084122b5b1ac40d42ddd8e8ca", func := "linkboy/linkboylaw28.SpliceRefuses", spec := "spliceRefuses", apart := false }
def SpliceRefusesSaid : Prop := spliceRefusesRow.holds Try.pinned (OpenSpec.ofChange spliceRefusesSpec)

/-- ITS FALSE NEIGHBOUR: 'it returns false'. Refute it at one input. -/
def spliceRefusesWrong : ChangeSpec := { name := "spliceRefuses", fn := fun _ => fun
  | [d1, d2, d3, d4] => { results := [.lit (.bool false)], args := [d1, d2, d3, d4] }
  | _ => none }
def SpliceRefusesWrongFalsely : Prop := spliceRefusesRow.holds Try.pinned (OpenSpec.ofChange spliceRefusesWrong)

/-- 'linkboylaw06.Ipv4Parses': WHATEVER THE INPUT: true; the input reads as it did. -/
def ipv4ParsesSpec : ChangeSpec := { name := "ipv4Parses", fn := fun _ => fun
  | [d] => { results := [.lit (.bool true)], args := [d] }
  | _ => none }
def ipv4ParsesRow : OpenClaim := { program := "ytafajmnlknmfiaa", sum := "3843919ab60776aa307c9a12ec1d9a7f2dfff79084122b5b1ac40d42ddd8e8ca", func := "linkboy/linkboylaw06.Ipv4Parses", spec := "ipv4Parses", apart := false }
def Ipv4ParsesSaid : Prop := ipv4ParsesRow.holds Try.pinned (OpenSpec.ofChange ipv4ParsesSpec)

/-- ITS FALSE NEIGHBOUR: 'it returns false'. Refute it at one input. -/
def ipv4ParsesWrong : ChangeSpec := { name := "ipv4Parses", fn := fun _ => fun
  | [d] => { results := [.lit (.bool false)], args := [d] }
  | _ => none }
def Ipv4ParsesWrongFalsely : Prop := ipv4ParsesRow.holds Try.pinned (OpenSpec.ofChange ipv4ParsesWrong)

/-- 'linkboylaw06.Ipv4Back': WHATEVER THE INPUT: true; the input reads as it did. -/
def ipv4BackSpec : ChangeSpec := { name := "ipv4Back", fn := fun _ => fun
  | [d] => { results := [.lit (.bool true)], args := [d] }
  | _ => none }
def ipv4BackRow : OpenClaim := { program := "ytafajmnlknmfiaa", sum := "3843919ab60776aa307c9a12ec1d9a7f2dfff79084122b5b1ac40d42ddd8e8ca", func := "linkboy/linkboylaw06.Ipv4Back", spec := "ipv4Back", apart := false }
def Ipv4BackSaid : Prop := ipv4BackRow.holds Try.pinned (OpenSpec.ofChange ipv4BackSpec)

/-- ITS FALSE NEIGHBOUR: 'it returns false'. Refute it at one input. -/
def ipv4BackWrong : ChangeSpec := { name := "ipv4Back", fn := fun _ => fun
  | [d] => { results := [.lit (.bool false)], args := [d] }
  | _ => none }
def Ipv4BackWrongFalsely : Prop := ipv4BackRow.holds Try.pinned (OpenSpec.ofChange ipv4BackWrong)

/-- 'linkboylaw06.Ipv4Puts': WHATEVER THE INPUT: true; the input reads as it did. -/
def ipv4PutsSpec : ChangeSpec := { name := "ipv4Puts", fn := fun _ => fun
  | [d1, d2] => { results := [.lit (.bool true)], args := [d1, d2] }
  | _ => none }
def ipv4PutsRow : OpenClaim := { program := "ytafajmnlknmfiaa", sum := "3843919ab60776aa307c9a12ec1d9a7f2dfff79084122b5b1ac40d42ddd8e8ca", func := "linkboy/linkboylaw06.Ipv4Puts", spec := "ipv4Puts", apart := false }
def Ipv4PutsSaid : Prop := ipv4PutsRow.holds Try.pinned (OpenSpec.ofChange ipv4PutsSpec)

/-- ITS FALSE NEIGHBOUR: 'it returns false'. Refute it at one input. -/
def ipv4PutsWrong : ChangeSpec := { name := "ipv4Puts", fn := fun _ => fun
  | [d1, d2] => { results := [.lit (.bool false)], args := [d1, d2] }
  | _ => none }
def Ipv4PutsWrongFalsely : Prop := ipv4PutsRow.holds Try.pinned (OpenSpec.ofChange ipv4PutsWrong)

/-- 'linkboylaw12.QuoteOf': WHATEVER THE INPUT: true; the input reads as it did. -/
def quoteOfSpec : ChangeSpec := { name := "quoteOf", fn := fun _ => fun
  | [d] => { results := [.lit (.bool true)], args := [d] }
  | _ => none }
def quoteOfRow : OpenClaim := { program := "ytafajmnlknmfiaa", sum := "3843919ab60776aa307c9a12ec1d9a7f2dfff79084122b5b1ac40d42ddd8e8ca", func := "linkboy/linkboylaw12.QuoteOf", spec := "quoteOf", apart := false }
def QuoteOfSaid : Prop := quoteOfRow.holds Try.pinned (OpenSpec.ofChange quoteOfSpec)

/-- ITS FALSE NEIGHBOUR: 'it returns false'. Refute it at one input. -/
def quoteOfWrong : ChangeSpec := { name := "quoteOf", fn := fun _ => fun
  | [d] => { results := [.lit (.bool false)], args := [d] }
  | _ => none }
def QuoteOfWrongFalsely : Prop := quoteOfRow.holds Try.pinned (OpenSpec.ofChange quoteOfWrong)

/-- 'linkboylaw12.QuoteFailed': WHATEVER THE INPUT: true; the input reads as it did. -/
def quoteFailedSpec : ChangeSpec := { name := "quoteFailed", fn := fun _ => fun
  | [d1, d2] => { results := [.lit (.bool true)], args := [d1, d2] }
  | _ => none }
def quoteFailedRow : OpenClaim := { program := "ytafajmnlknmfiaa", sum := "3843919ab60776aa307c9a12ec1d9a7f2dfff79084122b5b1ac40d42ddd8e8ca", func := "linkboy/linkboylaw12.QuoteFailed", spec := "quoteFailed", apart := false }
def QuoteFailedSaid : Prop := quoteFailedRow.holds Try.pinned (OpenSpec.ofChange quoteFailedSpec)

/-- ITS FALSE NEIGHBOUR: 'it returns false'. Refute it at one input. -/
def quoteFailedWrong : ChangeSpec := { name := "quoteFailed", fn := fun _ => fun
  | [d1, d2] => { results := [.lit (.bool false)], args := [d1, d2] }
  | _ => none }
def QuoteFailedWrongFalsely : Prop := quoteFailedRow.holds Try.pinned (OpenSpec.ofChange quoteFailedWrong)

/-- 'linkboylaw06.Ipv4Turns': WHATEVER THE INPUT: true; the input reads as it did. -/
def ipv4TurnsSpec : ChangeSpec := { name := "ipv4Turns", fn := fun _ => fun
  | [d1, d2] => { results := [.lit (.bool true)], args := [d1, d2] }
  | _ => none }
def ipv4TurnsRow : OpenClaim := { program := "ytafajmnlknmfiaa", sum := "3843919ab60776aa307c9a12ec1d9a7f2dfff79084122b5b1ac40d42ddd8e8ca", func := "linkboy/linkboylaw06.Ipv4Turns", spec := "ipv4Turns", apart := false }
def Ipv4TurnsSaid : Prop := ipv4TurnsRow.holds Try.pinned (OpenSpec.ofChange ipv4TurnsSpec)

/-- ITS FALSE NEIGHBOUR: 'it returns false'. Refute it at one input. -/
def ipv4TurnsWrong : ChangeSpec := { name := "ipv4Turns", fn := fun _ => fun
  | [d1, d2] => { results := [.lit (.bool false)], args := [d1, d2] }
  | _ => none }
def Ipv4TurnsWrongFalsely : Prop := ipv4TurnsRow.holds Try.pinned (OpenSpec.ofChange ipv4TurnsWrong)

/-- 'linkboylaw29.TunBounds': WHATEVER THE INPUT: true; the input reads as it did. -/
def tunBoundsSpec : ChangeSpec := { name := "tunBounds", fn := fun _ => fun
  | [d1, d2] => { results := [.lit (.bool true)], args := [d1, d2] }
  | _ => none }
def tunBoundsRow : OpenClaim := { program := "ytafajmnlknmfiaa", sum := "3843919ab60776aa307c9a12ec1d9a7f2dfff79084122b5b1ac40d42ddd8e8ca", func := "linkboy/linkboylaw29.TunBounds", spec := "tunBounds", apart := false }
def TunBoundsSaid : Prop := tunBoundsRow.holds Try.pinned (OpenSpec.ofChange tunBoundsSpec)

/-- ITS FALSE NEIGHBOUR: 'it returns false'. Refute it at one input. -/
def tunBoundsWrong : ChangeSpec := { name := "tunBounds", fn := fun _ => fun
  | [d1, d2] => { results := [.lit (.bool false)], args := [d1, d2] }
  | _ => none }
def TunBoundsWrongFalsely : Prop := tunBoundsRow.holds Try.pinned (OpenSpec.ofChange tunBoundsWrong)

/-- 'linkboylaw29.TunWraps': WHATEVER THE INPUT: true; the input reads as it did. -/
def tunWrapsSpec : ChangeSpec := { name := "tunWraps", fn := fun _ => fun
  | [d1, d2, d3, d4, d5] => { results := [.lit (.bool true)], args := [d1, d2, d3, d4, d5] }
  | _ => none }
def tunWrapsRow : OpenClaim := { program := "ytafajmnlknmfiaa", sum := "3843919ab60776aa307c9a12ec1d9a7f2dfff79084122b5b1ac40d42ddd8e8ca", func := "linkboy/linkboylaw29.TunWraps", spec := "tunWraps", apart := false }
def TunWrapsSaid : Prop := tunWrapsRow.holds Try.pinned (OpenSpec.ofChange tunWrapsSpec)

/-- ITS FALSE NEIGHBOUR: 'it returns false'. Refute it at one input. -/
def tunWrapsWrong : ChangeSpec := { name := "tunWraps", fn := fun _ => fun
  | [d1, d2, d3, d4, d5] => { results := [.lit (.bool false)], args := [d1, d2, d3, d4, d5] }
  | _ => none }
def TunWrapsWrongFalsely : Prop := tunWrapsRow.holds Try.pinned (OpenSpec.ofChange tunWrapsWrong)

/-- 'linkboylaw29.TunBack': WHATEVER THE INPUT: true; the input reads as it did. -/
def tunBackSpec : ChangeSpec := { name := "tunBack", fn := fun _ => fun
  | [d1, d2, d3, d4, d5] => { results := [.lit (.bool true)], args := [d1, d2, d3, d4, d5] }
  | _ => none }
def tunBackRow : OpenClaim := { program := "ytafajmnlknmfiaa", sum := "3843919ab60776aa307c9a12ec1d9a7f2dfff79084122b5b1ac40d42ddd8e8ca", func := "linkboy/linkboylaw29.TunBack", spec := "tunBack", apart := false }
def TunBackSaid : Prop := tunBackRow.holds Try.pinned (OpenSpec.ofChange tunBackSpec)

/-- ITS FALSE NEIGHBOUR: 'it returns false'. Refute it at one input. -/
def tunBackWrong : ChangeSpec := { name := "tunBack", fn := fun _ => fun
  | [d1, d2, d3, d4, d5] => { results := [.lit (.bool false)], args := [d1, d2, d3, d4, d5] }
  | _ => none }
def TunBackWrongFalsely : Prop := tunBackRow.holds Try.pinned (OpenSpec.ofChange tunBackWrong)

/-- 'linkboylaw26.RecvOf': WHATEVER THE INPUT: true; the input reads as it did. -/
def recvOfSpec : ChangeSpec := { name := "recvOf", fn := fun _ => fun
  | [d1, d2, d3] => { results := [.lit (.bool true)], args := [d1, d2, d3] }
  | _ => none }
def recvOfRow : OpenClaim := { program := "ytafajmnlknmfiaa", sum := "3843919ab60776aa307c9a12ec1d9a7f2dfff79084122b5b1ac40d42ddd8e8ca", func := "linkboy/linkboylaw26.RecvOf", spec := "recvOf", apart := false }
def RecvOfSaid : Prop := recvOfRow.holds Try.pinned (OpenSpec.ofChange recvOfSpec)

/-- ITS FALSE NEIGHBOUR: 'it returns false'. Refute it at one input. -/
def recvOfWrong : ChangeSpec := { name := "recvOf", fn := fun _ => fun
  | [d1, d2, d3] => { results := [.lit (.bool false)], args := [d1, d2, d3] }
  | _ => none }
def RecvOfWrongFalsely : Prop := recvOfRow.holds Try.pinned (OpenSpec.ofChange recvOfWrong)

/-- 'linkboylaw26.RecvKinds': WHATEVER THE INPUT: true; the input reads as it did. -/
def recvKindsSpec : ChangeSpec := { name := "recvKinds", fn := fun _ => fun
  | [d1, d2, d3, d4, d5, d6] => { results := [.lit (.bool true)], args := [d1, d2, d3, d4, d5, d6] }
  | _ => none }
def recvKindsRow : OpenClaim := { program := "ytafajmnlknmfiaa", sum := "3843919ab60776aa307c9a12ec1d9a7f2dfff79084122b5b1ac40d42ddd8e8ca", func := "linkboy/linkboylaw26.RecvKinds", spec := "recvKinds", apart := false }
def RecvKindsSaid : Prop := recvKindsRow.holds Try.pinned (OpenSpec.ofChange recvKindsSpec)

/-- ITS FALSE NEIGHBOUR: 'it returns false'. Refute it at one input. -/
def recvKindsWrong : ChangeSpec := { name := "recvKinds", fn := fun _ => fun
  | [d1, d2, d3, d4, d5, d6] => { results := [.lit (.bool false)], args := [d1, d2, d3, d4, d5, d6] }
  | _ => none }
def RecvKindsWrongFalsely : Prop := recvKindsRow.holds Try.pinned (OpenSpec.ofChange recvKindsWrong)

/-- 'linkboylaw30.ErrsTells': WHATEVER THE INPUT: true; the input reads as it did. -/
def errsTellsSpec : ChangeSpec := { name := "errsTells", fn := fun _ => fun
  | [d1, d2, d3] => { results := [.lit (.bool true)], args := [d1, d2, d3] }
  | _ => none }
def errsTellsRow : OpenClaim := { program := "ytafajmnlknmfiaa", sum := "3843919ab60776aa307c9a12ec1d9a7f2dfff79084122b5b1ac40d42ddd8e8ca", func := "linkboy/linkboylaw30.ErrsTells", spec := "errsTells", apart := false }
def ErrsTellsSaid : Prop := errsTellsRow.holds Try.pinned (OpenSpec.ofChange errsTellsSpec)

/-- ITS FALSE NEIGHBOUR: 'it returns false'. Refute it at one input. -/
def errsTellsWrong : ChangeSpec := { name := "errsTells", fn := fun _ => fun
  | [d1, d2, d3] => { results := [.lit (.bool false)], args := [d1, d2, d3] }
  | _ => none }
def ErrsTellsWrongFalsely : Prop := errsTellsRow.holds Try.pinned (OpenSpec.ofChange errsTellsWrong)

/-- 'linkboylaw26.RecvBody': WHATEVER THE INPUT: true; the input reads as it did. -/
def recvBodySpec : ChangeSpec := { name := "recvBody", fn := fun _ => fun
  | [d] => { results := [.lit (.bool true)], args := [d] }
  | _ => none }
def recvBodyRow : OpenClaim := { program := "ytafajmnlknmfiaa", sum := "3843919ab60776aa307c9a12ec1d9a7f2dfff79084122b5b1ac40d42ddd8e8ca", func := "linkboy/linkboylaw26.RecvBody", spec := "recvBody", apart := false }
def RecvBodySaid : Prop := recvBodyRow.holds Try.pinned (OpenSpec.ofChange recvBodySpec)

/-- ITS FALSE NEIGHBOUR: 'it returns false'. Refute it at one input. -/
def recvBodyWrong : ChangeSpec := { name := "recvBody", fn := fun _ => fun
  | [d] => { results := [.lit (.bool false)], args := [d] }
  | _ => none }
def RecvBodyWrongFalsely : Prop := recvBodyRow.holds Try.pinned (OpenSpec.ofChange recvBodyWrong)

/- THE SECOND FORM. 'bulk': how many values and letters a reading holds, each counted each time it is reached (what is shared counts as often as it is met; a slice's spare places count too). A statement '..UptoSaid' is the law's where the arguments, and the package variables that the reading takes, are together of bulk at most 1048576: NARROWER than '..Said'. Prove '..Said' where nothing that the law and all that it calls make is longer than what came in: it says more and counts as full. Else prove '..UptoSaid'. A law counts once. -/
mutual
def uptoBulk {H : Type} : DataW H → Nat
  | .lit (.string bytes) => bytes.length + 1
  | .lit _ => 1
  | .nil => 1
  | .ptr d => uptoBulk d + 1
  | .slice elems spare => uptoBulkAll elems + uptoBulkAll spare + 1
  | .agg parts => uptoBulkAll parts + 1
  | .iface _ d => uptoBulk d + 1
  | .map entries => uptoBulkEntries entries + 1
  | .held _ => 1
def uptoBulkAll {H : Type} : List (DataW H) → Nat
  | [] => 0
  | d :: r => uptoBulk d + uptoBulkAll r
def uptoBulkEntries {H : Type} : List (Lit × DataW H) → Nat
  | [] => 0
  | x :: r => uptoBulkEntry x + uptoBulkEntries r
def uptoBulkEntry {H : Type} : Lit × DataW H → Nat
  | (.string bytes, d) => bytes.length + uptoBulk d + 1
  | (_, d) => uptoBulk d + 1
 end
def uptoSmall : (H : Type) → List (DataW H) → Bool := fun _ ds => decide (uptoBulkAll ds ≤ 1048576)
def OpenSpec.upto (s : _root_.Go.ChangeSpec) : _root_.Go.OpenSpec := { _root_.Go.OpenSpec.ofChange s with cond := some uptoSmall }

/-- 'linkboylaw28.SpliceApplies', WHERE WHAT IT READS IS OF BULK AT MOST 1048576: true; the input reads as it did. -/
def spliceAppliesUptoRow : OpenClaim := { program := "ytafajmnlknmfiaa", sum := "3843919ab60776aa307c9a12ec1d9a7f2dfff79084122b5b1ac40d42ddd8e8ca", func := "linkboy/linkboylaw28.SpliceApplies", spec := "spliceApplies", apart := false, narrowed := true }
def SpliceAppliesUptoSaid : Prop := spliceAppliesUptoRow.holds Try.pinned (OpenSpec.upto spliceAppliesSpec)

/-- 'linkboylaw28.SpliceBack', WHERE WHAT IT READS IS OF BULK AT MOST 1048576: true; the input reads as it did. -/
def spliceBackUptoRow : OpenClaim := { program := "ytafajmnlknmfiaa", sum := "3843919ab60776aa307c9a12ec1d9a7f2dfff79084122b5b1ac40d42ddd8e8ca", func := "linkboy/linkboylaw28.SpliceBack", spec := "spliceBack", apart := false, narrowed := true }
def SpliceBackUptoSaid : Prop := spliceBackUptoRow.holds Try.pinned (OpenSpec.upto spliceBackSpec)

/-- 'linkboylaw04.EtherMine', WHERE WHAT IT READS IS OF BULK AT MOST 1048576: true; the input reads as it did. -/
def etherMineUptoRow : OpenClaim := { program := "ytafajmnlknmfiaa", sum := "3843919ab60776aa307c9a12ec1d9a7f2dfff79084122b5b1ac40d42ddd8e8ca", func := "linkboy/linkboylaw04.EtherMine", spec := "etherMine", apart := false, narrowed := true }
def EtherMineUptoSaid : Prop := etherMineUptoRow.holds Try.pinned (OpenSpec.upto etherMineSpec)

/-- 'linkboylaw01.OctetHex', WHERE WHAT IT READS IS OF BULK AT MOST 1048576: true; the input reads as it did. -/
def octetHexUptoRow : OpenClaim := { program := "ytafajmnlknmfiaa", sum := "3843919ab60776aa307c9a12ec1d9a7f2dfff79084122b5b1ac40d42ddd8e8ca", func := "linkboy/linkboylaw01.OctetHex", spec := "octetHex", inPlace := ["internal/bytealg.IndexByteString"], apart := false, narrowed := true }
def OctetHexUptoSaid : Prop := octetHexUptoRow.holds Try.pinned (OpenSpec.upto octetHexSpec)

/-- 'linkboylaw46.PcapBehind', WHERE WHAT IT READS IS OF BULK AT MOST 1048576: true; the input reads as it did. -/
def pcapBehindUptoRow : OpenClaim := { program := "ytafajmnlknmfiaa", sum := "3843919ab60776aa307c9a12ec1d9a7f2dfff79084122b5b1ac40d42ddd8e8ca", func := "linkboy/linkboylaw46.PcapBehind", spec := "pcapBehind", apart := false, narrowed := true }
def PcapBehindUptoSaid : Prop := pcapBehindUptoRow.holds Try.pinned (OpenSpec.upto pcapBehindSpec)

/-- 'linkboylaw46.PcapPuts', WHERE WHAT IT READS IS OF BULK AT MOST 1048576: true; the input reads as it did. -/
def pcapPutsUptoRow : OpenClaim := { program := "ytafajmnlknmfiaa", sum := "3843919ab60776aa307c9a12ec1d9a7f2dfff79084122b5b1ac40d42ddd8e8ca", func := "linkboy/linkboylaw46.PcapPuts", spec := "pcapPuts", apart := false, narrowed := true }
def PcapPutsUptoSaid : Prop := pcapPutsUptoRow.holds Try.pinned (OpenSpec.upto pcapPutsSpec)

/-- 'linkboylaw46.PcapParses', WHERE WHAT IT READS IS OF BULK AT MOST 1048576: true; the input reads as it did. -/
def pcapParsesUptoRow : OpenClaim := { program := "ytafajmnlknmfiaa", sum := "3843919ab60776aa307c9a12ec1d9a7f2dfff79084122b5b1ac40d42ddd8e8ca", func := "linkboy/linkboylaw46.PcapParses", spec := "pcapParses", apart := false, narrowed := true }
def PcapParsesUptoSaid : Prop := pcapParsesUptoRow.holds Try.pinned (OpenSpec.upto pcapParsesSpec)

/-- 'linkboylaw43.FragJoins', WHERE WHAT IT READS IS OF BULK AT MOST 1048576: true; the input reads as it did. -/
def fragJoinsUptoRow : OpenClaim := { program := "ytafajmnlknmfiaa", sum := "3843919ab60776aa307c9a12ec1d9a7f2dfff79084122b5b1ac40d42ddd8e8ca", func := "linkboy/linkboylaw43.FragJoins", spec := "fragJoins", apart := false, narrowed := true }
def FragJoinsUptoSaid : Prop := fragJoinsUptoRow.holds Try.pinned (OpenSpec.upto fragJoinsSpec)

/-- 'linkboylaw43.FragBack', WHERE WHAT IT READS IS OF BULK AT MOST 1048576: true; the input reads as it did. -/
def fragBackUptoRow : OpenClaim := { program := "ytafajmnlknmfiaa", sum := "3843919ab60776aa307c9a12ec1d9a7f2dfff79084122b5b1ac40d42ddd8e8ca", func := "linkboy/linkboylaw43.FragBack", spec := "fragBack", apart := false, narrowed := true }
def FragBackUptoSaid : Prop := fragBackUptoRow.holds Try.pinned (OpenSpec.upto fragBackSpec)

/-- 'linkboylaw09.TcpParses', WHERE WHAT IT READS IS OF BULK AT MOST 1048576: true; the input reads as it did. -/
def tcpParsesUptoRow : OpenClaim := { program := "ytafajmnlknmfiaa", sum := "3843919ab60776aa307c9a12ec1d9a7f2dfff79084122b5b1ac40d42ddd8e8ca", func := "linkboy/linkboylaw09.TcpParses", spec := "tcpParses", apart := false, narrowed := true }
def TcpParsesUptoSaid : Prop := tcpParsesUptoRow.holds Try.pinned (OpenSpec.upto tcpParsesSpec)

/-- 'linkboylaw09.TcpPuts', WHERE WHAT IT READS IS OF BULK AT MOST 1048576: true; the input reads as it did. -/
def tcpPutsUptoRow : OpenClaim := { program := "ytafajmnlknmfiaa", sum := "3843919ab60776aa307c9a12ec1d9a7f2dfff79084122b5b1ac40d42ddd8e8ca", func := "linkboy/linkboylaw09.TcpPuts", spec := "tcpPuts", apart := false, narrowed := true }
def TcpPutsUptoSaid : Prop := tcpPutsUptoRow.holds Try.pinned (OpenSpec.upto tcpPutsSpec)

/-- 'linkboylaw09.TcpSpaces', WHERE WHAT IT READS IS OF BULK AT MOST 1048576: true; the input reads as it did. -/
def tcpSpacesUptoRow : OpenClaim := { program := "ytafajmnlknmfiaa", sum := "3843919ab60776aa307c9a12ec1d9a7f2dfff79084122b5b1ac40d42ddd8e8ca", func := "linkboy/linkboylaw09.TcpSpaces", spec := "tcpSpaces", apart := false, narrowed := true }
def TcpSpacesUptoSaid : Prop := tcpSpacesUptoRow.holds Try.pinned (OpenSpec.upto tcpSpacesSpec)

/-- 'linkboylaw09.TcpBounds', WHERE WHAT IT READS IS OF BULK AT MOST 1048576: true; the input reads as it did. -/
def tcpBoundsUptoRow : OpenClaim := { program := "ytafajmnlknmfiaa", sum := "3843919ab60776aa307c9a12ec1d9a7f2dfff79084122b5b1ac40d42ddd8e8ca", func := "linkboy/linkboylaw09.TcpBounds", spec := "tcpBounds", apart := false, narrowed := true }
def TcpBoundsUptoSaid : Prop := tcpBoundsUptoRow.holds Try.pinned (OpenSpec.upto tcpBoundsSpec)

/-- 'linkboylaw28.SpliceBytes', WHERE WHAT IT READS IS OF BULK AT MOST 1048576: true; the input reads as it did. -/
def spliceBytesUptoRow : OpenClaim := { program := "ytafajmnlknmfiaa", sum := "3843919ab60776aa307c9a12ec1d9a7f2dfff79084122b5b1ac40d42ddd8e8ca", func := "linkboy/linkboylaw28.SpliceBytes", spec := "spliceBytes", apart := false, narrowed := true }
def SpliceBytesUptoSaid : Prop := spliceBytesUptoRow.holds Try.pinned (OpenSpec.upto spliceBytesSpec)

/-- 'linkboylaw28.SpliceRefuses', WHERE WHAT IT READS IS OF BULK AT MOST 1048576: true; the input reads as it did. -/
def spliceRefusesUptoRow : OpenClaim := { program := "ytafajmnlknmfiaa", sum := "3843919ab60776aa307c9a12ec1d9a7f2dfff79084122b5b1ac40d42ddd8e8ca", func := "linkboy/linkboylaw28.SpliceRefuses", spec := "spliceRefuses", apart := false, narrowed := true }
def SpliceRefusesUptoSaid : Prop := spliceRefusesUptoRow.holds Try.pinned (OpenSpec.upto spliceRefusesSpec)

/-- 'linkboylaw06.Ipv4Parses', WHERE WHAT IT READS IS OF BULK AT MOST 1048576: true; the input reads as it did. -/
def ipv4ParsesUptoRow : OpenClaim := { program := "ytafajmnlknmfiaa", sum := "3843919ab60776aa307c9a12ec1d9a7f2dfff79084122b5b1ac40d42ddd8e8ca", func := "linkboy/linkboylaw06.Ipv4Parses", spec := "ipv4Parses", apart := false, narrowed := true }
def Ipv4ParsesUptoSaid : Prop := ipv4ParsesUptoRow.holds Try.pinned (OpenSpec.upto ipv4ParsesSpec)

/-- 'linkboylaw06.Ipv4Back', WHERE WHAT IT READS IS OF BULK AT MOST 1048576: true; the input reads as it did. -/
def ipv4BackUptoRow : OpenClaim := { program := "ytafajmnlknmfiaa", sum := "3843919ab60776aa307c9a12ec1d9a7f2dfff79084122b5b1ac40d42ddd8e8ca", func := "linkboy/linkboylaw06.Ipv4Back", spec := "ipv4Back", apart := false, narrowed := true }
def Ipv4BackUptoSaid : Prop := ipv4BackUptoRow.holds Try.pinned (OpenSpec.upto ipv4BackSpec)

/-- 'linkboylaw06.Ipv4Puts', WHERE WHAT IT READS IS OF BULK AT MOST 1048576: true; the input reads as it did. -/
def ipv4PutsUptoRow : OpenClaim := { program := "ytafajmnlknmfiaa", sum := "3843919ab60776aa307c9a12ec1d9a7f2dfff79084122b5b1ac40d42ddd8e8ca", func := "linkboy/linkboylaw06.Ipv4Puts", spec := "ipv4Puts", apart := false, narrowed := true }
def Ipv4PutsUptoSaid : Prop := ipv4PutsUptoRow.holds Try.pinned (OpenSpec.upto ipv4PutsSpec)

/-- 'linkboylaw12.QuoteOf', WHERE WHAT IT READS IS OF BULK AT MOST 1048576: true; the input reads as it did. -/
def quoteOfUptoRow : OpenClaim := { program := "ytafajmnlknmfiaa", sum := "3843919ab60776aa307c9a12ec1d9a7f2dfff79084122b5b1ac40d42ddd8e8ca", func := "linkboy/linkboylaw12.QuoteOf", spec := "quoteOf", apart := false, narrowed := true }
def QuoteOfUptoSaid : Prop := quoteOfUptoRow.holds Try.pinned (OpenSpec.upto quoteOfSpec)

/-- 'linkboylaw12.QuoteFailed', WHERE WHAT IT READS IS OF BULK AT MOST 1048576: true; the input reads as it did. -/
def quoteFailedUptoRow : OpenClaim := { program := "ytafajmnlknmfiaa", sum := "3843919ab60776aa307c9a12ec1d9a7f2dfff79084122b5b1ac40d42ddd8e8ca", func := "linkboy/linkboylaw12.QuoteFailed", spec := "quoteFailed", apart := false, narrowed := true }
def QuoteFailedUptoSaid : Prop := quoteFailedUptoRow.holds Try.pinned (OpenSpec.upto quoteFailedSpec)

/-- 'linkboylaw06.Ipv4Turns', WHERE WHAT IT READS IS OF BULK AT MOST 1048576: true; the input reads as it did. -/
def ipv4TurnsUptoRow : OpenClaim := { program := "ytafajmnlknmfiaa", sum := "3843919ab60776aa307c9a12ec1d9a7f2dfff79084122b5b1ac40d42ddd8e8ca", func := "linkboy/linkboylaw06.Ipv4Turns", spec := "ipv4Turns", apart := false, narrowed := true }
def Ipv4TurnsUptoSaid : Prop := ipv4TurnsUptoRow.holds Try.pinned (OpenSpec.upto ipv4TurnsSpec)

/-- 'linkboylaw29.TunBounds', WHERE WHAT IT READS IS OF BULK AT MOST 1048576: true; the input reads as it did. -/
def tunBoundsUptoRow : OpenClaim := { program := "ytafajmnlknmfiaa", sum := "3843919ab60776aa307c9a12ec1d9a7f2dfff79084122b5b1ac40d42ddd8e8ca", func := "linkboy/linkboylaw29.TunBounds", spec := "tunBounds", apart := false, narrowed := true }
def TunBoundsUptoSaid : Prop := tunBoundsUptoRow.holds Try.pinned (OpenSpec.upto tunBoundsSpec)

/-- 'linkboylaw29.TunWraps', WHERE WHAT IT READS IS OF BULK AT MOST 1048576: true; the input reads as it did. -/
def tunWrapsUptoRow : OpenClaim := { program := "ytafajmnlknmfiaa", sum := "3843919ab60776aa307c9a12ec1d9a7f2dfff79084122b5b1ac40d42ddd8e8ca", func := "linkboy/linkboylaw29.TunWraps", spec := "tunWraps", apart := false, narrowed := true }
def TunWrapsUptoSaid : Prop := tunWrapsUptoRow.holds Try.pinned (OpenSpec.upto tunWrapsSpec)

/-- 'linkboylaw29.TunBack', WHERE WHAT IT READS IS OF BULK AT MOST 1048576: true; the input reads as it did. -/
def tunBackUptoRow : OpenClaim := { program := "ytafajmnlknmfiaa", sum := "3843919ab60776aa307c9a12ec1d9a7f2dfff79084122b5b1ac40d42ddd8e8ca", func := "linkboy/linkboylaw29.TunBack", spec := "tunBack", apart := false, narrowed := true }
def TunBackUptoSaid : Prop := tunBackUptoRow.holds Try.pinned (OpenSpec.upto tunBackSpec)

/-- 'linkboylaw26.RecvOf', WHERE WHAT IT READS IS OF BULK AT MOST 1048576: true; the input reads as it did. -/
def recvOfUptoRow : OpenClaim := { program := "ytafajmnlknmfiaa", sum := "3843919ab60776aa307c9a12ec1d9a7f2dfff79084122b5b1ac40d42ddd8e8ca", func := "linkboy/linkboylaw26.RecvOf", spec := "recvOf", apart := false, narrowed := true }
def RecvOfUptoSaid : Prop := recvOfUptoRow.holds Try.pinned (OpenSpec.upto recvOfSpec)

/-- 'linkboylaw26.RecvKinds', WHERE WHAT IT READS IS OF BULK AT MOST 1048576: true; the input reads as it did. -/
def recvKindsUptoRow : OpenClaim := { program := "ytafajmnlknmfiaa", sum := "3843919ab60776aa307c9a12ec1d9a7f2dfff79084122b5b1ac40d42ddd8e8ca", func := "linkboy/linkboylaw26.RecvKinds", spec := "recvKinds", apart := false, narrowed := true }
def RecvKindsUptoSaid : Prop := recvKindsUptoRow.holds Try.pinned (OpenSpec.upto recvKindsSpec)

/-- 'linkboylaw30.ErrsTells', WHERE WHAT IT READS IS OF BULK AT MOST 1048576: true; the input reads as it did. -/
def errsTellsUptoRow : OpenClaim := { program := "ytafajmnlknmfiaa", sum := "3843919ab60776aa307c9a12ec1d9a7f2dfff79084122b5b1ac40d42ddd8e8ca", func := "linkboy/linkboylaw30.ErrsTells", spec := "errsTells", apart := false, narrowed := true }
def ErrsTellsUptoSaid : Prop := errsTellsUptoRow.holds Try.pinned (OpenSpec.upto errsTellsSpec)

/-- 'linkboylaw26.RecvBody', WHERE WHAT IT READS IS OF BULK AT MOST 1048576: true; the input reads as it did. -/
def recvBodyUptoRow : OpenClaim := { program := "ytafajmnlknmfiaa", sum := "3843919ab60776aa307c9a12ec1d9a7f2dfff79084122b5b1ac40d42ddd8e8ca", func := "linkboy/linkboylaw26.RecvBody", spec := "recvBody", apart := false, narrowed := true }
def RecvBodyUptoSaid : Prop := recvBodyUptoRow.holds Try.pinned (OpenSpec.upto recvBodySpec)

end Rows
end Go.Proofs.Ytafajmnlknmfiaa
