/-
  No cell of these rows narrows 'for every input' (looked for: loops, veiled, ifaces, maps, wideKeys, modest, calm, conditions, laid).
  DERIVED. THE GIVEN ROWS OF THIS SEAT. 13 by the template 'for every input the law returns true; each argument reads behind the call as it read before'; 0 by the template 'total and deterministic' (their statements: YtmdaajlcikmnaaaTotals.lean).
  GIVEN WITH THE SEED: the statements are not yours to turn. If you find one false, say at which input.
  Laid BY PROGRAM, IN A SANDBOX (cutbox-rows.mjs): the forced cells as the released guide's own fill.sh prints them over the translation 71d411a5e40af5c5… (all of the seat's roots in one cut). By AI agents, Wed Nov 11 2026. No macro, syntax, notation, axiom, sorry.
-/
import Derived.Test.YtmdaajlcikmnaaaChecked
import GoSem.Claim
import GoSem.ClaimJoined
import GoSem.ClaimMapViews
import Derived.JoinedTies
import Derived.KernelRfl
namespace Go.Proofs.Ytmdaajlcikmnaaa
/- THE CELL 'sum', in the pinned program and in every row, IS THE sha256 OF THE DUMP (.gsa) THAT YtmdaajlcikmnaaaProg.lean LOADS. Nothing in Lean hashes anything: it is a label: what it is worth is what the hold of that sum in a sandbox is worth. -/
noncomputable def Try.pinned : Pinned := { name := "ytmdaajlcikmnaaa", sum := "71d411a5e40af5c5b0704b2c9a16688704de5e303914b9c2c1d123053b4637cc", checked := Try.checked }
namespace Rows
def none {H : Type} : Left H := { results := [], args := [] }

/-- 'linkboylaw28.SpliceApplies': WHATEVER THE INPUT: true; the input reads as it did. -/
def spliceAppliesSpec : ChangeSpec := { name := "spliceApplies", fn := fun _ => fun
  | [d1, d2, d3, d4, d5] => { results := [.lit (.bool true)], args := [d1, d2, d3, d4, d5] }
  | _ => none }
def spliceAppliesRow : OpenClaim := { program := "ytmdaajlcikmnaaa", sum := "71d411a5e40af5c5b0704b2c9a16688704de5e303914b9c2c1d123053b4637cc", func := "linkboy/linkboylaw28.SpliceApplies", spec := "spliceApplies", apart := false }
def SpliceAppliesSaid : Prop := spliceAppliesRow.holds Try.pinned (OpenSpec.ofChange spliceAppliesSpec)

/-- ITS FALSE NEIGHBOUR: 'it returns false'. Refute it at one input. -/
def spliceAppliesWrong : ChangeSpec := { name := "spliceApplies", fn := fun _ => fun
  | [d1, d2, d3, d4, d5] => { results := [.lit (.bool false)], args := [d1, d2, d3, d4, d5] }
  | _ => none }
def SpliceAppliesWrongFalsely : Prop := spliceAppliesRow.holds Try.pinned (OpenSpec.ofChange spliceAppliesWrong)

/-- 'linkboylaw02.SumOf': WHATEVER THE INPUT: true; the input reads as it did. -/
def sumOfSpec : ChangeSpec := { name := "sumOf", fn := fun _ => fun
  | [d1, d2, d3] => { results := [.lit (.bool true)], args := [d1, d2, d3] }
  | _ => none }
def sumOfRow : OpenClaim := { program := "ytmdaajlcikmnaaa", sum := "71d411a5e40af5c5b0704b2c9a16688704de5e303914b9c2c1d123053b4637cc", func := "linkboy/linkboylaw02.SumOf", spec := "sumOf", apart := false }
def SumOfSaid : Prop := sumOfRow.holds Try.pinned (OpenSpec.ofChange sumOfSpec)

/-- ITS FALSE NEIGHBOUR: 'it returns false'. Refute it at one input. -/
def sumOfWrong : ChangeSpec := { name := "sumOf", fn := fun _ => fun
  | [d1, d2, d3] => { results := [.lit (.bool false)], args := [d1, d2, d3] }
  | _ => none }
def SumOfWrongFalsely : Prop := sumOfRow.holds Try.pinned (OpenSpec.ofChange sumOfWrong)

/-- 'linkboylaw02.SumFills': WHATEVER THE INPUT: true; the input reads as it did. -/
def sumFillsSpec : ChangeSpec := { name := "sumFills", fn := fun _ => fun
  | [d1, d2] => { results := [.lit (.bool true)], args := [d1, d2] }
  | _ => none }
def sumFillsRow : OpenClaim := { program := "ytmdaajlcikmnaaa", sum := "71d411a5e40af5c5b0704b2c9a16688704de5e303914b9c2c1d123053b4637cc", func := "linkboy/linkboylaw02.SumFills", spec := "sumFills", apart := false }
def SumFillsSaid : Prop := sumFillsRow.holds Try.pinned (OpenSpec.ofChange sumFillsSpec)

/-- ITS FALSE NEIGHBOUR: 'it returns false'. Refute it at one input. -/
def sumFillsWrong : ChangeSpec := { name := "sumFills", fn := fun _ => fun
  | [d1, d2] => { results := [.lit (.bool false)], args := [d1, d2] }
  | _ => none }
def SumFillsWrongFalsely : Prop := sumFillsRow.holds Try.pinned (OpenSpec.ofChange sumFillsWrong)

/-- 'linkboylaw11.FlowOf': WHATEVER THE INPUT: true; the input reads as it did. -/
def flowOfSpec : ChangeSpec := { name := "flowOf", fn := fun _ => fun
  | [d] => { results := [.lit (.bool true)], args := [d] }
  | _ => none }
def flowOfRow : OpenClaim := { program := "ytmdaajlcikmnaaa", sum := "71d411a5e40af5c5b0704b2c9a16688704de5e303914b9c2c1d123053b4637cc", func := "linkboy/linkboylaw11.FlowOf", spec := "flowOf", apart := false }
def FlowOfSaid : Prop := flowOfRow.holds Try.pinned (OpenSpec.ofChange flowOfSpec)

/-- ITS FALSE NEIGHBOUR: 'it returns false'. Refute it at one input. -/
def flowOfWrong : ChangeSpec := { name := "flowOf", fn := fun _ => fun
  | [d] => { results := [.lit (.bool false)], args := [d] }
  | _ => none }
def FlowOfWrongFalsely : Prop := flowOfRow.holds Try.pinned (OpenSpec.ofChange flowOfWrong)

/-- 'linkboylaw28.SpliceBack': WHATEVER THE INPUT: true; the input reads as it did. -/
def spliceBackSpec : ChangeSpec := { name := "spliceBack", fn := fun _ => fun
  | [d1, d2] => { results := [.lit (.bool true)], args := [d1, d2] }
  | _ => none }
def spliceBackRow : OpenClaim := { program := "ytmdaajlcikmnaaa", sum := "71d411a5e40af5c5b0704b2c9a16688704de5e303914b9c2c1d123053b4637cc", func := "linkboy/linkboylaw28.SpliceBack", spec := "spliceBack", apart := false }
def SpliceBackSaid : Prop := spliceBackRow.holds Try.pinned (OpenSpec.ofChange spliceBackSpec)

/-- ITS FALSE NEIGHBOUR: 'it returns false'. Refute it at one input. -/
def spliceBackWrong : ChangeSpec := { name := "spliceBack", fn := fun _ => fun
  | [d1, d2] => { results := [.lit (.bool false)], args := [d1, d2] }
  | _ => none }
def SpliceBackWrongFalsely : Prop := spliceBackRow.holds Try.pinned (OpenSpec.ofChange spliceBackWrong)

/-- 'linkboylaw02.SumKeeps': WHATEVER THE INPUT: true; the input reads as it did. -/
def sumKeepsSpec : ChangeSpec := { name := "sumKeeps", fn := fun _ => fun
  | [d1, d2, d3] => { results := [.lit (.bool true)], args := [d1, d2, d3] }
  | _ => none }
def sumKeepsRow : OpenClaim := { program := "ytmdaajlcikmnaaa", sum := "71d411a5e40af5c5b0704b2c9a16688704de5e303914b9c2c1d123053b4637cc", func := "linkboy/linkboylaw02.SumKeeps", spec := "sumKeeps", apart := false }
def SumKeepsSaid : Prop := sumKeepsRow.holds Try.pinned (OpenSpec.ofChange sumKeepsSpec)

/-- ITS FALSE NEIGHBOUR: 'it returns false'. Refute it at one input. -/
def sumKeepsWrong : ChangeSpec := { name := "sumKeeps", fn := fun _ => fun
  | [d1, d2, d3] => { results := [.lit (.bool false)], args := [d1, d2, d3] }
  | _ => none }
def SumKeepsWrongFalsely : Prop := sumKeepsRow.holds Try.pinned (OpenSpec.ofChange sumKeepsWrong)

/-- 'linkboylaw02.SumTurns': WHATEVER THE INPUT: true; the input reads as it did. -/
def sumTurnsSpec : ChangeSpec := { name := "sumTurns", fn := fun _ => fun
  | [d1, d2, d3, d4, d5, d6] => { results := [.lit (.bool true)], args := [d1, d2, d3, d4, d5, d6] }
  | _ => none }
def sumTurnsRow : OpenClaim := { program := "ytmdaajlcikmnaaa", sum := "71d411a5e40af5c5b0704b2c9a16688704de5e303914b9c2c1d123053b4637cc", func := "linkboy/linkboylaw02.SumTurns", spec := "sumTurns", apart := false }
def SumTurnsSaid : Prop := sumTurnsRow.holds Try.pinned (OpenSpec.ofChange sumTurnsSpec)

/-- ITS FALSE NEIGHBOUR: 'it returns false'. Refute it at one input. -/
def sumTurnsWrong : ChangeSpec := { name := "sumTurns", fn := fun _ => fun
  | [d1, d2, d3, d4, d5, d6] => { results := [.lit (.bool false)], args := [d1, d2, d3, d4, d5, d6] }
  | _ => none }
def SumTurnsWrongFalsely : Prop := sumTurnsRow.holds Try.pinned (OpenSpec.ofChange sumTurnsWrong)

/-- 'linkboylaw01.OctetGets': WHATEVER THE INPUT: true; the input reads as it did. -/
def octetGetsSpec : ChangeSpec := { name := "octetGets", fn := fun _ => fun
  | [d1, d2] => { results := [.lit (.bool true)], args := [d1, d2] }
  | _ => none }
def octetGetsRow : OpenClaim := { program := "ytmdaajlcikmnaaa", sum := "71d411a5e40af5c5b0704b2c9a16688704de5e303914b9c2c1d123053b4637cc", func := "linkboy/linkboylaw01.OctetGets", spec := "octetGets", apart := false }
def OctetGetsSaid : Prop := octetGetsRow.holds Try.pinned (OpenSpec.ofChange octetGetsSpec)

/-- ITS FALSE NEIGHBOUR: 'it returns false'. Refute it at one input. -/
def octetGetsWrong : ChangeSpec := { name := "octetGets", fn := fun _ => fun
  | [d1, d2] => { results := [.lit (.bool false)], args := [d1, d2] }
  | _ => none }
def OctetGetsWrongFalsely : Prop := octetGetsRow.holds Try.pinned (OpenSpec.ofChange octetGetsWrong)

/-- 'linkboylaw01.OctetPuts': WHATEVER THE INPUT: true; the input reads as it did. -/
def octetPutsSpec : ChangeSpec := { name := "octetPuts", fn := fun _ => fun
  | [d1, d2, d3, d4, d5] => { results := [.lit (.bool true)], args := [d1, d2, d3, d4, d5] }
  | _ => none }
def octetPutsRow : OpenClaim := { program := "ytmdaajlcikmnaaa", sum := "71d411a5e40af5c5b0704b2c9a16688704de5e303914b9c2c1d123053b4637cc", func := "linkboy/linkboylaw01.OctetPuts", spec := "octetPuts", apart := false }
def OctetPutsSaid : Prop := octetPutsRow.holds Try.pinned (OpenSpec.ofChange octetPutsSpec)

/-- ITS FALSE NEIGHBOUR: 'it returns false'. Refute it at one input. -/
def octetPutsWrong : ChangeSpec := { name := "octetPuts", fn := fun _ => fun
  | [d1, d2, d3, d4, d5] => { results := [.lit (.bool false)], args := [d1, d2, d3, d4, d5] }
  | _ => none }
def OctetPutsWrongFalsely : Prop := octetPutsRow.holds Try.pinned (OpenSpec.ofChange octetPutsWrong)

/-- 'linkboylaw01.OctetCuts': WHATEVER THE INPUT: true; the input reads as it did. -/
def octetCutsSpec : ChangeSpec := { name := "octetCuts", fn := fun _ => fun
  | [d1, d2, d3, d4] => { results := [.lit (.bool true)], args := [d1, d2, d3, d4] }
  | _ => none }
def octetCutsRow : OpenClaim := { program := "ytmdaajlcikmnaaa", sum := "71d411a5e40af5c5b0704b2c9a16688704de5e303914b9c2c1d123053b4637cc", func := "linkboy/linkboylaw01.OctetCuts", spec := "octetCuts", apart := false }
def OctetCutsSaid : Prop := octetCutsRow.holds Try.pinned (OpenSpec.ofChange octetCutsSpec)

/-- ITS FALSE NEIGHBOUR: 'it returns false'. Refute it at one input. -/
def octetCutsWrong : ChangeSpec := { name := "octetCuts", fn := fun _ => fun
  | [d1, d2, d3, d4] => { results := [.lit (.bool false)], args := [d1, d2, d3, d4] }
  | _ => none }
def OctetCutsWrongFalsely : Prop := octetCutsRow.holds Try.pinned (OpenSpec.ofChange octetCutsWrong)

/-- 'linkboylaw01.OctetHex': WHATEVER THE INPUT: true; the input reads as it did. -/
def octetHexSpec : ChangeSpec := { name := "octetHex", fn := fun _ => fun
  | [d1, d2] => { results := [.lit (.bool true)], args := [d1, d2] }
  | _ => none }
def octetHexRow : OpenClaim := { program := "ytmdaajlcikmnaaa", sum := "71d411a5e40af5c5b0704b2c9a16688704de5e303914b9c2c1d123053b4637cc", func := "linkboy/linkboylaw01.OctetHex", spec := "octetHex", inPlace := ["internal/bytealg.IndexByteString"], apart := false }
def OctetHexSaid : Prop := octetHexRow.holds Try.pinned (OpenSpec.ofChange octetHexSpec)

/-- ITS FALSE NEIGHBOUR: 'it returns false'. Refute it at one input. -/
def octetHexWrong : ChangeSpec := { name := "octetHex", fn := fun _ => fun
  | [d1, d2] => { results := [.lit (.bool false)], args := [d1, d2] }
  | _ => none }
def OctetHexWrongFalsely : Prop := octetHexRow.holds Try.pinned (OpenSpec.ofChange octetHexWrong)

/-- 'linkboylaw11.FlowOrder': WHATEVER THE INPUT: true; the input reads as it did. -/
def flowOrderSpec : ChangeSpec := { name := "flowOrder", fn := fun _ => fun
  | [d1, d2, d3] => { results := [.lit (.bool true)], args := [d1, d2, d3] }
  | _ => none }
def flowOrderRow : OpenClaim := { program := "ytmdaajlcikmnaaa", sum := "71d411a5e40af5c5b0704b2c9a16688704de5e303914b9c2c1d123053b4637cc", func := "linkboy/linkboylaw11.FlowOrder", spec := "flowOrder", inPlace := ["internal/bytealg.Compare"], apart := false }
def FlowOrderSaid : Prop := flowOrderRow.holds Try.pinned (OpenSpec.ofChange flowOrderSpec)

/-- ITS FALSE NEIGHBOUR: 'it returns false'. Refute it at one input. -/
def flowOrderWrong : ChangeSpec := { name := "flowOrder", fn := fun _ => fun
  | [d1, d2, d3] => { results := [.lit (.bool false)], args := [d1, d2, d3] }
  | _ => none }
def FlowOrderWrongFalsely : Prop := flowOrderRow.holds Try.pinned (OpenSpec.ofChange flowOrderWrong)

/-- 'linkboylaw11.FlowBytes': WHATEVER THE INPUT: true; the input reads as it did. -/
def flowBytesSpec : ChangeSpec := { name := "flowBytes", fn := fun _ => fun
  | [d1, d2] => { results := [.lit (.bool true)], args := [d1, d2] }
  | _ => none }
def flowBytesRow : OpenClaim := { program := "ytmdaajlcikmnaaa", sum := "71d411a5e40af5c5b0704b2c9a16688704de5e303914b9c2c1d123053b4637cc", func := "linkboy/linkboylaw11.FlowBytes", spec := "flowBytes", inPlace := ["internal/bytealg.Compare"], apart := false }
def FlowBytesSaid : Prop := flowBytesRow.holds Try.pinned (OpenSpec.ofChange flowBytesSpec)

/-- ITS FALSE NEIGHBOUR: 'it returns false'. Refute it at one input. -/
def flowBytesWrong : ChangeSpec := { name := "flowBytes", fn := fun _ => fun
  | [d1, d2] => { results := [.lit (.bool false)], args := [d1, d2] }
  | _ => none }
def FlowBytesWrongFalsely : Prop := flowBytesRow.holds Try.pinned (OpenSpec.ofChange flowBytesWrong)

/- THE SECOND FORM. 'bulk': how many values and letters a reading holds, each counted each time it is reached (what is shared counts as often as it is met; a slice's spare places count too). A statement '..UptoSaid' is the law's where the arguments, and the package variables that the reading takes, are together of bulk at most 1048576: NARROWER than '..Said'. Prove '..Said' where nothing that the law and all that it calls make is longer than what came in: it says more and counts as full. Else prove '..UptoSaid'. A law counts once. -/
mutual
def uptoBulk {H : Type} : DataW H → Nat
  | .lit (.string bytes) => bytes.length + 1
  | .lit _ => 1
  | .nil => 1
  | .ptr d => uptoBulk d + 1
  | .slice elems spare => uptoBulkAll elems + uptoBulkAll spare + 1
  | .agg parts => uptoBulkAll parts + 1
  | .iface _ d => uptoBulk d + 1
  | .map entries => uptoBulkEntries entries + 1
  | .held _ => 1
def uptoBulkAll {H : Type} : List (DataW H) → Nat
  | [] => 0
  | d :: r => uptoBulk d + uptoBulkAll r
def uptoBulkEntries {H : Type} : List (Lit × DataW H) → Nat
  | [] => 0
  | x :: r => uptoBulkEntry x + uptoBulkEntries r
def uptoBulkEntry {H : Type} : Lit × DataW H → Nat
  | (.string bytes, d) => bytes.length + uptoBulk d + 1
  | (_, d) => uptoBulk d + 1
 end
def uptoSmall : (H : Type) → List (DataW H) → Bool := fun _ ds => decide (uptoBulkAll ds ≤ 1048576)
def OpenSpec.upto (s : _root_.Go.ChangeSpec) : _root_.Go.OpenSpec := { _root_.Go.OpenSpec.ofChange s with cond := some uptoSmall }

/-- 'linkboylaw28.SpliceApplies', WHERE WHAT IT READS IS OF BULK AT MOST 1048576: true; the input reads as it did. -/
def spliceAppliesUptoRow : OpenClaim := { program := "ytmdaajlcikmnaaa", sum := "71d411a5e40af5c5b0704b2c9a16688704de5e303914b9c2c1d123053b4637cc", func := "linkboy/linkboylaw28.SpliceApplies", spec := "spliceApplies", apart := false, narrowed := true }
def SpliceAppliesUptoSaid : Prop := spliceAppliesUptoRow.holds Try.pinned (OpenSpec.upto spliceAppliesSpec)

/-- 'linkboylaw02.SumOf', WHERE WHAT IT READS IS OF BULK AT MOST 1048576: true; the input reads as it did. -/
def sumOfUptoRow : OpenClaim := { program := "ytmdaajlcikmnaaa", sum := "71d411a5e40af5c5b0704b2c9a16688704de5e303914b9c2c1d123053b4637cc", func := "linkboy/linkboylaw02.SumOf", spec := "sumOf", apart := false, narrowed := true }
def SumOfUptoSaid : Prop := sumOfUptoRow.holds Try.pinned (OpenSpec.upto sumOfSpec)

/-- 'linkboylaw02.SumFills', WHERE WHAT IT READS IS OF BULK AT MOST 1048576: true; the input reads as it did. -/
def sumFillsUptoRow : OpenClaim := { program := "ytmdaajlcikmnaaa", sum := "71d411a5e40af5c5b0704b2c9a16688704de5e303914b9c2c1d123053b4637cc", func := "linkboy/linkboylaw02.SumFills", spec := "sumFills", apart := false, narrowed := true }
def SumFillsUptoSaid : Prop := sumFillsUptoRow.holds Try.pinned (OpenSpec.upto sumFillsSpec)

/-- 'linkboylaw11.FlowOf', WHERE WHAT IT READS IS OF BULK AT MOST 1048576: true; the input reads as it did. -/
def flowOfUptoRow : OpenClaim := { program := "ytmdaajlcikmnaaa", sum := "71d411a5e40af5c5b0704b2c9a16688704de5e303914b9c2c1d123053b4637cc", func := "linkboy/linkboylaw11.FlowOf", spec := "flowOf", apart := false, narrowed := true }
def FlowOfUptoSaid : Prop := flowOfUptoRow.holds Try.pinned (OpenSpec.upto flowOfSpec)

/-- 'linkboylaw28.SpliceBack', WHERE WHAT IT READS IS OF BULK AT MOST 1048576: true; the input reads as it did. -/
def spliceBackUptoRow : OpenClaim := { program := "ytmdaajlcikmnaaa", sum := "71d411a5e40af5c5b0704b2c9a16688704de5e303914b9c2c1d123053b4637cc", func := "linkboy/linkboylaw28.SpliceBack", spec := "spliceBack", apart := false, narrowed := true }
def SpliceBackUptoSaid : Prop := spliceBackUptoRow.holds Try.pinned (OpenSpec.upto spliceBackSpec)

/-- 'linkboylaw02.SumKeeps', WHERE WHAT IT READS IS OF BULK AT MOST 1048576: true; the input reads as it did. -/
def sumKeepsUptoRow : OpenClaim := { program := "ytmdaajlcikmnaaa", sum := "71d411a5e40af5c5b0704b2c9a16688704de5e303914b9c2c1d123053b4637cc", func := "linkboy/linkboylaw02.SumKeeps", spec := "sumKeeps", apart := false, narrowed := true }
def SumKeepsUptoSaid : Prop := sumKeepsUptoRow.holds Try.pinned (OpenSpec.upto sumKeepsSpec)

/-- 'linkboylaw02.SumTurns', WHERE WHAT IT READS IS OF BULK AT MOST 1048576: true; the input reads as it did. -/
def sumTurnsUptoRow : OpenClaim := { program := "ytmdaajlcikmnaaa", sum := "71d411a5e40af5c5b0704b2c9a16688704de5e303914b9c2c1d123053b4637cc", func := "linkboy/linkboylaw02.SumTurns", spec := "sumTurns", apart := false, narrowed := true }
def SumTurnsUptoSaid : Prop := sumTurnsUptoRow.holds Try.pinned (OpenSpec.upto sumTurnsSpec)

/-- 'linkboylaw01.OctetGets', WHERE WHAT IT READS IS OF BULK AT MOST 1048576: true; the input reads as it did. -/
def octetGetsUptoRow : OpenClaim := { program := "ytmdaajlcikmnaaa", sum := "71d411a5e40af5c5b0704b2c9a16688704de5e303914b9c2c1d123053b4637cc", func := "linkboy/linkboylaw01.OctetGets", spec := "octetGets", apart := false, narrowed := true }
def OctetGetsUptoSaid : Prop := octetGetsUptoRow.holds Try.pinned (OpenSpec.upto octetGetsSpec)

/-- 'linkboylaw01.OctetPuts', WHERE WHAT IT READS IS OF BULK AT MOST 1048576: true; the input reads as it did. -/
def octetPutsUptoRow : OpenClaim := { program := "ytmdaajlcikmnaaa", sum := "71d411a5e40af5c5b0704b2c9a16688704de5e303914b9c2c1d123053b4637cc", func := "linkboy/linkboylaw01.OctetPuts", spec := "octetPuts", apart := false, narrowed := true }
def OctetPutsUptoSaid : Prop := octetPutsUptoRow.holds Try.pinned (OpenSpec.upto octetPutsSpec)

/-- 'linkboylaw01.OctetCuts', WHERE WHAT IT READS IS OF BULK AT MOST 1048576: true; the input reads as it did. -/
def octetCutsUptoRow : OpenClaim := { program := "ytmdaajlcikmnaaa", sum := "71d411a5e40af5c5b0704b2c9a16688704de5e303914b9c2c1d123053b4637cc", func := "linkboy/linkboylaw01.OctetCuts", spec := "octetCuts", apart := false, narrowed := true }
def OctetCutsUptoSaid : Prop := octetCutsUptoRow.holds Try.pinned (OpenSpec.upto octetCutsSpec)

/-- 'linkboylaw01.OctetHex', WHERE WHAT IT READS IS OF BULK AT MOST 1048576: true; the input reads as it did. -/
def octetHexUptoRow : OpenClaim := { program := "ytmdaajlcikmnaaa", sum := "71d411a5e40af5c5b0704b2c9a16688704de5e303914b9c2c1d123053b4637cc", func := "linkboy/linkboylaw01.OctetHex", spec := "octetHex", inPlace := ["internal/bytealg.IndexByteString"], apart := false, narrowed := true }
def OctetHexUptoSaid : Prop := octetHexUptoRow.holds Try.pinned (OpenSpec.upto octetHexSpec)

/-- 'linkboylaw11.FlowOrder', WHERE WHAT IT READS IS OF BULK AT MOST 1048576: true; the input reads as it did. -/
def flowOrderUptoRow : OpenClaim := { program := "ytmdaajlcikmnaaa", sum := "71d411a5e40af5c5b0704b2c9a16688704de5e303914b9c2c1d123053b4637cc", func := "linkboy/linkboylaw11.FlowOrder", spec := "flowOrder", inPlace := ["internal/bytealg.Compare"], apart := false, narrowed := true }
def FlowOrderUptoSaid : Prop := flowOrderUptoRow.holds Try.pinned (OpenSpec.upto flowOrderSpec)

/-- 'linkboylaw11.FlowBytes', WHERE WHAT IT READS IS OF BULK AT MOST 1048576: true; the input reads as it did. -/
def flowBytesUptoRow : OpenClaim := { program := "ytmdaajlcikmnaaa", sum := "71d411a5e40af5c5b0704b2c9a16688704de5e303914b9c2c1d123053b4637cc", func := "linkboy/linkboylaw11.FlowBytes", spec := "flowBytes", inPlace := ["internal/bytealg.Compare"], apart := false, narrowed := true }
def FlowBytesUptoSaid : Prop := flowBytesUptoRow.holds Try.pinned (OpenSpec.upto flowBytesSpec)

end Rows
end Go.Proofs.Ytmdaajlcikmnaaa
