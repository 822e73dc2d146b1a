/- Closed facts of the program's head, each by itself (a long head costs the kernel much memory otherwise). -/
import Derived.Test.YtdbaehpfjpghfaaG
import Derived.Test.YtdbaehpfjpghfaaU
namespace Go.Proofs.Ytdbaehpfjpghfaa
set_option linter.unusedSimpArgs false
set_option linter.unusedVariables false
open Go.ChangeShapes Go.WideShapes Go.ChangeAt Go.RowKit

/-- The words of a head, one by one. -/
def wordsF : Nat → List Char → List (List Char)
  | 0, _ => []
  | n + 1, l => l.takeWhile (fun c => c.val != 32) :: match l.dropWhile (fun c => c.val != 32) with | [] => [] | _ :: r => wordsF n r
theorem words_cons (c : Char) (r : List Char) : wordsSigns (c :: r) = if c.val = 32 then [] :: wordsSigns r else match wordsSigns r with | w :: ws => (c :: w) :: ws | [] => [[c]] := by
  by_cases h : c.val = 32
  · have : c = Char.ofNat 32 := Char.ext h
    subst this
    rfl
  · rw [if_neg h]
    have hc : c = Char.ofNat 32 → False := fun e => h (by rw [e]; rfl)
    rw [wordsSigns.eq_3 c r hc]
    cases wordsSigns r <;> rfl
theorem words_eq : ∀ (n : Nat) (l : List Char), l.length < n → wordsSigns l = wordsF n l
  | 0, _, h => absurd h (by omega)
  | n + 1, [], _ => rfl
  | n + 1, c :: r, h => by
    rw [words_cons]
    by_cases hc : c.val = 32
    · rw [if_pos hc, words_eq n r (by simp at h; omega)]
      simp [wordsF, hc]
    · rw [if_neg hc, words_eq (n + 1) r (by simp at h; omega)]
      simp [wordsF, hc]
theorem toList_of {s : String} {l : List Char} (h : s = String.ofList l) : s.toList = l := by
  rw [h]
  exact String.toList_ofList
def headB : List (List Char) → Bool
  | a :: s :: c :: _ => a == "harness".toList && isSumSigns s && c == "cut".toList
  | _ => false
theorem headB_iff {ws : List (List Char)} (h : headB ws = true) : ∃ s r, ws = "harness".toList :: s :: "cut".toList :: r ∧ isSumSigns s = true := by
  unfold headB at h
  split at h
  · rename_i a s c r
    simp only [Bool.and_eq_true, beq_iff_eq] at h
    obtain ⟨⟨rfl, h2⟩, rfl⟩ := h
    exact ⟨s, r, rfl, h2⟩
  · cases h
theorem head_of {s : String} (l : List Char) (h : s = String.ofList l) (hl : decide (l.length < 20000) = true) (hb : headB (wordsF 20000 l) = true) : ∃ t r, wordsSigns s.toList = "harness".toList :: t :: "cut".toList :: r ∧ isSumSigns t = true := by
  rw [toList_of h, words_eq 20000 l (of_decide_eq_true hl)]
  exact headB_iff hb
set_option maxRecDepth 100000 in
theorem Try.head : ∃ t r, wordsSigns Try.prog.initOrder.toList = "harness".toList :: t :: "cut".toList :: r ∧ isSumSigns t = true := by
  show ∃ t r, wordsSigns Try.progTables.initOrder.toList = "harness".toList :: t :: "cut".toList :: r ∧ isSumSigns t = true
  unfold Try.progTables
  dsimp only
  exact head_of _ rfl (by kernel_rfl) (by kernel_rfl)
theorem Try.behind : ∃ r, behindMainWord (wordsSigns Try.prog.initOrder.toList) = "cut".toList :: r := by
  obtain ⟨t, r, h1, h2⟩ := Try.head
  refine ⟨r, ?_⟩
  rw [h1]
  show (if ("harness".toList == "harness".toList || "harness".toList == "ownmain".toList) && isSumSigns t then "cut".toList :: r else _) = _
  rw [h2]
  rfl
theorem strip_cut (r : List (List Char)) : stripLifts liftWords ("cut".toList :: r) = ([], "cut".toList :: r) := by kernel_rfl
theorem make_of {P : Program} {r : List (List Char)} (h : behindMainWord (wordsSigns P.initOrder.toList) = "cut".toList :: r) : P.make = some .cut := by
  unfold Program.make
  rw [h]
  simp only [show ("cut".toList == "gc".toList) = false by decide, show ("cut".toList == "spec".toList) = false by decide, beq_self_eq_true, Bool.or_self, Bool.false_eq_true, if_false, Bool.true_or, if_true]
theorem lifts_of {P : Program} {r : List (List Char)} (h : behindMainWord (wordsSigns P.initOrder.toList) = "cut".toList :: r) : P.liftsFinal = false := by
  unfold Program.liftsFinal Program.headLifts
  rw [h]
  simp only [strip_cut, List.head?_cons, show (some "cut".toList == some "carried".toList) = false by decide, Bool.false_and, Bool.false_or]
  split <;> rfl
theorem enter_of {P : Program} {r : List (List Char)} (h : behindMainWord (wordsSigns P.initOrder.toList) = "cut".toList :: r) (h1 : P.laysLater = false) (h2 : P.bearsReflect = false) (h3 : P.doorFits [] = true) : P.mayEnter = true := by
  unfold Program.mayEnter
  rw [h]
  simp only [strip_cut, List.head?_cons, List.contains_nil, h1, h2, h3]
  simp
theorem Try.laysLater : Try.prog.laysLater = false := by kernel_rfl
theorem Try.bears : Try.prog.bearsReflect = false := by kernel_rfl
theorem Try.door : Try.prog.doorFits [] = true := by kernel_rfl
theorem Try.mayEnter : Try.prog.mayEnter = true := by
  obtain ⟨r, h⟩ := Try.behind
  exact enter_of h Try.laysLater Try.bears Try.door
theorem Try.lifts : Try.prog.liftsFinal = false := by
  obtain ⟨r, h⟩ := Try.behind
  exact lifts_of h
theorem Try.makeIs : Try.prog.make = some .cut := by
  obtain ⟨r, h⟩ := Try.behind
  exact make_of h
theorem Try.stopsHeard : Try.prog.stopsHeard = true := by kernel_rfl
theorem Try.plainKeysIs : Try.prog.plainKeys = true := by kernel_rfl
theorem Try.mapsRowed : mapsRowed Try.prog = true := by kernel_rfl
theorem Try.stopsNone : (Try.prog.stops == []) = true := by kernel_rfl
theorem Try.knobsNone : (Try.prog.stopKnobs == []) = true := by kernel_rfl

/-- The closed facts of a row, one by one. -/
theorem joined_mk {P : Program} {f : FuncId} {fn : Func} {s : ChangeSpec} {c : OpenClaim} (k1 : c.wf (OpenSpec.ofChange s) = true) (k2 : laidOutB P = true) (k3 : Go.mapsRowed P = true) (k4 : fn.params.all (P.readableRec ·) = true) (k5 : namedTie P c.named s.vars = true)
    (k6 : (c.stops == []) = true) (k7 : (P.stops == []) = true) (k8 : (c.knobs == []) = true) (k9 : (P.stopKnobs == []) = true) (k10 : (c.inPlace == P.inPlace f) = true) (k11 : (c.unfollowed == P.unfollowed f) = true) (k12 : (c.recurses == P.recurses f) = true) (k13 : (c.named == P.varsNamed f) = true)
    (k14 : (c.maps == (fn.params.toList ++ s.plain.varTypes P).any (P.mapsRec ·)) = true) (k15 : (c.ifaces == (fn.params.toList ++ s.plain.varTypes P).any (P.ifacesRec ·)) = true) (k16 : (c.mapsOut == P.mapsAmong fn.resultTypes.toList) = true)
    (k17 : (c.loops == (fn.params.toList ++ s.plain.varTypes P).any (P.loopsFrom ·)) = true) (k18 : (c.wideKeys == (fn.params.toList ++ s.plain.varTypes P ++ fn.resultTypes.toList).any (P.wideKeysFrom ·)) = true)
    (k19 : s.vars.all (P.varReadable ·) = true) (k20 : fn.resultTypes.all (fun t => P.readableRec t && decide (t < P.types.size)) = true) (k21 : (c.ifacesOut == fn.resultTypes.toList.any (P.ifacesRec ·)) = true) (k22 : (c.loopsOut == fn.resultTypes.toList.any (P.loopsFrom ·)) = true)
    (k23 : (c.plainKeys == P.plainKeys) = true) (k24 : c.shortTexts.isNone = true) (k25 : P.stopsHeard = true) (k26 : P.mayEnter = true) (k27 : (c.lifted == P.liftsFinal) = true) (k28 : (P.make == some c.make) = true)
    (k29 : (c.kinds == (if c.domain.isEmpty then [] else fn.params.toList.map fun t => match P.underlying t with | some (.int k) => some k | _ => none)) = true) (k30 : (c.pinned == c.pinnedBy) = true)
    (k31 : (c.veiled == (fn.params.toList ++ s.plain.varTypes P ++ fn.resultTypes.toList).any (P.veiledRec ·)) = true) (k32 : c.veiledFits P fn.params.toList (fn.params.toList ++ s.plain.varTypes P ++ fn.resultTypes.toList) = true) : joinedFacts P f fn s c = true := by
  unfold joinedFacts
  simp only [Bool.and_eq_true]
  exact ⟨⟨⟨⟨⟨⟨⟨⟨⟨⟨⟨⟨⟨⟨⟨⟨⟨⟨⟨⟨⟨⟨⟨⟨⟨⟨⟨⟨⟨⟨⟨k1, k2⟩, k3⟩, k4⟩, k5⟩, k6⟩, k7⟩, k8⟩, k9⟩, k10⟩, k11⟩, k12⟩, k13⟩, k14⟩, k15⟩, k16⟩, k17⟩, k18⟩, k19⟩, k20⟩, k21⟩, k22⟩, k23⟩, k24⟩, k25⟩, k26⟩, k27⟩, k28⟩, k29⟩, k30⟩, k31⟩, k32⟩
end Go.Proofs.Ytdbaehpfjpghfaa
