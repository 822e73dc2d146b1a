/- The frame of a law's statement: from a walk that only makes the world grow to the given row. No program in sight. -/
import Derived.Test.YthjojkkapboonaaA
import Derived.ProofKit
import Derived.OpenShut
import Derived.ShutString
import Derived.ChangeOld
import Derived.Carry
import Derived.Below
namespace Go.Proofs.Ythjojkkapboonaa
set_option linter.unusedSimpArgs false
set_option linter.unusedVariables false
open Go.ChangeShapes Go.WideShapes Go.ChangeAt Go.RowKit

/-- These cells read as data of that type. -/
def RdC (P : Program) (W : World) (t : TypeId) (cs : List Value) : Prop :=
  ∃ (H : Type) (enc : TypeId × Value → H) (fuel : Nat) (x : DataW H × List MemPlace), DataW.trod enc P W 0 (fun _ => true) true fuel t cs = some x

/-- An argument as it is handed over. -/
def Arg (P : Program) (W : World) (t : TypeId) (v : Value) : Prop := (∃ base, Value.okWide P W .any base t v) ∧ RdC P W t v.cells.toList

def Args (P : Program) (W : World) : List TypeId → List Value → Prop
  | [], [] => True
  | t :: ts, v :: vs => Arg P W t v ∧ Args P W ts vs
  | _, _ => False

theorem Args.cons {P : Program} {W : World} {t : TypeId} {ts : List TypeId} : ∀ {vs : List Value}, Args P W (t :: ts) vs → ∃ v vs', vs = v :: vs' ∧ Arg P W t v ∧ Args P W ts vs'
  | v :: vs', h => ⟨v, vs', rfl, h.1, h.2⟩
  | [], h => h.elim
theorem Args.nil {P : Program} {W : World} : ∀ {vs : List Value}, Args P W [] vs → vs = []
  | [], _ => rfl
  | _ :: _, h => h.elim

section
variable {P : Program} {W : World}

theorem RdC.int {t : TypeId} {k : IntKind} {cs : List Value} (ht : P.underlying t = some (.int k)) (h : RdC P W t cs) : ∃ n, cs = [.int k n] ∧ (Lit.int k n).wf = true := by
  obtain ⟨H, enc, fuel, x, hx⟩ := h
  obtain ⟨n, h1, h2, h3⟩ := DataW.trod_int ht hx
  exact ⟨n, h1, h3⟩
theorem RdC.bool {t : TypeId} {cs : List Value} (ht : P.underlying t = some .bool) (h : RdC P W t cs) : ∃ b, cs = [.bool b] := by
  obtain ⟨H, enc, fuel, x, hx⟩ := h
  obtain ⟨n, h1, h2⟩ := DataW.trod_bool ht hx
  exact ⟨n, h1⟩
theorem RdC.string {t : TypeId} {cs : List Value} (ht : P.underlying t = some .string) (h : RdC P W t cs) : ∃ s, cs = [.string s] ∧ s.size ≤ maxLen := by
  obtain ⟨H, enc, fuel, x, hx⟩ := h
  obtain ⟨n, h1, h2, h3⟩ := DataW.trod_string ht hx
  exact ⟨n, h1, by first | exact h3 | exact h2⟩
theorem RdC.bytes {t e : TypeId} {cs : List Value} (ht : P.underlying t = some (.slice e)) (he : P.underlying e = some (.int .u8)) (hc : P.cellsOf e = 1) (h : RdC P W t cs) :
    ∃ v l, cs = [v] ∧ IsB W v l := by
  obtain ⟨H, enc, fuel, x, hx⟩ := h
  rcases open_ints ht he hc hx with ⟨rfl, _⟩ | ⟨a, len, cap, zs, rfl, _, hl, hm, hz, _, hcell, hwz⟩
  · exact ⟨_, [], rfl, IsB.nil W⟩
  · simp only [if_true] at hz
    have hlen : (zs.take len).length = len := by simp; omega
    refine ⟨_, (zs.take len).map u8, rfl, some a, cap, by simp; omega, by simp; omega, hm, (fun h => by cases h), fun h0 => ?_⟩
    obtain ⟨b, off, s⟩ := a
    have h0' : 0 < zs.length := by simp at h0; omega
    obtain rfl : s = none := by simpa [Addr.add] using World.cell?_spot (hcell 0 h0')
    refine ⟨b, off, rfl, fun i hi => ?_⟩
    have hi' : i < len := by simp at hi; omega
    have hi2 : i < zs.length := by omega
    have := hcell i hi2
    rw [Go.WideShapes.add_plain] at this
    rw [this]
    have hb := Go.bounds_u8 (hwz zs[i] (List.getElem_mem _))
    have hi3 : i < (bytesV ((zs.take len).map u8)).length := hi
    simp only [List.getD, List.getElem?_eq_getElem hi2, List.getElem?_eq_getElem hi3, Option.getD_some]
    simp only [bytesV, byteV, List.getElem_map, List.getElem_take, u8_toNat]
    congr 2
    omega
theorem RdC.struct {t : TypeId} {fs : Array Field} {cs : List Value} (ht : P.underlying t = some (.struct fs)) (h : RdC P W t cs) :
    cs.length = P.cellsOf t ∧ ∀ (i : Nat) f, fs[i]? = some f → RdC P W f.type ((cs.drop f.offset).take (P.cellsOf f.type)) := by
  obtain ⟨H, enc, fuel, x, hx⟩ := h
  obtain ⟨xs, n, _, rfl, hl, hlen, hf⟩ := DataW.trod_struct ht hx
  refine ⟨hl, fun i f hi => ?_⟩
  have h1 := hf i f hi
  have hi2 : i < xs.length := by
    have := (Array.getElem?_eq_some_iff.1 hi).1
    rw [hlen]
    simpa using this
  rw [List.getElem?_eq_getElem hi2] at h1
  exact ⟨H, enc, n, _, h1⟩
theorem RdC.array {t e : TypeId} {n : Nat} {cs : List Value} (ht : P.underlying t = some (.array n e)) (h : RdC P W t cs) :
    cs.length = P.cellsOf t ∧ ∀ i, i < n → RdC P W e ((cs.drop (i * P.cellsOf e)).take (P.cellsOf e)) := by
  obtain ⟨H, enc, fuel, x, hx⟩ := h
  obtain ⟨xs, m, _, rfl, hl, hlen, hf⟩ := DataW.trod_array ht hx
  refine ⟨hl, fun i hi => ?_⟩
  have h1 := hf i hi
  rw [List.getElem?_eq_getElem (by omega)] at h1
  exact ⟨H, enc, m, _, h1⟩

theorem Arg.int {t : TypeId} {k : IntKind} {v : Value} (ht : P.underlying t = some (.int k)) (h : Arg P W t v) : ∃ n, v = .int k n ∧ (Lit.int k n).wf = true := by
  obtain ⟨⟨base, h1⟩, h2⟩ := h
  obtain ⟨n, rfl⟩ := okWide_int ht h1
  obtain ⟨m, h3, h4⟩ := h2.int ht
  simp [Value.cells] at h3
  subst h3
  exact ⟨_, rfl, h4⟩
theorem Arg.bool {t : TypeId} {v : Value} (ht : P.underlying t = some .bool) (h : Arg P W t v) : ∃ b, v = .bool b := by
  obtain ⟨⟨base, h1⟩, h2⟩ := h
  exact okWide_bool ht h1
theorem Arg.string {t : TypeId} {v : Value} (ht : P.underlying t = some .string) (h : Arg P W t v) : ∃ s, v = .string s ∧ s.size ≤ maxLen := by
  obtain ⟨⟨base, h1⟩, h2⟩ := h
  obtain ⟨n, rfl⟩ := okWide_string ht h1
  obtain ⟨m, h3, h4⟩ := h2.string ht
  simp [Value.cells] at h3
  subst h3
  exact ⟨_, rfl, h4⟩
theorem Arg.bytes {t e : TypeId} {v : Value} (ht : P.underlying t = some (.slice e)) (he : P.underlying e = some (.int .u8)) (hc : P.cellsOf e = 1) (h : Arg P W t v) : ∃ l, IsB W v l := by
  obtain ⟨⟨base, h1⟩, h2⟩ := h
  obtain ⟨a, len, cap, rfl⟩ := okWide_slice ht h1
  obtain ⟨v, l, h3, h4⟩ := h2.bytes ht he hc
  simp [Value.cells] at h3
  subst h3
  exact ⟨l, h4⟩
theorem Arg.struct {t : TypeId} {fs : Array Field} {v : Value} (ht : P.underlying t = some (.struct fs)) (h : Arg P W t v) : ∃ cs : List Value, v = .agg cs.toArray ∧ RdC P W t cs := by
  obtain ⟨⟨base, h1⟩, h2⟩ := h
  obtain ⟨cs, rfl, _⟩ := okWide_struct ht h1
  exact ⟨cs.toList, by simp, h2⟩
end

section
variable {H : Type} {enc : TypeId × Value → H} {P : Program}

theorem trodAll_length {w : World} {base : Nat} {sp : Nat → Bool} {held : Bool} : ∀ {ts : List TypeId} {vs : List Value} {ds : List (DataW H)} {ps : List MemPlace},
    DataW.TrodAll enc P w base sp held ts vs ds ps → vs.length = ts.length ∧ ds.length = ts.length
  | [], [], [], _, _ => ⟨rfl, rfl⟩
  | _ :: _, _ :: _, _ :: _, _, h => by
    obtain ⟨p, q, _, h2, _⟩ := h
    have := trodAll_length h2
    simp [this.1, this.2]

theorem args_of_trodAll {W : World} {base : Nat} : ∀ {ts : List TypeId} {vs : List Value} {ds : List (DataW H)} {ps : List MemPlace},
    DataW.TrodAll enc P W 0 (fun _ => true) true ts vs ds ps → (∀ (j : Nat) t v, ts[j]? = some t → vs[j]? = some v → Value.okWide P W .any base t v) → Args P W ts vs
  | [], [], [], _, _, _ => trivial
  | t :: ts, v :: vs, d :: ds, _, h, hv => by
    obtain ⟨p, q, ⟨fuel, h1⟩, h2, _⟩ := h
    exact ⟨⟨⟨base, hv 0 t v rfl rfl⟩, H, enc, fuel, _, h1⟩, args_of_trodAll h2 (fun j t' v' a b => hv (j + 1) t' v' a b)⟩

theorem trodAll_stays (hl : laidOutB P = true) {W W' : World} (hb : Below W.heap.size W W') : ∀ {ts : List TypeId} {vs : List Value} {ds : List (DataW H)} {ps : List MemPlace},
    ts.all (fun t => P.readableRec t && decide (t < P.types.size)) = true → DataW.TrodAll enc P W 0 (fun _ => true) true ts vs ds ps → DataW.TrodAll enc P W' 0 (fun b => decide (b < W.heap.size)) true ts vs ds ps
  | [], [], [], _, _, h => h
  | t :: ts, v :: vs, d :: ds, _, hr, h => by
    obtain ⟨p, q, h1, h2, rfl⟩ := h
    simp only [List.all_cons, Bool.and_eq_true, decide_eq_true_eq] at hr
    have lt : ∀ x ∈ p, x.block < W.heap.size := by obtain ⟨m, hm⟩ := h1; exact DataW.trod_lt m _ _ _ hm
    exact ⟨p, q, Below.trod hl hr.1.1 hr.1.2 h1 hb lt, trodAll_stays hl hb hr.2 h2, rfl⟩
end

/-- WHAT A LAW's STATEMENT WANTS, OUT OF ITS WALK. -/
theorem law_lifted {C : Checked} {F : FuncId} {fn : Func} {s : ChangeSpec} {tb : TypeId} (os : Os) (started : os.Started) (H : Type) (enc : TypeId × Value → H)
    (own : ownKnob C.prog.godebug = none) (hl : laidOutB C.prog = true) (hno : C.prog.inits.idxOf? F = none) (hfn : C.prog.funcs[F]? = some fn) (htb : C.prog.underlying tb = some .bool)
    (hres : fn.resultTypes = #[tb]) (hread : fn.params.toList.all (fun t => C.prog.readableRec t && decide (t < C.prog.types.size)) = true)
    (hvars : s.vars = []) (hspec : ∀ (ds : List (DataW H)), ds.length = fn.params.size → s.fn H (ds ++ []) = { results := [.lit (.bool true)], args := ds })
    (witness : ∃ (w : World) (tape : Tape) (i : Input), w.os = os ∧ (w.forCall tape i).Shaped C.prog ∧ i.vars = [] ∧ Input.okWide C.prog (w.forCall tape i) .any w.heap.size F i ∧
      s.pre6 enc C.prog fn [] false (w.forCall tape i).memory i.args ∧ ({} : Assume).holds C.prog (lone (Frame.enter C.prog F i.args .normal) [] (w.forCall tape i)))
    (walk : ∀ (W : World) (vs : List Value), Args C.prog W fn.params.toList vs → Calls C.prog F vs.toArray W fun e W' => e = .returned (.bool true) ∧ Grow W W') :
    ReturnsInHanded {} C os F .any (s.pre6 enc C.prog fn [] false) (s.post enc C.prog fn false true false false) := by
  refine returnsInHanded_of_change (C := C) own started hno hfn witness ?_
  intro W base args ds gs before hval hW hcnd _
  have hW' := hW
  obtain ⟨p, q, hA, hV, rfl, hfz, hnd⟩ := hW
  rw [hvars] at hV
  obtain ⟨rfl, rfl⟩ := trodVars_none hV
  have hargs := args_of_trodAll (base := base) hA (fun j t v a b => hval j t v (by simpa using a) (by simpa using b))
  have hlen := trodAll_length hA
  refine (walk W args.toList hargs).mono fun e W' ⟨he, bel⟩ => ?_
  subst he
  have hs := hspec ds (by rw [hlen.2]; simp)
  refine ⟨_, rfl, _, _, _, [], p, [], hW', ?_, ?_, ?_, bel.frame _, fun h => by cases h⟩
  · rw [hs, hres]
    exact trodAll_mk1 (shut_bool htb _)
  · rw [hs]
    exact trodAll_stays hl bel hread hA
  · rw [hvars, hs]
    rfl

end Go.Proofs.Ythjojkkapboonaa
