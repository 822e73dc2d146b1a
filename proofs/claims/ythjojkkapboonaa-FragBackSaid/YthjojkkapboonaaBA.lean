/- What is known of a value, without its place in memory. No program in sight. -/
import Derived.Test.YthjojkkapboonaaA
import Derived.Test.YthjojkkapboonaaR
import Derived.Maps.AppendAt
namespace Go.Proofs.Ythjojkkapboonaa
set_option linter.unusedSimpArgs false
set_option linter.unusedVariables false
open Go.RowKit

/-- What is known of a value: nothing; itself; a slice of these bytes; a slice whose elements (of k cells each) lie behind one another; a struct or an array; several results. -/
inductive AV where
  | any
  | one (v : Value)
  | bs (l : List UInt8)
  | sl (k : Nat) (cs : List AV)
  | agg (cs : List AV)
  | tup (cs : List AV)
  | ifc (t : Nat) (a : AV)

/-- The value is a slice whose cells are these, in a block outside M. -/
def SlM (M : Nat → Prop) (w : World) (v : Value) (k : Nat) (us : List Value) : Prop :=
  ∃ p len cap, v = .slice p len cap ∧ us.length = len * k ∧ len ≤ cap ∧ cap ≤ maxLen ∧ (p = none → cap = 0) ∧
    (0 < us.length → ∃ b o, p = some ⟨b, o, none⟩ ∧ ¬ M b ∧ ∀ i, i < us.length → w.cell? ⟨b, o + i, none⟩ = some (us.getD i undef))

mutual
def RepV (M : Nat → Prop) (w : World) : AV → Value → Prop
  | .any, _ => True
  | .one u, v => v = u
  | .bs l, v => SlM M w v 1 (bytesV l)
  | .sl k cs, v => ∃ us, SlM M w v k us ∧ RepL M w cs us
  | .agg cs, v => ∃ us : List Value, v = .agg us.toArray ∧ RepL M w cs us
  | .tup cs, v => ∃ us : List Value, v = .tuple us.toArray ∧ RepL M w cs us
  | .ifc t a, v => ∃ u, v = .iface t u ∧ RepV M w a u
def RepL (M : Nat → Prop) (w : World) : List AV → List Value → Prop
  | [], us => us = []
  | a :: as, us => ∃ v vs, us = v :: vs ∧ RepV M w a v ∧ RepL M w as vs
end

/-- What may turn between two worlds: blocks in M, new blocks. -/
structure Keeps (M M' : Nat → Prop) (w w' : World) : Prop where
  cell : ∀ (a : Addr) (u : Value), ¬ M a.block → w.cell? a = some u → w'.cell? a = some u
  set : ∀ (b : Nat), b < w.heap.size → M' b → M b

theorem SlM.keep {M M' : Nat → Prop} {w w' : World} (h : Keeps M M' w w') {v : Value} {k : Nat} {us : List Value} (hs : SlM M w v k us) : SlM M' w' v k us := by
  obtain ⟨p, len, cap, rfl, h1, h2, h3, h4, h5⟩ := hs
  refine ⟨p, len, cap, rfl, h1, h2, h3, h4, fun hl => ?_⟩
  obtain ⟨b, o, rfl, h6, h7⟩ := h5 hl
  refine ⟨b, o, rfl, fun hb => h6 (h.set b ?_ hb), fun i hi => h.cell _ _ h6 (h7 i hi)⟩
  exact World.block_lt_of_cell? w _ (h7 0 hl)

mutual
theorem RepV.keep {M M' : Nat → Prop} {w w' : World} (h : Keeps M M' w w') : ∀ (a : AV) (v : Value), RepV M w a v → RepV M' w' a v
  | .any, _, _ => by simp only [RepV]
  | .one u, v, hv => by simpa only [RepV] using hv
  | .bs l, v, hv => by simp only [RepV] at hv ⊢; exact hv.keep h
  | .sl k cs, v, hv => by
    simp only [RepV] at hv ⊢
    obtain ⟨us, h1, h2⟩ := hv
    exact ⟨us, h1.keep h, RepL.keep h cs us h2⟩
  | .agg cs, v, hv => by
    simp only [RepV] at hv ⊢
    obtain ⟨us, h1, h2⟩ := hv
    exact ⟨us, h1, RepL.keep h cs us h2⟩
  | .tup cs, v, hv => by
    simp only [RepV] at hv ⊢
    obtain ⟨us, h1, h2⟩ := hv
    exact ⟨us, h1, RepL.keep h cs us h2⟩
  | .ifc t a, v, hv => by
    simp only [RepV] at hv ⊢
    obtain ⟨u, h1, h2⟩ := hv
    exact ⟨u, h1, RepV.keep h a u h2⟩
theorem RepL.keep {M M' : Nat → Prop} {w w' : World} (h : Keeps M M' w w') : ∀ (as : List AV) (us : List Value), RepL M w as us → RepL M' w' as us
  | [], us, hv => by simpa only [RepL] using hv
  | a :: as, us, hv => by
    simp only [RepL] at hv ⊢
    obtain ⟨v, vs, h1, h2, h3⟩ := hv
    exact ⟨v, vs, h1, RepV.keep h a v h2, RepL.keep h as vs h3⟩
end

theorem Keeps.grow {M : Nat → Prop} {w w' : World} (g : Grow w w') : Keeps M M w w' := ⟨fun _ _ _ h => g.cell h, fun _ _ h => h⟩
theorem RepV.grow {M : Nat → Prop} {w w' : World} {a : AV} {v : Value} (h : RepV M w a v) (g : Grow w w') : RepV M w' a v := RepV.keep (.grow g) a v h
theorem RepL.grow {M : Nat → Prop} {w w' : World} {a : List AV} {v : List Value} (h : RepL M w a v) (g : Grow w w') : RepL M w' a v := RepL.keep (.grow g) a v h
theorem Keeps.less {M M' : Nat → Prop} {w : World} (h : ∀ b, M' b → M b) : Keeps M M' w w := ⟨fun _ _ _ h => h, fun b _ => h b⟩

section
variable {M : Nat → Prop} {w : World}
theorem RepL.nil : RepL M w [] [] := by simp only [RepL]
theorem RepL.cons {a : AV} {v : Value} {as : List AV} {vs : List Value} (h : RepV M w a v) (hs : RepL M w as vs) : RepL M w (a :: as) (v :: vs) := by
  simp only [RepL]; exact ⟨v, vs, rfl, h, hs⟩
theorem RepL.length : ∀ {as : List AV} {us : List Value}, RepL M w as us → us.length = as.length
  | [], us, h => by simp only [RepL] at h; subst h; rfl
  | a :: as, us, h => by
    simp only [RepL] at h
    obtain ⟨v, vs, rfl, _, h3⟩ := h
    simp [RepL.length h3]
theorem RepL.get : ∀ {as : List AV} {us : List Value} (_ : RepL M w as us) (i : Nat) (_ : i < as.length), RepV M w (as.getD i .any) (us.getD i undef)
  | [], _, _, i, hi => absurd hi (by simp)
  | a :: as, us, h, i, hi => by
    simp only [RepL] at h
    obtain ⟨v, vs, rfl, h2, h3⟩ := h
    cases i with
    | zero => exact h2
    | succ i => exact RepL.get h3 i (by simpa using hi)
theorem RepL.take : ∀ {as : List AV} {us : List Value} (n : Nat), RepL M w as us → RepL M w (as.take n) (us.take n)
  | as, us, 0, _ => by simpa using RepL.nil
  | [], us, n + 1, h => by simp only [RepL] at h; subst h; simpa using RepL.nil
  | a :: as, us, n + 1, h => by
    simp only [RepL] at h
    obtain ⟨v, vs, rfl, h2, h3⟩ := h
    exact RepL.cons h2 (RepL.take n h3)
theorem RepL.drop : ∀ {as : List AV} {us : List Value} (n : Nat), RepL M w as us → RepL M w (as.drop n) (us.drop n)
  | as, us, 0, h => by simpa using h
  | [], us, n + 1, h => by simp only [RepL] at h; subst h; simpa using RepL.nil
  | a :: as, us, n + 1, h => by
    simp only [RepL] at h
    obtain ⟨v, vs, rfl, h2, h3⟩ := h
    exact RepL.drop n h3
theorem RepL.append : ∀ {as bs : List AV} {us vs : List Value}, RepL M w as us → RepL M w bs vs → RepL M w (as ++ bs) (us ++ vs)
  | [], _, us, _, h, h' => by simp only [RepL] at h; subst h; exact h'
  | a :: as, _, us, _, h, h' => by
    simp only [RepL] at h
    obtain ⟨v, vs, rfl, h2, h3⟩ := h
    exact RepL.cons h2 (RepL.append h3 h')
theorem RepL.set : ∀ {as : List AV} {us : List Value} (i : Nat) {a : AV} {v : Value}, RepL M w as us → RepV M w a v → RepL M w (as.set i a) (us.set i v)
  | [], us, i, a, v, h, _ => by simp only [RepL] at h; subst h; simpa using RepL.nil
  | b :: as, us, i, a, v, h, ha => by
    simp only [RepL] at h
    obtain ⟨u, vs, rfl, h2, h3⟩ := h
    cases i with
    | zero => exact RepL.cons ha h3
    | succ i => exact RepL.cons h2 (RepL.set i h3 ha)
theorem RepL.mapOne (vs : List Value) : RepL M w (vs.map .one) vs := by
  induction vs with
  | nil => exact RepL.nil
  | cons v vs ih => exact RepL.cons (by simp only [RepV]) ih
theorem RepV.one_iff {u v : Value} : RepV M w (.one u) v ↔ v = u := by simp only [RepV]
theorem RepV.bs_iff {l : List UInt8} {v : Value} : RepV M w (.bs l) v ↔ SlM M w v 1 (bytesV l) := by simp only [RepV]
theorem RepV.isB {l : List UInt8} {v : Value} (h : RepV M w (.bs l) v) : IsB w v l := by
  rw [RepV.bs_iff] at h
  obtain ⟨p, len, cap, rfl, h1, h2, h3, h4, h5⟩ := h
  rw [Nat.mul_one] at h1
  subst h1
  refine ⟨p, cap, rfl, by omega, h3, h4, fun hl => ?_⟩
  obtain ⟨b, o, h6, _, h7⟩ := h5 hl
  exact ⟨b, o, h6, h7⟩
/-- The block that a slice points into. -/
def blkOf : Value → Option Nat
  | .slice (some a) _ _ => some a.block
  | _ => none
theorem RepV.ofB {l : List UInt8} {v : Value} (h : IsB w v l) (hb : 0 < l.length → ∀ b, blkOf v = some b → ¬ M b) : RepV M w (.bs l) v := by
  rw [RepV.bs_iff]
  obtain ⟨p, c, rfl, h1, h2, h3, h4⟩ := h
  refine ⟨p, (bytesV l).length, c, rfl, by simp, h1, h2, h3, fun hl => ?_⟩
  obtain ⟨b, o, rfl, h5⟩ := h4 hl
  exact ⟨b, o, rfl, hb (by simpa using hl) b rfl, h5⟩
theorem RepV.ofOwn {E : TypeId} {base : Nat} {l : List UInt8} {v : Value} (h : Own E base w v l) (hM : ∀ b, M b → b < base) : RepV M w (.bs l) v := by
  refine RepV.ofB h.isB fun hl b hb hm => ?_
  obtain ⟨g, cap, rfl, hg⟩ := h.form hl
  have : g = b := by simpa [blkOf] using hb
  subst this
  have := hM _ hm
  omega
theorem RepV.nilB : RepV M w (.bs []) (.slice none 0 0) := RepV.ofB (IsB.nil w) (fun h => absurd h (by simp))
theorem RepV.nilS (k : Nat) : RepV M w (.sl k []) (.slice none 0 0) := by
  simp only [RepV]
  exact ⟨[], ⟨none, 0, 0, rfl, by simp, Nat.le_refl _, by simp [maxLen], fun _ => rfl, fun h => absurd h (by simp)⟩, RepL.nil⟩
end

/-- A function's contract: at arguments of which this is known it returns a value of which that is known. -/
def CallOk (P : Program) (f : FuncId) : Prop := ∃ fn, P.funcs[f]? = some fn ∧ (fn.name == "runtime.NumGoroutine") = false ∧ fn.body.isNone = false
def ASpec (P : Program) (f : FuncId) (as : List AV) (r : AV) : Prop := CallOk P f ∧
  ∀ (M : Nat → Prop) (w : World) (vs : List Value), (∀ b, M b → b < w.heap.size) → RepL M w as vs →
    Calls P f vs.toArray w fun e w' => ∃ v, e = .returned v ∧ RepV M w' r v ∧ Grow w w'

/-- What is known of a temporary: a value; a pointer into block n of the call's own; a pointer at cells outside M; a slice of a whole array of the call's own. -/
inductive TV where
  | v (a : AV)
  | p (n off : Nat)
  | q (cs : List AV)
  | s (n off len : Nat)
  | r (n e k : Nat) (a : AV)
  | z
  | it (n : Nat) (s : ByteArray) (pos : Nat)

/-- The cells of a row's elements. -/
def contA (M : Nat → Prop) (w : World) (k : Nat) (us : List Value) : AV → Prop
  | .bs l => k = 1 ∧ us = bytesV l
  | .sl k' cs => k' = k ∧ RepL M w cs us
  | _ => False
/-- A slice from the start of row n of the call's own (elements of type e, k cells each) that nothing else looks behind. -/
def RowV (b : Nat) (e k : Nat) (M : Nat → Prop) (w : World) (a : AV) (x : Value) : Prop :=
  ∃ us len, w.ownsRow 0 e k x len us ∧ x.ownBlock = some b ∧ contA M w k us a

def RepT (ρ : Nat → Nat) (H : List (Bool × List AV)) (M : Nat → Prop) (w : World) : TV → Value → Prop
  | .v a, x => RepV M w a x
  | .p n off, x => n < H.length ∧ x = .pointer (some ⟨ρ n, off, none⟩)
  | .q cs, x => ∃ b o, ∃ us : List Value, x = .pointer (some ⟨b, o, none⟩) ∧ 0 < us.length ∧ ¬ M b ∧ (∀ i, i < us.length → w.cell? ⟨b, o + i, none⟩ = some (us.getD i undef)) ∧ RepL M w cs us
  | .s n off len, x => n < H.length ∧ x = .slice (some ⟨ρ n, off, none⟩) len len
  | .r n e k a, x => (∃ m, H[n]? = some (m, [])) ∧ RowV (ρ n) e k M w a x
  | .z, x => x = .slice none 0 0
  | .it n s pos, x => (∃ m, H[n]? = some (m, [])) ∧ x = .pointer (some ⟨ρ n, 0, none⟩) ∧ w.heap[ρ n]? = some (.stringIter s pos)

theorem contA.keep {M M' : Nat → Prop} {w w' : World} (h : Keeps M M' w w') {k : Nat} {us : List Value} : ∀ {a : AV}, contA M w k us a → contA M' w' k us a
  | .any, hx => hx.elim
  | .one _, hx => hx.elim
  | .bs _, hx => hx
  | .sl _ cs, hx => ⟨hx.1, RepL.keep h cs us hx.2⟩
  | .agg _, hx => hx.elim
  | .tup _, hx => hx.elim
  | .ifc _ _, hx => hx.elim
theorem RowV.lt {b e k : Nat} {M : Nat → Prop} {w : World} {a : AV} {x : Value} (h : RowV b e k M w a x) : b < w.heap.size := by
  obtain ⟨us, len, ⟨_, h1⟩, h2, _⟩ := h
  rcases h1 with ⟨rfl, _⟩ | ⟨g, cap, cur, rfl, _, hg, _⟩
  · simp [Value.ownBlock] at h2
  · simp only [Value.ownBlock, Option.some.injEq] at h2
    subst h2
    exact (Array.getElem?_eq_some_iff.1 hg).1
theorem RowV.keep {b b' e k : Nat} {M M' : Nat → Prop} {w w' : World} (h : Keeps M M' w w') (hb : b' = b) (hw : w'.heap[b]? = w.heap[b]?) {a : AV} {x : Value} (hx : RowV b e k M w a x) : RowV b' e k M' w' a x := by
  subst hb
  obtain ⟨us, len, ⟨h0, h1⟩, h2, h3⟩ := hx
  refine ⟨us, len, ⟨h0, ?_⟩, h2, h3.keep h⟩
  rcases h1 with h1 | ⟨g, cap, cur, rfl, hg0, hg, h4⟩
  · exact .inl h1
  · simp only [Value.ownBlock, Option.some.injEq] at h2
    subst h2
    exact .inr ⟨g, cap, cur, rfl, hg0, by rw [hw]; exact hg, h4⟩

/-- Rows stay rows, and are as they were. -/
def RowsKept (ρ : Nat → Nat) (H H' : List (Bool × List AV)) (w w' : World) : Prop := ∀ n m, H[n]? = some (m, []) → (∃ m', H'[n]? = some (m', [])) ∧ (ρ n < w.heap.size → w'.heap[ρ n]? = w.heap[ρ n]?)
theorem RowsKept.grow {ρ : Nat → Nat} {H : List (Bool × List AV)} {w w' : World} (g : Grow w w') : RowsKept ρ H H w w' := fun n m hn => ⟨⟨m, hn⟩, fun hl => g.block _ hl⟩

theorem RepT.keep {ρ ρ' : Nat → Nat} {H H' : List (Bool × List AV)} {M M' : Nat → Prop} {w w' : World} (h : Keeps M M' w w') (hL : H.length ≤ H'.length) (hρ : ∀ n, n < H.length → ρ' n = ρ n) (hR : RowsKept ρ H H' w w') : ∀ (t : TV) (x : Value), RepT ρ H M w t x → RepT ρ' H' M' w' t x
  | .v a, x, hx => RepV.keep h a x hx
  | .p n off, x, hx => ⟨by have := hx.1; omega, by rw [hρ n hx.1]; exact hx.2⟩
  | .s n off len, x, hx => ⟨by have := hx.1; omega, by rw [hρ n hx.1]; exact hx.2⟩
  | .q cs, x, hx => by
    obtain ⟨b, o, us, h1, h2, h3, h4, h5⟩ := hx
    exact ⟨b, o, us, h1, h2, fun hb => h3 (h.set b (World.block_lt_of_cell? w _ (h4 0 h2)) hb), fun i hi => h.cell _ _ h3 (h4 i hi), RepL.keep h cs us h5⟩
  | .r n e k a, x, hx => by
    obtain ⟨⟨m, hn⟩, hx⟩ := hx
    obtain ⟨h1, h2⟩ := hR n m hn
    exact ⟨h1, hx.keep h (hρ n (List.getElem?_eq_some_iff.1 hn).1) (h2 hx.lt)⟩
  | .z, x, hx => hx
  | .it n s pos, x, hx => by
    obtain ⟨⟨m, hn⟩, hx, hg⟩ := hx
    obtain ⟨h1, h2⟩ := hR n m hn
    rw [RepT, hρ n (List.getElem?_eq_some_iff.1 hn).1, h2 (Array.getElem?_eq_some_iff.1 hg).1]
    exact ⟨h1, hx, hg⟩
theorem RepT.grow {ρ : Nat → Nat} {H : List (Bool × List AV)} {M : Nat → Prop} {w w' : World} {t : TV} {x : Value} (h : RepT ρ H M w t x) (g : Grow w w') : RepT ρ H M w' t x :=
  RepT.keep (.grow g) (Nat.le_refl _) (fun _ _ => rfl) (RowsKept.grow g) t x h

/-- What is known in the middle of a call: of its temporaries, and of the blocks of its own (may they be written? their cells). -/
structure AE where
  t : List (Nat × TV)
  h : List (Bool × List AV)

def lk : List (Nat × TV) → Nat → TV
  | [], _ => .v .any
  | (k, x) :: r, t => if k = t then x else lk r t

/-- A constant. -/
def cellA : Value → AV
  | .slice none 0 0 => .bs []
  | v => .one v
def constA : Value → AV
  | .agg cs => .agg (cs.toList.map cellA)
  | v => cellA v

theorem cellA_rep {M : Nat → Prop} {w : World} (v : Value) : RepV M w (cellA v) v := by
  unfold cellA
  split
  · exact RepV.nilB
  · simp only [RepV]
theorem cellsA_rep {M : Nat → Prop} {w : World} (vs : List Value) : RepL M w (vs.map cellA) vs := by
  induction vs with
  | nil => exact RepL.nil
  | cons v vs ih => exact RepL.cons (cellA_rep v) ih
theorem constA_rep {M : Nat → Prop} {w : World} (v : Value) : RepV M w (constA v) v := by
  unfold constA
  split
  · simp only [RepV]
    exact ⟨_, by simp, cellsA_rep _⟩
  · exact cellA_rep _

def constT : Value → TV
  | .slice none 0 0 => .z
  | v => .v (constA v)
theorem constT_rep {ρ : Nat → Nat} {H : List (Bool × List AV)} {M : Nat → Prop} {w : World} (v : Value) : RepT ρ H M w (constT v) v := by
  unfold constT
  split
  · rfl
  · exact constA_rep _
def evT (E : List (Nat × TV)) : Operand → TV
  | .tmp t => lk E t
  | .const v => constT v
  | .global g => .v (.one (.pointer (some ⟨g, 0, none⟩)))
  | .func f => .v (.one (.func (.func f) #[] #[]))

/-- The blocks that may be written. -/
def MM (M0 : Nat → Prop) (ρ : Nat → Nat) (h : List (Bool × List AV)) (b : Nat) : Prop := M0 b ∨ ∃ n cs, h[n]? = some (true, cs) ∧ b = ρ n

structure HOk (w0 : World) (M0 : Nat → Prop) (ρ : Nat → Nat) (h : List (Bool × List AV)) (w : World) : Prop where
  grow : Grow w0 w
  sep : ∀ n, n < h.length → ¬ M0 (ρ n)
  lo : ∀ n, n < h.length → w0.heap.size ≤ ρ n
  hi : ∀ n, n < h.length → ρ n < w.heap.size
  inj : ∀ n m, n < h.length → m < h.length → ρ n = ρ m → n = m
  rep : ∀ n m cs, h[n]? = some (m, cs) → cs ≠ [] → ∃ us ty, w.heap[ρ n]? = some (.cells us.toArray ty (0, 0)) ∧ RepL (MM M0 ρ h) w cs us

/-- What is known holds. -/
structure St (w0 : World) (M0 : Nat → Prop) (N : Nat) (E : AE) (a : Act) (w : World) (ρ : Nat → Nat) : Prop where
  heap : HOk w0 M0 ρ E.h w
  defers : a.defers = []
  size : a.tmps.size = N
  tmp : ∀ t, RepT ρ E.h (MM M0 ρ E.h) w (lk E.t t) (a.tmps.getD t undef)

theorem HOk.low' {w0 : World} {M0 : Nat → Prop} {ρ : Nat → Nat} {h : List (Bool × List AV)} {w : World} (H : HOk w0 M0 ρ h w) (hl : ∀ b, M0 b → b < w0.heap.size) : ∀ b, MM M0 ρ h b → b < w.heap.size := by
  rintro b (hb | ⟨n, cs, hn, rfl⟩)
  · exact Nat.lt_of_lt_of_le (hl b hb) H.grow.le
  · exact H.hi n (List.getElem?_eq_some_iff.1 hn).1

theorem HOk.grown {w0 : World} {M0 : Nat → Prop} {ρ : Nat → Nat} {h : List (Bool × List AV)} {w w' : World} (H : HOk w0 M0 ρ h w) (g : Grow w w') : HOk w0 M0 ρ h w' where
  grow := H.grow.trans g
  sep := H.sep
  lo := H.lo
  hi := fun n hn => Nat.lt_of_lt_of_le (H.hi n hn) g.le
  inj := H.inj
  rep := fun n m cs hn hne => by
    obtain ⟨us, ty, h1, h2⟩ := H.rep n m cs hn hne
    exact ⟨us, ty, by rw [g.block (ρ n) (H.hi n (List.getElem?_eq_some_iff.1 hn).1)]; exact h1, h2.grow g⟩

theorem HOk.cell {w0 : World} {M0 : Nat → Prop} {ρ : Nat → Nat} {h : List (Bool × List AV)} {w : World} (H : HOk w0 M0 ρ h w) {n : Nat} {m : Bool} {cs : List AV} (hn : h[n]? = some (m, cs)) :
    ∃ us, RepL (MM M0 ρ h) w cs us ∧ ∀ i, i < us.length → w.cell? ⟨ρ n, i, none⟩ = some (us.getD i undef) := by
  by_cases hne : cs = []
  · subst hne
    exact ⟨[], RepL.nil, fun i hi => absurd hi (by simp)⟩
  obtain ⟨us, ty, h1, h2⟩ := H.rep n m cs hn hne
  refine ⟨us, h2, fun i hi => ?_⟩
  rw [cell_of_row w (ρ n) i us.toArray ty (0, 0) h1]
  simp [List.getD, hi]

end Go.Proofs.Ythjojkkapboonaa
