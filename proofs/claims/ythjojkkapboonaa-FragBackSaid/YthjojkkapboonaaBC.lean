/- Operations on memory, on several values; that they do what is said. No program in sight. -/
import Derived.Test.YthjojkkapboonaaBB
namespace Go.Proofs.Ythjojkkapboonaa
set_option linter.unusedSimpArgs false
set_option linter.unusedVariables false
open Go.RowKit

/-- A variable is read. -/
def loadF (ti : TI) (cs : List AV) : Option (Prop × AV) :=
  if ti.k.isAgg then some (ti.size ≤ cs.length, .agg (cs.take ti.size)) else match cs with | c :: _ => some (True, c) | [] => none

theorem load_run {P : Program} {M : Nat → Prop} {w : World} {t : TypeId} {ti : TI} {cs : List AV} {c : Prop} {r : AV} (hT : TIOk P t ti) (h : loadF ti cs = some (c, r)) (hc : c)
    {b o : Nat} {us : List Value} (hr : RepL M w cs us) (hm : ∀ i, i < us.length → w.cell? ⟨b, o + i, none⟩ = some (us.getD i undef)) :
    ∃ z, (loadVar t ⟨b, o, none⟩).run P w = .ok z w ∧ RepV M w r z := by
  have hl := hr.length
  unfold loadF at h
  split at h
  · rename_i hag
    simp only [Option.some.injEq, Prod.mk.injEq] at h
    obtain ⟨h1, h2⟩ := h
    subst h1 h2
    refine ⟨.agg (us.take ti.size).toArray, ?_, ?_⟩
    · simp only [loadVar, Sem.run_bind, hT.2.agg, Result.andThen_ok, hag, if_true, hT.sz]
      have : (us.take ti.size).length = ti.size := by simp; omega
      have h3 := run_loadCells_list (P := P) w ⟨b, o, none⟩ (us.take ti.size) (fun j v hv => by
        have hj := (List.getElem?_eq_some_iff.1 hv).1
        rw [show (⟨b, o, none⟩ : Addr).add j = ⟨b, o + j, none⟩ from Addr.add_lit b o j, hm j (by simp at hj; omega)]
        rw [List.getElem?_take, if_pos (by omega)] at hv
        simp [List.getD, hv])
      rw [this] at h3
      simp [h3]
    · simp only [RepV]
      exact ⟨_, rfl, hr.take _⟩
  · rename_i hag
    split at h <;> simp only [Option.some.injEq, Prod.mk.injEq, reduceCtorEq] at h
    obtain ⟨h1, h2⟩ := h
    subst h1 h2
    simp only [RepL] at hr
    obtain ⟨v, vs, rfl, h3, _⟩ := hr
    refine ⟨v, ?_, h3⟩
    have := hm 0 (by simp)
    simp at this
    simp only [loadVar, Sem.run_bind, hT.2.agg, Result.andThen_ok, hag, Bool.false_eq_true, if_false]
    simp [this]

/-- A part of a struct, or of an array, that is at hand. -/
def partF (agg : Bool) (sz off : Nat) (cs : List AV) : Option (Prop × AV) :=
  if agg then some (off + sz ≤ cs.length, .agg ((cs.drop off).take sz)) else match cs[off]? with | some c => some (True, c) | none => none
theorem part_run {P : Program} {M : Nat → Prop} {w : World} {t : TypeId} {agg : Bool} {sz off : Nat} {cs : List AV} {c : Prop} {r : AV} {us : List Value} (hs : (P.info? t).map (·.size) = some sz) (ha : (isAgg t).run P w = .ok agg w)
    (h : partF agg sz off cs = some (c, r)) (hr : RepL M w cs us) :
    ∃ z, (part t us.toArray off).run P w = .ok z w ∧ RepV M w r z := by
  have hl := hr.length
  unfold partF at h
  split at h
  · rename_i hag
    simp only [Option.some.injEq, Prod.mk.injEq] at h
    obtain ⟨h1, h2⟩ := h
    subst h1 h2
    refine ⟨.agg ((us.drop off).take sz).toArray, ?_, ?_⟩
    · simp only [part, Sem.run_bind, ha, Result.andThen_ok, hag, if_true, size_of hs]
      simp
    · simp only [RepV]
      exact ⟨_, rfl, (hr.drop _).take _⟩
  · rename_i hag
    split at h <;> simp only [Option.some.injEq, Prod.mk.injEq, reduceCtorEq] at h
    rename_i c' hc
    obtain ⟨h1, h2⟩ := h
    subst h1 h2
    have hlt := (List.getElem?_eq_some_iff.1 hc).1
    have := hr.get off hlt
    simp only [List.getD, hc, Option.getD_some] at this
    have hu : us[off]? = some us[off] := List.getElem?_eq_getElem (by omega)
    rw [hu] at this
    refine ⟨us[off], ?_, this⟩
    simp only [part, Sem.run_bind, ha, Result.andThen_ok, hag, Bool.false_eq_true, if_false]
    simp [hu]

/-- The cells of a value. -/
def cellsF : AV → Option (List AV)
  | .one v => if v.oneCell' then some [.one v] else none
  | .bs l => some [.bs l]
  | .sl k cs => some [.sl k cs]
  | .agg cs => some cs
  | .ifc t a => some [.ifc t a]
  | _ => none
theorem SlM.one {M : Nat → Prop} {w : World} {v : Value} {k : Nat} {us : List Value} (h : SlM M w v k us) : v.cells = #[v] ∧ v.oneCell' = true := by
  obtain ⟨p, len, cap, rfl, _⟩ := h
  exact ⟨rfl, rfl⟩
theorem cells_one {v : Value} (h : v.oneCell' = true) : v.cells = #[v] := by
  cases v <;> first | rfl | cases h
theorem cells_rep {M : Nat → Prop} {w : World} {a : AV} {cs : List AV} {v : Value} (h : cellsF a = some cs) (hr : RepV M w a v) : RepL M w cs v.cells.toList := by
  unfold cellsF at h
  split at h
  · split at h <;> simp only [Option.some.injEq, reduceCtorEq] at h
    subst h
    rename_i hv
    rw [RepV.one_iff] at hr
    subst hr
    rw [cells_one hv]
    exact RepL.cons (by simp only [RepV]) RepL.nil
  · simp only [Option.some.injEq] at h
    subst h
    have := hr
    simp only [RepV] at this
    rw [this.one.1]
    exact RepL.cons hr RepL.nil
  · simp only [Option.some.injEq] at h
    subst h
    have := hr
    simp only [RepV] at this
    obtain ⟨us, h1, _⟩ := this
    rw [h1.one.1]
    exact RepL.cons hr RepL.nil
  · simp only [Option.some.injEq] at h
    subst h
    simp only [RepV] at hr
    obtain ⟨us, rfl, h1⟩ := hr
    simpa [Value.cells] using h1
  · simp only [Option.some.injEq] at h
    subst h
    have := hr
    simp only [RepV] at this
    obtain ⟨u, rfl, _⟩ := this
    exact RepL.cons hr RepL.nil
  · cases h

/-- Cells are laid over others. -/
def ovw (cs : List AV) (off : Nat) : List AV → List AV
  | [] => cs
  | d :: ds => ovw (cs.set off d) (off + 1) ds
theorem ovw_length : ∀ (ds cs : List AV) (off : Nat), (ovw cs off ds).length = cs.length
  | [], _, _ => rfl
  | d :: ds, cs, off => by simp [ovw, ovw_length ds]
def ovwV (cs : List Value) (off : Nat) : List Value → List Value
  | [] => cs
  | d :: ds => ovwV (cs.set off d) (off + 1) ds
theorem ovwV_length : ∀ (ds cs : List Value) (off : Nat), (ovwV cs off ds).length = cs.length
  | [], _, _ => rfl
  | d :: ds, cs, off => by simp [ovwV, ovwV_length ds]
theorem ovw_rep {M : Nat → Prop} {w : World} : ∀ {ds : List AV} {vs : List Value} {cs : List AV} {us : List Value} (off : Nat), RepL M w cs us → RepL M w ds vs → RepL M w (ovw cs off ds) (ovwV us off vs)
  | [], vs, cs, us, off, h, h' => by
    simp only [RepL] at h'
    subst h'
    exact h
  | d :: ds, vs, cs, us, off, h, h' => by
    simp only [RepL] at h'
    obtain ⟨v, vs, rfl, h2, h3⟩ := h'
    exact ovw_rep (off + 1) (h.set off h2) h3

/-- A struct or an array is built. -/
def fillF (place : Nat → Option (Nat × Nat)) (cells : List AV) : List (Nat × AV) → Option (List AV)
  | [] => some cells
  | (i, v) :: rest =>
    match place i, cellsF v with
    | some (off, size), some ds => if ds.length = size ∧ off + ds.length ≤ cells.length then fillF place (ovw cells off ds) rest else none
    | _, _ => none
def RepP (M : Nat → Prop) (w : World) : List (Nat × AV) → List (Nat × Value) → Prop
  | [], ps => ps = []
  | (i, a) :: as, ps => ∃ v r, ps = (i, v) :: r ∧ RepV M w a v ∧ RepP M w as r

theorem foldl_set (off : Nat) : ∀ (vs : List Value) (j : Nat) (cs : Array Value), ((vs.zipIdx j).foldl (fun cs (c, j) => cs.setIfInBounds (off + j) c) cs).toList = ovwV cs.toList (off + j) vs
  | [], _, _ => rfl
  | v :: vs, j, cs => by
    simp only [List.zipIdx_cons, List.foldl_cons, ovwV]
    rw [foldl_set off vs (j + 1)]
    simp [Nat.add_assoc]

theorem fill_run {M : Nat → Prop} {w : World} {place place' : Nat → Option (Nat × Nat)} (hp : ∀ i x, place i = some x → place' i = some x) : ∀ {ps : List (Nat × AV)} {qs : List (Nat × Value)} {cs : List AV} {us : Array Value} {r : List AV},
    fillF place cs ps = some r → RepP M w ps qs → RepL M w cs us.toList → ∃ z, Instr.fill place' us qs = some z ∧ RepL M w r z.toList
  | [], qs, cs, us, r, h, hq, hr => by
    simp only [fillF, Option.some.injEq] at h
    simp only [RepP] at hq
    subst h hq
    exact ⟨us, rfl, hr⟩
  | (i, a) :: ps, qs, cs, us, r, h, hq, hr => by
    simp only [RepP] at hq
    obtain ⟨v, q, rfl, h2, h3⟩ := hq
    simp only [fillF] at h
    split at h
    · rename_i off size ds h4 h5
      split at h
      · rename_i h6
        have h7 := cells_rep h5 h2
        have h8 := h7.length
        have h9 := hr.length
        simp only [Array.length_toList] at h8 h9
        simp only [Instr.fill, hp i _ h4]
        rw [if_neg (by simp; omega)]
        refine fill_run hp h h3 ?_
        rw [← Array.foldl_toList, Array.toList_zipIdx, foldl_set off v.cells.toList 0 us]
        exact ovw_rep _ hr h7
      · cases h
    · cases h

def buildF (T : Nat → Option TI) (t : TypeId) (ps : List (Nat × AV)) : Option (Prop × AV) :=
  match T t with
  | some ⟨.st fs _, _, z⟩ => (fillF (fun i => (fs[i]?).map fun f => (f.1, f.2.1)) z ps).map fun cs => (True, .agg cs)
  | some ⟨.arr _ _ es _ _, _, z⟩ => (fillF (fun i => some (i * es, es)) z ps).map fun cs => (True, .agg cs)
  | _ => none

theorem mapM_sizes {P : Program} {w : World} : ∀ (gs : List Field) (fs : List (Nat × Nat × Bool)), gs.map (fun g => (g.offset, (P.info? g.type).map (·.size), aggO P g.type)) = fs.map (fun f => (f.1, some f.2.1, some f.2.2)) →
    (gs.mapM (fun f => do pure (f.offset, ← sizeOf f.type) : Field → Sem (Nat × Nat))).run P w = .ok (fs.map fun f => (f.1, f.2.1)) w
  | [], [], _ => by simp
  | g :: gs, f :: fs, h => by
    simp only [List.map_cons, List.cons.injEq, Prod.mk.injEq] at h
    obtain ⟨⟨h1, h2, h3⟩, h4⟩ := h
    have ih := mapM_sizes (w := w) gs fs h4
    simp only [List.mapM_cons, Sem.run_bind, size_of h2, Result.andThen_ok, Sem.run_pure, ih, h1, List.map_cons]
  | [], _ :: _, h => by cases h
  | _ :: _, [], h => by cases h

theorem build_run {P : Program} {T : Nat → Option TI} (hT : TOk P T) {M : Nat → Prop} {w : World} {t : TypeId} {ps : List (Nat × AV)} {qs : Array (Nat × Value)} {c : Prop} {r : AV}
    (h : buildF T t ps = some (c, r)) (hq : RepP M w ps qs.toList) : ∃ z, (Instr.build t qs).run P w = .ok z w ∧ RepV M w r z := by
  unfold buildF at h
  split at h <;> try cases h
  · rename_i fs ek sz z ht
    obtain ⟨⟨i, zv, h1, h2, h3, h4⟩, ⟨gs, h5, h6⟩, _⟩ := hT _ _ ht
    simp only [Option.map_eq_some_iff, Prod.mk.injEq] at h
    obtain ⟨cs, h7, _, rfl⟩ := h
    obtain ⟨zz, h8, h9⟩ := fill_run (place' := fun i => (fs.map fun f => (f.1, f.2.1)).toArray[i]?) (fun i x hx => by simpa using hx) h7 hq (h4 M w)
    refine ⟨.agg zz, ?_, by simp only [RepV]; exact ⟨zz.toList, by simp, h9⟩⟩
    have hz : (zeroValue t).run P w = .ok zv w := by simp [zeroValue, typeInfo, h1, h3]
    have hm : (gs.mapM (fun f => do pure (f.offset, ← sizeOf f.type) : Field → Sem (Nat × Nat))).run P w = .ok (fs.map fun f => (f.1, f.2.1)).toArray w := by
      rw [Array.mapM_eq_mapM_toList, Sem.run_map, mapM_sizes _ _ h6]
      rfl
    simp only [Instr.build, Sem.run_bind, hz, Result.andThen_ok, run_underlying h5, hm, h8]
    rfl
  · rename_i n e es ea ek sz z ht
    obtain ⟨⟨i, zv, h1, h2, h3, h4⟩, h5, h6, _⟩ := hT _ _ ht
    simp only [Option.map_eq_some_iff, Prod.mk.injEq] at h
    obtain ⟨cs, h7, _, rfl⟩ := h
    obtain ⟨zz, h8, h9⟩ := fill_run (place' := fun i => some (i * es, es)) (fun i x hx => hx) h7 hq (h4 M w)
    refine ⟨.agg zz, ?_, by simp only [RepV]; exact ⟨zz.toList, by simp, h9⟩⟩
    have hz : (zeroValue t).run P w = .ok zv w := by simp [zeroValue, typeInfo, h1, h3]
    simp only [Instr.build, Sem.run_bind, hz, Result.andThen_ok, run_underlying h5, size_of h6, h8]
    rfl

/-- A slice is made of parts: of bytes (numbers); of other values. -/
def bytesOf : List AV → Option (Prop × List UInt8)
  | [] => some (True, [])
  | .one (.int .u8 n) :: r => (bytesOf r).map fun x => ((0 ≤ n ∧ n ≤ 255) ∧ x.1, u8 n :: x.2)
  | _ => none
theorem bytesOf_rep {M : Nat → Prop} {w : World} : ∀ {cs : List AV} {us : List Value} {c : Prop} {l : List UInt8}, bytesOf cs = some (c, l) → c → RepL M w cs us → us = bytesV l := by
  intro cs
  induction cs with
  | nil =>
    intro us c l h _ hr
    simp only [bytesOf, Option.some.injEq, Prod.mk.injEq] at h
    simp only [RepL] at hr
    obtain ⟨_, rfl⟩ := h
    exact hr
  | cons a r ih =>
    intro us c l h hc hr
    unfold bytesOf at h
    split at h
    · rename_i heq; cases heq
    · rename_i n r' heq
      injection heq with e1 e2
      subst e1 e2
      simp only [Option.map_eq_some_iff] at h
      obtain ⟨⟨c', l'⟩, h1, h2⟩ := h
      simp only [Prod.mk.injEq] at h2
      obtain ⟨h2, h3⟩ := h2
      subst h2 h3
      simp only [RepL, RepV] at hr
      obtain ⟨v, vs, rfl, rfl, h4⟩ := hr
      rw [ih h1 hc.2 h4]
      have := u8_toNat n
      simp only [bytesV, List.map_cons, byteV]
      congr 2
      omega
    · cases h

def makeSF (T : Nat → Option TI) (t : TypeId) (len : Nat) (ps : List (Nat × AV)) : Option (Prop × AV) :=
  match T t with
  | some ⟨.slc e es, _, _⟩ =>
    match T e with
    | some ⟨tk, sz, z⟩ => 
      match fillF (fun i => some (i * es, es)) (List.replicate len z).flatten ps with
      | some cs =>
        match tk with
        | .int .u8 => (bytesOf cs).map fun x => ((es = 1 ∧ sz = 1 ∧ z.length = 1 ∧ len ≤ 1000) ∧ x.1, .bs x.2)
        | _ => some (es = sz ∧ z.length = sz ∧ len * es ≤ 1000 ∧ 0 < es, .sl es cs)
      | none => none
    | none => none
  | _ => none

theorem range_mod (z : List Value) (s : Nat) (hs : z.length = s) (h0 : 0 < s) : ∀ len : Nat, (List.range (len * s)).map (fun i => z.toArray[i % s]!) = (List.replicate len z).flatten
  | 0 => by simp
  | n + 1 => by
    rw [List.replicate_succ', List.flatten_append, ← range_mod z s hs h0 n, Nat.add_mul, Nat.one_mul, List.range_add, List.map_append, List.map_map]
    congr 1
    simp only [List.flatten_singleton]
    apply List.ext_getElem
    · simp [hs]
    · intro i h1 h2
      have : i < s := by omega
      simp [Nat.mod_eq_of_lt this, h2]

theorem RepL.flatten {M : Nat → Prop} {w : World} {z : List AV} {zv : List Value} (h : RepL M w z zv) : ∀ len : Nat, RepL M w (List.replicate len z).flatten (List.replicate len zv).flatten
  | 0 => by simpa using RepL.nil
  | n + 1 => by
    simp only [List.replicate_succ, List.flatten_cons]
    exact h.append (RepL.flatten h n)

theorem SlM.fresh {M : Nat → Prop} {w : World} (hM : ∀ b, M b → b < w.heap.size) (e : TypeId) (cells : Array Value) (len k : Nat) (hl : cells.size = len * k) (hm : len ≤ maxLen) :
    SlM M (w.alloc (.cells cells e)) (.slice (some ⟨w.heap.size, 0, none⟩) len len) k cells.toList := by
  refine ⟨_, len, len, rfl, by simpa using hl, Nat.le_refl _, hm, (fun h => by cases h), fun h0 => ⟨_, 0, rfl, fun hb => ?_, fun i hi => ?_⟩⟩
  · have := hM _ hb
    omega
  · rw [cell_of_row _ w.heap.size (0 + i) cells e (0, 0) (heap_alloc_new w _)]
    have : i < cells.size := by simpa using hi
    simp [List.getD, this]

theorem makeS_run {P : Program} {T : Nat → Option TI} (hT : TOk P T) {M : Nat → Prop} {w : World} (hM : ∀ b, M b → b < w.heap.size) {t : TypeId} {len : Nat} {ps : List (Nat × AV)} {qs : Array (Nat × Value)} {c : Prop} {r : AV}
    (h : makeSF T t len ps = some (c, r)) (hc : c) (hq : RepP M w ps qs.toList) : ∃ z w', (Instr.buildSlice t len qs).run P w = .ok z w' ∧ Grow w w' ∧ RepV M w' r z := by
  unfold makeSF at h
  split at h <;> try cases h
  rename_i e es sz0 z0 ht
  obtain ⟨_, h5, h6, hbb⟩ := hT _ _ ht
  split at h <;> try cases h
  rename_i tk sz z he
  obtain ⟨⟨i, zv, h1, h2, h3, h4⟩, h7⟩ := hT _ _ he
  have hsz : sz = es := by
    rw [h1] at h6
    simp only [Option.map_some, Option.some.injEq] at h6
    simp only at h2
    omega
  subst hsz
  split at h <;> try cases h
  rename_i cs hf
  have hz := (h4 M w).length
  simp only [Array.length_toList] at hz
  have hzr : (zeroValue e).run P w = .ok zv w := by simp [zeroValue, typeInfo, h1, h3]
  have hlen : 0 < sz ∧ z.length = sz ∧ len ≤ 1000 ∧ len * sz ≤ 1000 := by
    split at h
    · simp only [Option.map_eq_some_iff, Prod.mk.injEq] at h
      obtain ⟨⟨c', l⟩, _, h9, _⟩ := h
      subst h9
      obtain ⟨⟨h1, h2', h3', h4'⟩, _⟩ := hc
      subst h1
      exact ⟨by omega, by omega, by omega, by omega⟩
    · simp only [Option.some.injEq, Prod.mk.injEq] at h
      obtain ⟨h9, _⟩ := h
      subst h9
      have : len * 1 ≤ len * sz := Nat.mul_le_mul_left _ (by omega)
      omega
  obtain ⟨g1, g2, g3, g4⟩ := hlen
  obtain ⟨zz, h8, h9⟩ := fill_run (place' := fun i => some (i * sz, sz)) (us := ((List.replicate len zv.cells.toList).flatten).toArray) (fun i x hx => hx) hf hq (by simpa using (h4 M w).flatten len)
  have hfl := h9.length
  have hcsl : cs.length = len * sz := by
    have : ∀ {ps : List (Nat × AV)} {cs r : List AV}, fillF (fun i => some (i * sz, sz)) cs ps = some r → r.length = cs.length := by
      intro ps
      induction ps with
      | nil => intro cs r h; simp only [fillF, Option.some.injEq] at h; rw [h]
      | cons p ps ih =>
        intro cs r h
        obtain ⟨i, v⟩ := p
        simp only [fillF] at h
        split at h <;> try cases h
        split at h <;> try cases h
        rw [ih h, ovw_length]
    rw [this hf]
    simp [g2]
  have hrun : (Instr.buildSlice t len qs).run P w = .ok (.slice (some ⟨w.heap.size, 0, none⟩) len len) (w.alloc (.cells zz e)) := by
    have hbig : ¬ len * sz > 2 ^ 24 := by omega
    simp only [Instr.buildSlice, Sem.run_bind, run_underlying h5, Result.andThen_ok, size_of h6, hbig, if_false]
    by_cases h0 : len * sz = 0
    · have hl0 : len = 0 := by
        rcases Nat.mul_eq_zero.1 h0 with h | h
        · exact h
        · omega
      subst hl0
      simp only [List.replicate_zero, List.flatten_nil] at h8
      have e0 : (Array.range (0 * sz)) = #[] := by simp
      rw [if_pos h0, e0]
      simp only [List.map_toArray, List.map_nil, h8]
      simp [newRow]
    · rw [if_neg h0]
      simp only [Sem.run_bind, hzr, Result.andThen_ok, Sem.run_pure]
      have hr := range_mod zv.cells.toList sz (by simp; omega) g1 len
      have : (Array.map (fun x => zv.cells[x % zv.cells.size]!) (Array.range (len * sz))) = ((List.replicate len zv.cells.toList).flatten).toArray := by
        apply Array.ext'
        simp only [Array.toList_map, Array.toList_range]
        rw [← hr]
        apply List.map_congr_left
        intro i _
        simp [hz, g2]
      rw [this, h8]
      simp [newRow]
  have hmax : len ≤ maxLen := by simp only [maxLen]; omega
  have hsl := SlM.fresh hM e zz len sz (by simp only [Array.length_toList] at hfl; omega) hmax
  refine ⟨_, _, hrun, Grow.a1 _ _, ?_⟩
  have h9' := h9.grow (Grow.a1 w (.cells zz e))
  split at h
  · simp only [Option.map_eq_some_iff, Prod.mk.injEq] at h
    obtain ⟨⟨c', l⟩, h10, h11, h12⟩ := h
    subst h11 h12
    have := bytesOf_rep h10 hc.2 h9'
    rw [RepV.bs_iff, ← this]
    have h1 := hc.1.1
    subst h1
    exact hsl
  · simp only [Option.some.injEq, Prod.mk.injEq] at h
    obtain ⟨_, rfl⟩ := h
    simp only [RepV]
    exact ⟨_, hsl, h9'⟩
/-- A row of zeros. -/
def zerosF (T : Nat → Option TI) (t : TypeId) (n m : Int) : Option (Prop × AV) :=
  match T t with
  | some ⟨.slc e es, _, _⟩ =>
    match T e with
    | some ⟨tk, sz, z⟩ =>
      match tk with
      | .int .u8 => match z with | [.one (.int .u8 zv)] => some (zv = 0 ∧ es = 1 ∧ sz = 1 ∧ n = m ∧ 0 ≤ n ∧ n ≤ 1000000, .bs (List.replicate n.toNat 0)) | _ => none
      | _ => some (es = sz ∧ z.length = sz ∧ 0 < es ∧ n = m ∧ 0 ≤ n ∧ n ≤ 1000000, .sl es (List.replicate n.toNat z).flatten)
    | none => none
  | _ => none

theorem zeros_run {P : Program} {T : Nat → Option TI} (hT : TOk P T) {M : Nat → Prop} {w : World} (hM : ∀ b, M b → b < w.heap.size) {t : TypeId} {n m : Int} {k k' : IntKind} {c : Prop} {r : AV}
    (h : zerosF T t n m = some (c, r)) (hc : c) : ∃ z w', (Instr.makeSlice t (.int k n) (.int k' m)).run P w = .ok z w' ∧ Grow w w' ∧ RepV M w' r z := by
  unfold zerosF at h
  split at h <;> try cases h
  rename_i e es sz0 z0 ht
  obtain ⟨_, h5, h6, h6b⟩ := hT _ _ ht
  split at h <;> try cases h
  rename_i tk sz z he
  obtain ⟨⟨i, zv, h1, h2, h3, h4⟩, h7⟩ := hT _ _ he
  have hsz : sz = es := by
    rw [h1] at h6
    simp only [Option.map_some, Option.some.injEq] at h6
    simp only at h2
    omega
  subst hsz
  simp only at h2
  have hz := (h4 M w).length
  simp only [Array.length_toList] at hz
  have key : z.length = sz → 0 < sz → n = m → 0 ≤ n → n ≤ 1000000 → ∃ v w', (Instr.makeSlice t (.int k n) (.int k' m)).run P w = .ok v w' ∧ Grow w w' ∧ SlM M w' v sz (List.replicate n.toNat zv.cells.toList).flatten ∧ RepL M w' (List.replicate n.toNat z).flatten (List.replicate n.toNat zv.cells.toList).flatten := by
    intro g1 g2 g3 g4 g5
    subst g3
    have hb := h6b i h1
    have hrun := run_make (P := P) w t e i zv h5 h1 h3 k k' n n g4 (Int.le_refl _) (by
      have : (i.bytes : Int) * n ≤ 65536 * n := Int.mul_le_mul_of_nonneg_right (by omega) g4
      omega) (by omega)
    rw [h2] at hrun
    have hcells : (madeCells zv.cells (n.toNat * sz)).toList = (List.replicate n.toNat zv.cells.toList).flatten := by
      rw [← range_mod zv.cells.toList sz (by simp; omega) g2 n.toNat]
      simp only [madeCells, Array.toList_map, Array.toList_range]
      apply List.map_congr_left
      intro j _
      simp [hz, g1]
    have hsl := SlM.fresh hM e (madeCells zv.cells (n.toNat * sz)) n.toNat sz (size_madeCells _ _) (by simp only [maxLen]; omega)
    rw [hcells] at hsl
    exact ⟨_, _, hrun, Grow.a1 _ _, hsl, ((h4 M w).flatten n.toNat).grow (Grow.a1 _ _)⟩
  split at h
  · split at h <;> try cases h
    rename_i zc
    obtain ⟨c1, c2, c3, c4, c5, c6⟩ := hc
    subst c1
    obtain ⟨v, w', k1, k2, k3, k4⟩ := key (by simp [c3]) (by omega) c4 c5 c6
    refine ⟨v, w', k1, k2, ?_⟩
    rw [RepV.bs_iff]
    have e : zv.cells.toList = [.int .u8 0] := by
      have := h4 M w
      simpa [RepL, RepV] using this
    rw [e] at k3
    have e2 : (List.replicate n.toNat [Value.int .u8 0]).flatten = bytesV (List.replicate n.toNat 0) := by
      simp [bytesV, byteV]
    rw [e2] at k3
    rw [c2] at k3
    exact k3
  · simp only [Option.some.injEq, Prod.mk.injEq] at h
    obtain ⟨h8, h9⟩ := h
    subst h8 h9
    obtain ⟨c2, c3, c4, c5, c6, c7⟩ := hc
    obtain ⟨v, w', k1, k2, k3, k4⟩ := key c3 c4 c5 c6 c7
    refine ⟨v, w', k1, k2, ?_⟩
    simp only [RepV]
    exact ⟨_, k3, k4⟩
end Go.Proofs.Ythjojkkapboonaa
