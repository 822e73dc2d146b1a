/- Every operation that only reads, computes and makes memory: what it makes of what is known; that it does. No program in sight. -/
import Derived.Test.YthjojkkapboonaaBD
namespace Go.Proofs.Ythjojkkapboonaa
set_option linter.unusedSimpArgs false
set_option linter.unusedVariables false
open Go.RowKit

def partsF (ev : Operand → TV) : List (Nat × Operand) → Option (List (Nat × AV))
  | [] => some []
  | (i, x) :: r => match ev x with | .v a => (partsF ev r).map ((i, a) :: ·) | _ => none
def argsF (ev : Operand → TV) : List Operand → Option (List AV)
  | [] => some []
  | x :: r => match ev x with | .v a => (argsF ev r).map (a :: ·) | _ => none

def lenF (T : Nat → Option TI) (t : TypeId) : AV → Option (Prop × TV)
  | .bs l => match T t with | some ⟨.slc _ _, _, _⟩ => some (True, .v (.one (.int .i64 (l.length : Int)))) | _ => none
  | .sl k cs => match T t with | some ⟨.slc _ _, _, _⟩ => some (0 < k, .v (.one (.int .i64 ((cs.length / k : Nat) : Int)))) | _ => none
  | .one (.string s) => match T t with | some ⟨.str, _, _⟩ => some (True, .v (.one (.int .i64 (s.size : Int)))) | _ => none
  | _ => none

def byteA (x : UInt8) : AV := .one (.int .u8 (x.toNat : Int))
def bytesL (l : List UInt8) : List AV := l.map byteA
open Classical in
/-- Cells in a row, as bytes if they are bytes. -/
noncomputable def asB (cs : List AV) : AV := if h : ∃ l, cs = bytesL l then .bs (Classical.choose h) else .sl 1 cs
theorem byteA_inj {x y : UInt8} (h : byteA x = byteA y) : x = y := by
  simp only [byteA, AV.one.injEq, Value.int.injEq, true_and] at h
  exact UInt8.toNat_inj.1 (by omega)
theorem bytesL_inj : ∀ {l m : List UInt8}, bytesL l = bytesL m → l = m
  | [], [], _ => rfl
  | [], _ :: _, h => by simp [bytesL] at h
  | _ :: _, [], h => by simp [bytesL] at h
  | x :: l, y :: m, h => by
    simp only [bytesL, List.map_cons, List.cons.injEq] at h
    rw [byteA_inj h.1, bytesL_inj h.2]
theorem asB_bytes (l : List UInt8) : asB (bytesL l) = .bs l := by
  have h : ∃ m, bytesL l = bytesL m := ⟨l, rfl⟩
  rw [asB, dif_pos h]
  exact congrArg AV.bs (bytesL_inj (Classical.choose_spec h)).symm
theorem bytesL_len (l : List UInt8) : (bytesL l).length = l.length := by simp [bytesL]
theorem bytesL_rep {M : Nat → Prop} {w : World} : ∀ {l : List UInt8} {us : List Value}, RepL M w (bytesL l) us ↔ us = bytesV l
  | [], us => by simp [bytesL, RepL, bytesV]
  | x :: l, us => by
    have ih := fun us => bytesL_rep (M := M) (w := w) (l := l) (us := us)
    simp only [bytesL, bytesV] at ih
    simp only [bytesL, List.map_cons, RepL, byteA, RepV, bytesV]
    constructor
    · rintro ⟨v, vs, rfl, rfl, h⟩
      rw [(ih vs).1 h]
      rfl
    · rintro rfl
      exact ⟨_, _, rfl, rfl, (ih _).2 rfl⟩
theorem asB_rep {M : Nat → Prop} {w : World} {cs : List AV} {v : Value} (h : RepV M w (.sl 1 cs) v) : RepV M w (asB cs) v := by
  unfold asB
  split
  · rename_i hex
    simp only [RepV] at h
    obtain ⟨us, h1, h2⟩ := h
    rw [Classical.choose_spec hex] at h2
    rw [bytesL_rep.1 h2] at h1
    exact RepV.bs_iff.2 h1
  · exact h

def hopG (T : Nat → Option TI) (ev : Operand → TV) (H : List (Bool × List AV)) : Op → Option (Prop × TV)
  | .move x => some (True, ev x)
  | .assign x => some (True, ev x)
  | .nilCheck x => match ev x with | .p n o => some (True, .p n o) | .q cs => some (True, .q cs) | _ => none
  | .binOp op t x y _ => match T t, ev x, ev y with | some ti, .v a, .v b => (binF ti.k op a b).map fun r => (r.1, .v r.2) | _, _, _ => none
  | .unOp op _ x => match ev x with | .v a => (unF op a).map fun r => (r.1, .v r.2) | _ => none
  | .convert s d x => match T s, T d, ev x with | some ks, some kd, .v a => (convF (ks.k.elemOf T) kd.k a).map fun r => (r.1, .v r.2) | _, _, _ => none
  | .load t x => match T t with
    | some ti => match ev x with
      | .p n off => match H[n]? with | some (_, cs) => (loadF ti (cs.drop off)).map fun r => (r.1, .v r.2) | none => none
      | .q cs => (loadF ti cs).map fun r => (r.1, .v r.2)
      | _ => none
    | none => none
  | .fieldAddr t x f => match T t with
    | some ⟨.st fs _, _, _⟩ => match fs[f]? with
      | some (o, sz, _) => match ev x with | .p n off => some (sz ≠ 0, .p n (off + o)) | .q cs => some (sz ≠ 0 ∧ o < cs.length, .q (cs.drop o)) | _ => none
      | none => none
    | _ => none
  | .indexAddr t x i => match T t, ev x, ev i with
    | some ⟨.arr n _ es _ _, _, _⟩, .p b off, .v (.one (.int _ j)) => some (0 ≤ j ∧ j < n, .p b (off + j.toNat * es))
    | some ⟨.arr n _ es _ _, _, _⟩, .q cs, .v (.one (.int _ j)) => some (0 ≤ j ∧ j < n ∧ j.toNat * es < cs.length, .q (cs.drop (j.toNat * es)))
    | some ⟨.slc _ es, _, _⟩, .v (.bs l), .v (.one (.int _ j)) => some (es = 1 ∧ 0 ≤ j ∧ j < l.length, .q [.one (.int .u8 ((l.getD j.toNat 0).toNat : Int))])
    | some ⟨.slc _ es, _, _⟩, .v (.sl k cs), .v (.one (.int _ j)) => some (es = k ∧ 0 < k ∧ 0 ≤ j ∧ (j.toNat + 1) * k ≤ cs.length, .q ((cs.drop (j.toNat * k)).take k))
    | some ⟨.slc _ es, _, _⟩, .s b off len, .v (.one (.int _ j)) => some (es = 1 ∧ 0 ≤ j ∧ j < len, .p b (off + j.toNat))
    | _, _, _ => none
  | .index t x i => match T t, ev x, ev i with
    | some ⟨.arr n _ es ea _, _, _⟩, .v (.agg cs), .v (.one (.int _ j)) => (partF ea es (j.toNat * es) cs).map fun r => ((0 ≤ j ∧ j < n) ∧ r.1, .v r.2)
    | some ⟨.str, _, _⟩, .v (.one (.string s)), .v (.one (.int _ j)) => some (0 ≤ j ∧ j < s.size, .v (.one (.int .u8 ((s.toList.getD j.toNat 0).toNat : Int))))
    | _, _, _ => none
  | .field t x f => match T t with
    | some ⟨.st fs _, _, _⟩ => match fs[f]?, ev x with
      | some (o, sz, ag), .v (.agg cs) => (partF ag sz o cs).map fun r => (r.1, .v r.2)
      | _, _ => none
    | _ => none
  | .makeInterface t x => match T t, ev x with
    | some ⟨.oth, _, _⟩, _ => none
    | some ⟨.ifc, _, _⟩, _ => none
    | some _, .v a => some (True, .v (.ifc t a))
    | _, _ => none
  | .typeAssert x _ t ok => match T t, ev x with
    | some ⟨.st _ _, _, z⟩, .v (.ifc t' a) => if t' = t then (match ok with | true => some (True, .v (.tup [a, .one (.bool true)])) | false => some (True, .v a)) else (match ok with | true => some (True, .v (.tup [.agg z, .one (.bool false)])) | false => none)
    | some ⟨.st _ _, _, z⟩, .v (.one .nilIface) => match ok with | true => some (True, .v (.tup [.agg z, .one (.bool false)])) | false => none
    | _, _ => none
  | .extract x i => match ev x with | .v (.tup cs) => (cs[i]?).map fun c => (True, .v c) | _ => none
  | .build t ps => match partsF ev ps.toList with | some qs => (buildF T t qs).map fun r => (r.1, .v r.2) | none => none
  | .buildSlice t len ps => match partsF ev ps.toList with | some qs => (makeSF T t len qs).map fun r => (r.1, .v r.2) | none => none
  | .makeSlice t x y => match ev x, ev y with | .v (.one (.int _ n)), .v (.one (.int _ m)) => (zerosF T t n m).map fun r => (r.1, .v r.2) | _, _ => none
  | .slice t x lo hi none => match ev x with
    | .v a => (cutF T t a (lo.map ev) (hi.map ev)).map fun r => (r.1, .v r.2)
    | .p n off => match H[n]? with
      | some (true, _) => match T t, lo, hi with | some ⟨.arr len _ 1 _ _, _, _⟩, none, none => some (True, .s n off len) | _, _, _ => none
      | _ => (cutAF T H t n off (lo.map ev) (hi.map ev)).map fun r => (r.1, .v r.2)
    | _ => none
  | .call ⟨.builtin .len, ⟨[x]⟩, ⟨[t]⟩⟩ => match ev x with | .v a => lenF T t a | _ => none
  | .call ⟨.builtin .min, ⟨[x, y]⟩, _⟩ => match ev x, ev y with | .v (.one (.int k a)), .v (.one (.int k' b)) => some (k = k', .v (.one (.int k (if b < a then b else a)))) | _, _ => none
  | .call ⟨.builtin .max, ⟨[x, y]⟩, _⟩ => match ev x, ev y with | .v (.one (.int k a)), .v (.one (.int k' b)) => some (k = k', .v (.one (.int k (if b > a then b else a)))) | _, _ => none
  | _ => none

theorem wp_value {P : Program} {o : Oper} {a : Act} {w w' : World} {v : Value} {K : Act → World → Prop} {Q : Exit → Act → World → Prop} (h : (execOp a.eval o).run P w = .ok (.value v) w') (hK : K (a.put o.dst v) w') : o.wp P a w K Q := by
  unfold Oper.wp
  rw [h]
  exact hK

theorem parts_rep {ρ : Nat → Nat} {L : List (Bool × List AV)} {M : Nat → Prop} {w : World} {ev : Operand → TV} {ea : Operand → Value} : ∀ {ps : List (Nat × Operand)} {qs : List (Nat × AV)}, partsF ev ps = some qs → (∀ x ∈ ps.map (·.2), RepT ρ L M w (ev x) (ea x)) →
    RepP M w qs (ps.map fun p => (p.1, ea p.2))
  | [], qs, h, _ => by
    simp only [partsF, Option.some.injEq] at h
    subst h
    rfl
  | (i, x) :: r, qs, h, hx => by
    simp only [partsF] at h
    split at h <;> try cases h
    rename_i a ha
    simp only [Option.map_eq_some_iff] at h
    obtain ⟨q, h1, rfl⟩ := h
    have hx0 := hx x (by simp)
    rw [ha] at hx0
    exact ⟨_, _, rfl, hx0, parts_rep h1 (fun y hy => hx y (by simp at hy ⊢; right; exact hy))⟩
theorem args_rep {ρ : Nat → Nat} {L : List (Bool × List AV)} {M : Nat → Prop} {w : World} {ev : Operand → TV} {ea : Operand → Value} : ∀ {ps : List Operand} {qs : List AV}, argsF ev ps = some qs → (∀ x ∈ ps, RepT ρ L M w (ev x) (ea x)) → RepL M w qs (ps.map ea)
  | [], qs, h, _ => by
    simp only [argsF, Option.some.injEq] at h
    subst h
    exact RepL.nil
  | x :: r, qs, h, hx => by
    simp only [argsF] at h
    split at h <;> try cases h
    rename_i a ha
    simp only [Option.map_eq_some_iff] at h
    obtain ⟨q, h1, rfl⟩ := h
    have hx0 := hx x (by simp)
    rw [ha] at hx0
    exact RepL.cons hx0 (args_rep h1 (fun y hy => hx y (by simp [hy])))

theorem repO_map {ρ : Nat → Nat} {L : List (Bool × List AV)} {M : Nat → Prop} {w : World} {ev : Operand → TV} {ea : Operand → Value} (lo : Option Operand) (h : ∀ x, lo = some x → RepT ρ L M w (ev x) (ea x)) : RepO ρ L M w (lo.map ev) (lo.map ea) := by
  cases lo with
  | none => rfl
  | some x => exact ⟨_, rfl, h x rfl⟩

theorem repT_one {ρ : Nat → Nat} {L : List (Bool × List AV)} {M : Nat → Prop} {w : World} {u : Value} : RepT ρ L M w (.v (.one u)) u := (RepV.one_iff (M := M) (w := w)).2 rfl

theorem field_of {P : Program} {gs : Array Field} {fs : List (Nat × Nat × Bool)} {f o sz : Nat} {ag : Bool} (g2 : gs.toList.map (fun g => (g.offset, (P.info? g.type).map (·.size), aggO P g.type)) = fs.map (fun f => (f.1, some f.2.1, some f.2.2)))
    (hf : fs[f]? = some (o, sz, ag)) : ∃ g, gs[f]? = some g ∧ g.offset = o ∧ (P.info? g.type).map (·.size) = some sz ∧ aggO P g.type = some ag := by
  have := congrArg (·[f]?) g2
  simp only [List.getElem?_map, hf, Option.map_some] at this
  cases hgf : gs.toList[f]? with
  | none => rw [hgf] at this; cases this
  | some g =>
    rw [hgf] at this
    simp only [Option.map_some, Option.some.injEq, Prod.mk.injEq] at this
    exact ⟨g, by simpa using hgf, this.1, this.2.1, this.2.2⟩

section
variable {P : Program} {T : Nat → Option TI} {w0 : World} {M0 : Nat → Prop} {ρ : Nat → Nat} {H : List (Bool × List AV)} {w : World} {ev : Operand → TV} {ea : Operand → Value}

/-- An operation that makes no memory and calls nothing. -/
def quiet : Op → Bool
  | .buildSlice .. => false
  | .makeSlice .. => false
  | .call ⟨.value _, _, _⟩ => false
  | _ => true

theorem hopG_run (hT : TOk P T) (hH : HOk w0 M0 ρ H w) {o : Oper} (hq : (∀ b, MM M0 ρ H b → b < w.heap.size) ∨ quiet o.op = true) {c : Prop} {tv : TV} (h : hopG T ev H o.op = some (c, tv)) (hc : c) (hev : ∀ x ∈ o.op.operands, RepT ρ H (MM M0 ρ H) w (ev x) (ea x)) :
    ∃ v w', (execOp ea o).run P w = .ok (.value v) w' ∧ Grow w w' ∧ RepT ρ H (MM M0 ρ H) w' tv v := by
  obtain ⟨dst, op, ty, pos, after, guard⟩ := o
  simp only at h hev hq
  have hq0 := hq
  clear hq
  unfold hopG at h
  split at h
  · -- move
    simp only [Option.some.injEq, Prod.mk.injEq] at h
    obtain ⟨_, rfl⟩ := h
    exact ⟨_, w, by simp [execOp], Grow.refl _, hev _ (by simp [Op.operands])⟩
  · simp only [Option.some.injEq, Prod.mk.injEq] at h
    obtain ⟨_, rfl⟩ := h
    exact ⟨_, w, by simp [execOp], Grow.refl _, hev _ (by simp [Op.operands])⟩
  · -- nilCheck
    rename_i x
    have hx := hev x (by simp [Op.operands])
    split at h <;> simp only [Option.some.injEq, Prod.mk.injEq, reduceCtorEq] at h
    all_goals (rename_i heq; obtain ⟨_, rfl⟩ := h; rw [heq] at hx)
    · have hp := hx.2
      exact ⟨ea x, w, by simp [execOp, hp], Grow.refl _, hx⟩
    · have hx' := hx
      obtain ⟨b, o, us, hp, _⟩ := hx'
      exact ⟨ea x, w, by simp [execOp, hp], Grow.refl _, hx⟩
  · -- binOp
    rename_i op t x y yt
    have hx := hev x (by simp [Op.operands])
    have hy := hev y (by simp [Op.operands])
    split at h <;> try cases h
    rename_i ti a b ht ha hb
    rw [ha] at hx
    rw [hb] at hy
    simp only [Option.map_eq_some_iff, Prod.mk.injEq] at h
    obtain ⟨⟨c', r⟩, h1, h2, h3⟩ := h
    subst h2 h3
    obtain ⟨z, h4, h5⟩ := bin_run (x := x) (y := y) (hT _ _ ht).2 h1 hc hx hy
    refine ⟨z, w, ?_, Grow.refl _, h5⟩
    simp only [execOp, Sem.run_bind] at h4 ⊢
    rw [h4]
    rfl
  · rename_i op t x
    have hx := hev x (by simp [Op.operands])
    split at h <;> try cases h
    rename_i a ha
    rw [ha] at hx
    simp only [Option.map_eq_some_iff, Prod.mk.injEq] at h
    obtain ⟨⟨c', r⟩, h1, h2, h3⟩ := h
    subst h2 h3
    obtain ⟨z, h4, h5⟩ := un_run (P := P) h1 hx
    exact ⟨z, w, by simp [execOp, h4], Grow.refl _, h5⟩
  · -- convert
    rename_i s d x
    have hx := hev x (by simp [Op.operands])
    split at h <;> try cases h
    rename_i ks kd a hs hd ha
    rw [ha] at hx
    simp only [Option.map_eq_some_iff, Prod.mk.injEq] at h
    obtain ⟨⟨c', r⟩, h1, h2, h3⟩ := h
    subst h2 h3
    have hsk := (hT _ _ hs).2
    have hdk := (hT _ _ hd).2
    have hsi : (P.underlying s).isSome = true := by
      revert hsk
      cases ks.k <;> simp only [TKOk] <;> intro hsk
      case slc => simp [hsk.1]
      case arr => simp [hsk.1]
      case st => obtain ⟨⟨_, h, _⟩, _⟩ := hsk; simp [h]
      case oth => simp only [aggO, Option.map_eq_some_iff] at hsk; obtain ⟨d, hd, _⟩ := hsk; simp [hd]
      all_goals simp [hsk]
    unfold convF at h1
    split at h1
    · rename_i k n
      split at h1 <;> simp only [Option.some.injEq, Prod.mk.injEq, reduceCtorEq] at h1
      rename_i k' hk'
      obtain ⟨_, rfl⟩ := h1
      rw [hk'] at hdk
      simp only [TKOk] at hdk
      have hx : ea x = .int k n := hx
      have hik : P.intKind d = k' := by simp [Program.intKind, hdk]
      have := run_convert_int (P := P) w s d k n hsi (by rw [hik]; exact hdk)
      rw [hik] at this
      exact ⟨.int k' (k'.wrap n), w, by simp [execOp, hx, this], Grow.refl _, rfl⟩
    · rename_i l
      split at h1 <;> simp only [Option.some.injEq, Prod.mk.injEq, reduceCtorEq] at h1
      rename_i hk1 hk2
      obtain ⟨_, rfl⟩ := h1
      rw [hk2] at hdk
      simp only [TKOk] at hdk
      have hb := RepV.isB (show RepV (MM M0 ρ H) w (.bs l) (ea x) from hx)
      unfold TK.elemOf at hk1
      split at hk1 <;> try cases hk1
      rename_i e es hk
      rw [hk] at hsk
      simp only [TKOk] at hsk
      simp only [Option.map_eq_some_iff] at hk1
      obtain ⟨te, he, hek⟩ := hk1
      have hek2 := (hT _ _ he).2
      rw [hek] at hek2
      simp only [TKOk] at hek2
      exact ⟨_, w, by simp [execOp, hb.convert (P := P) s e d hsk.1 hek2 hdk], Grow.refl _, rfl⟩
    · cases h1
  · -- load
    rename_i t x
    have hx := hev x (by simp [Op.operands])
    split at h <;> try cases h
    rename_i ti ht
    split at h <;> try cases h
    · rename_i n off ha
      rw [ha] at hx
      obtain ⟨_, hx⟩ := hx
      split at h <;> try cases h
      rename_i m cs hn
      simp only [Option.map_eq_some_iff, Prod.mk.injEq] at h
      obtain ⟨⟨c', r⟩, h1, h2, h3⟩ := h
      subst h2 h3
      obtain ⟨us, h4, h5⟩ := hH.cell hn
      obtain ⟨z, h6, h7⟩ := load_run (b := ρ n) (o := off) (hT _ _ ht) h1 hc (h4.drop off) (fun i hi => by
        rw [h5 (off + i) (by simp at hi; omega)]
        simp [List.getD, List.getElem?_drop])
      exact ⟨z, w, by simp [execOp, hx, Instr.loadAt, Instr.sureAddr, h6], Grow.refl _, h7⟩
    · rename_i cs ha
      rw [ha] at hx
      obtain ⟨b, o, us, hx, h0, h1, h4, h5⟩ := hx
      simp only [Option.map_eq_some_iff, Prod.mk.injEq] at h
      obtain ⟨⟨c', r⟩, h1, h2, h3⟩ := h
      subst h2 h3
      obtain ⟨z, h6, h7⟩ := load_run (b := b) (o := o) (hT _ _ ht) h1 hc h5 h4
      exact ⟨z, w, by simp [execOp, hx, Instr.loadAt, Instr.sureAddr, h6], Grow.refl _, h7⟩
  · -- fieldAddr
    rename_i t x f
    have hx := hev x (by simp [Op.operands])
    split at h <;> try cases h
    rename_i fs ek _ _ ht
    obtain ⟨_, ⟨gs, g1, g2⟩, _⟩ := hT _ _ ht
    split at h <;> try cases h
    rename_i o sz ag hf
    obtain ⟨g, g3, g4, g5, _⟩ := field_of g2 hf
    split at h <;> simp only [Option.some.injEq, Prod.mk.injEq, reduceCtorEq] at h
    all_goals (rename_i ha; obtain ⟨h1, rfl⟩ := h; subst h1; rw [ha] at hx)
    · obtain ⟨hl, hx⟩ := hx
      refine ⟨.pointer (some ⟨ρ _, _ + o, none⟩), w, ?_, Grow.refl _, ⟨hl, rfl⟩⟩
      simp [execOp, hx, Instr.fieldAt, Instr.sureAddr, run_underlying g1, g3, fieldPlace, size_of g5, hc, g4, Addr.add_lit]
    · obtain ⟨b, o', us, hx, h0, h1, h4, h5⟩ := hx
      obtain ⟨c1, c2⟩ := hc
      have hl := h5.length
      refine ⟨.pointer (some ⟨b, o' + o, none⟩), w, ?_, Grow.refl _, ⟨b, o' + o, us.drop o, rfl, by simp; omega, h1, fun i hi => ?_, h5.drop o⟩⟩
      · simp [execOp, hx, Instr.fieldAt, Instr.sureAddr, run_underlying g1, g3, fieldPlace, size_of g5, c1, g4, Addr.add_lit]
      · rw [Nat.add_assoc, h4 (o + i) (by simp at hi; omega)]
        simp [List.getD, List.getElem?_drop]
  · -- indexAddr
    rename_i t x i
    have hx := hev x (by simp [Op.operands])
    have hi := hev i (by simp [Op.operands])
    split at h <;> simp only [Option.some.injEq, Prod.mk.injEq, reduceCtorEq] at h
    all_goals (rename_i ht ha hi'; obtain ⟨h1, rfl⟩ := h; subst h1; rw [ha] at hx; rw [hi'] at hi)
    · obtain ⟨_, k1, k2, _⟩ := hT _ _ ht
      obtain ⟨hl, hx⟩ := hx
      have hi : ea i = .int _ _ := hi
      refine ⟨_, w, ?_, Grow.refl _, ⟨hl, rfl⟩⟩
      simp [execOp, hx, hi, Instr.indexAt, Instr.sureAddr, run_underlying k1, asIntOf, size_of k2, hc, Addr.add_lit]
    · rename_i n _ es _ _ _ _ cs k j
      obtain ⟨_, k1, k2, _⟩ := hT _ _ ht
      obtain ⟨b, o', us, hx, h0, h1, h4, h5⟩ := hx
      have hi : ea i = .int _ _ := hi
      obtain ⟨c1, c2, c3⟩ := hc
      have hl := h5.length
      refine ⟨.pointer (some ⟨b, o' + j.toNat * es, none⟩), w, ?_, Grow.refl _, ⟨b, o' + j.toNat * es, us.drop (j.toNat * es), rfl, by simp; omega, h1, fun i hi => ?_, h5.drop _⟩⟩
      · simp [execOp, hx, hi, Instr.indexAt, Instr.sureAddr, run_underlying k1, asIntOf, size_of k2, c1, c2, Addr.add_lit]
      · rw [Nat.add_assoc, h4 (j.toNat * es + i) (by simp at hi; omega)]
        simp [List.getD, List.getElem?_drop]
    · rename_i e es _ _ l k j
      obtain ⟨_, k1, k2, kbb⟩ := hT _ _ ht
      have hi : ea i = .int _ _ := hi
      obtain ⟨c0, c1, c2⟩ := hc
      subst c0
      have hx : RepV (MM M0 ρ H) w (.bs l) (ea x) := hx
      rw [RepV.bs_iff] at hx
      obtain ⟨p, len, cap, hx, g1, g2, g3, g4, g5⟩ := hx
      simp only [length_bytesV, Nat.mul_one] at g1 g5
      subst g1
      obtain ⟨b, o, rfl, g6, g7⟩ := g5 (by omega)
      have hjl : j.toNat < l.length := by omega
      refine ⟨.pointer (some ⟨b, o + j.toNat, none⟩), w, ?_, Grow.refl _, ⟨b, o + j.toNat, [.int .u8 ((l.getD j.toNat 0).toNat : Int)], rfl, by simp, g6, fun i hi => ?_, RepL.cons (RepV.one_iff.2 rfl) RepL.nil⟩⟩
      · simp [execOp, hx, hi, Instr.indexAt, run_underlying k1, asIntOf, size_of k2, c1, c2, Addr.add_lit]
      · obtain rfl : i = 0 := by simp at hi; omega
        rw [Nat.add_zero, g7 _ hjl, getD_bytesV l _ hjl]
        rfl
    · rename_i e es _ _ k0 cs k j
      obtain ⟨_, k1, k2, kbb⟩ := hT _ _ ht
      have hi : ea i = .int _ _ := hi
      obtain ⟨c0, c1, c2, c3⟩ := hc
      subst c0
      have hx : RepV (MM M0 ρ H) w (.sl es cs) (ea x) := hx
      simp only [RepV] at hx
      obtain ⟨us, ⟨p, len, cap, hx, g1, g2, g3, g4, g5⟩, hr⟩ := hx
      have hl := hr.length
      have hm : (j.toNat + 1) * es = j.toNat * es + es := by rw [Nat.add_mul, Nat.one_mul]
      obtain ⟨b, o, rfl, g6, g7⟩ := g5 (by omega)
      have hjl : j.toNat < len := by
        rcases Nat.lt_or_ge j.toNat len with h | h
        · exact h
        · have := Nat.mul_le_mul_right es h
          omega
      have hjl' : j < (len : Int) := by omega
      refine ⟨.pointer (some ⟨b, o + j.toNat * es, none⟩), w, ?_, Grow.refl _, ⟨b, o + j.toNat * es, (us.drop (j.toNat * es)).take es, rfl, by simp; omega, g6, fun i hi => ?_, (hr.drop _).take _⟩⟩
      · simp [execOp, hx, hi, Instr.indexAt, run_underlying k1, asIntOf, size_of k2, c2, hjl', Addr.add_lit]
      · have hi2 : i < es := by simp at hi; omega
        rw [Nat.add_assoc, g7 _ (by omega)]
        simp [List.getD, List.getElem?_drop, hi2]
    · obtain ⟨_, k1, k2, kbb⟩ := hT _ _ ht
      have hi : ea i = .int _ _ := hi
      obtain ⟨c0, c1, c2⟩ := hc
      subst c0
      obtain ⟨hnl, hx⟩ := hx
      refine ⟨_, w, ?_, Grow.refl _, ⟨hnl, rfl⟩⟩
      simp [execOp, hx, hi, Instr.indexAt, run_underlying k1, asIntOf, size_of k2, c1, c2, Addr.add_lit]
  · -- index
    rename_i t x i
    have hx := hev x (by simp [Op.operands])
    have hi := hev i (by simp [Op.operands])
    split at h <;> try cases h
    · rename_i n e es ea' ek _ _ cs k j ht ha hi'
      obtain ⟨_, k1, k2, k3, _⟩ := hT _ _ ht
      rw [ha] at hx
      rw [hi'] at hi
      have hi : ea i = .int _ _ := hi
      simp only [Option.map_eq_some_iff, Prod.mk.injEq] at h
      obtain ⟨⟨c', r⟩, h1, h2, h3⟩ := h
      subst h2 h3
      have hx : RepV (MM M0 ρ H) w (.agg cs) (ea x) := hx
      simp only [RepV] at hx
      obtain ⟨us, hx, hr⟩ := hx
      obtain ⟨z, h6, h7⟩ := part_run (P := P) k2 (agg_run k3) h1 hr
      exact ⟨z, w, by simp [execOp, hx, hi, Instr.index, run_underlying k1, asIntOf, size_of k2, hc.1, h6], Grow.refl _, h7⟩
    · rename_i s k j ht ha hi'
      have k1 := (hT _ _ ht).2
      simp only [TKOk] at k1
      rw [ha] at hx
      rw [hi'] at hi
      have hi : ea i = .int _ _ := hi
      have hx : ea x = .string s := hx
      refine ⟨.int .u8 ((s.toList.getD j.toNat 0).toNat : Int), w, ?_, Grow.refl _, repT_one⟩
      have hj : j.toNat < s.size := by omega
      have : s[j.toNat]? = some (s.toList.getD j.toNat 0) := by
        obtain ⟨⟨d⟩⟩ := s
        have e : (ByteArray.mk ⟨d⟩).toList = d := ByteArray.toList_mk d
        rw [e]
        have hj' : j.toNat < d.length := hj
        rw [getElem?_pos (ByteArray.mk ⟨d⟩) j.toNat hj]
        simp [List.getD, hj']
        rfl
      simp [execOp, hx, hi, Instr.index, run_underlying k1, asIntOf, hc.1, this]
  · -- field
    rename_i t x f
    have hx := hev x (by simp [Op.operands])
    split at h <;> try cases h
    rename_i fs ek _ _ ht
    obtain ⟨_, ⟨gs, g1, g2⟩, _⟩ := hT _ _ ht
    split at h <;> try cases h
    rename_i o sz ag cs hf ha
    obtain ⟨g, g3, g4, g5, g6⟩ := field_of g2 hf
    rw [ha] at hx
    have hx : RepV (MM M0 ρ H) w (.agg cs) (ea x) := hx
    simp only [RepV] at hx
    obtain ⟨us, hx, hr⟩ := hx
    simp only [Option.map_eq_some_iff, Prod.mk.injEq] at h
    obtain ⟨⟨c', r⟩, h1, h2, h3⟩ := h
    subst h2 h3
    obtain ⟨z, h6, h7⟩ := part_run (P := P) g5 (agg_run g6) h1 hr
    refine ⟨z, w, ?_, Grow.refl _, h7⟩
    subst g4
    simp [execOp, hx, Instr.field, run_underlying g1, g3, asAgg, h6]
  · -- makeInterface
    rename_i t x
    have hx := hev x (by simp [Op.operands])
    split at h <;> try cases h
    rename_i ti a n1 n2 ht ha
    rw [ha] at hx
    have hx : RepV (MM M0 ρ H) w a (ea x) := hx
    obtain ⟨_, hk⟩ := hT _ _ ht
    obtain ⟨tk, sz, zz⟩ := ti
    refine ⟨.iface t (ea x), w, ?_, Grow.refl _, ?_⟩
    · cases tk <;> simp only [TKOk] at hk
      case oth => exact absurd rfl (n1 _ _)
      case ifc => exact absurd rfl (n2 _ _)
      case int => simp [execOp, Instr.makeInterface, run_underlying hk]
      case bool => simp [execOp, Instr.makeInterface, run_underlying hk]
      case str => simp [execOp, Instr.makeInterface, run_underlying hk]
      case slc => simp [execOp, Instr.makeInterface, run_underlying hk.1]
      case arr => simp [execOp, Instr.makeInterface, run_underlying hk.1]
      case st => obtain ⟨⟨gs, hk, _⟩, _⟩ := hk; simp [execOp, Instr.makeInterface, run_underlying hk]
    · show RepV _ _ _ _
      simp only [RepV]
      exact ⟨_, rfl, hx⟩
  · -- typeAssert
    rename_i x t0 t ok
    have hx := hev x (by simp [Op.operands])
    split at h <;> try cases h
    · rename_i fs ek sz z t' a ht ha
      obtain ⟨⟨i, zv, g1, g2, g3, g4⟩, ⟨gs, g5, g6⟩, _, g7⟩ := hT _ _ ht
      obtain ⟨us, hz⟩ := g7 i zv g1 g3
      rw [ha] at hx
      have hx : RepV (MM M0 ρ H) w (.ifc t' a) (ea x) := hx
      simp only [RepV] at hx
      obtain ⟨u, hx, hu⟩ := hx
      have hzr : (zeroValue t).run P w = .ok zv w := by simp [zeroValue, typeInfo, g1, g3]
      have hzA : RepV (MM M0 ρ H) w (.agg z) zv := by
        have := g4 (MM M0 ρ H) w
        subst hz
        simp only [RepV]
        exact ⟨us.toList, by simp, this⟩
      split at h
      · rename_i htt
        subst htt
        split at h <;> simp only [Option.some.injEq, Prod.mk.injEq] at h <;> obtain ⟨h1, rfl⟩ := h
        · refine ⟨.tuple #[u, .bool true], w, by simp [execOp, hx, Instr.typeAssert, run_underlying g5], Grow.refl _, ?_⟩
          show RepV _ _ _ _
          simp only [RepV]
          exact ⟨[u, .bool true], rfl, RepL.cons hu (RepL.cons (RepV.one_iff.2 rfl) RepL.nil)⟩
        · exact ⟨u, w, by simp [execOp, hx, Instr.typeAssert, run_underlying g5], Grow.refl _, hu⟩
      · rename_i htt
        split at h <;> simp only [Option.some.injEq, Prod.mk.injEq, reduceCtorEq] at h
        obtain ⟨h1, rfl⟩ := h
        refine ⟨.tuple #[zv, .bool false], w, by simp [execOp, hx, Instr.typeAssert, run_underlying g5, htt, hzr], Grow.refl _, ?_⟩
        show RepV _ _ _ _
        simp only [RepV]
        exact ⟨[zv, .bool false], rfl, RepL.cons (by simpa only [RepV] using hzA) (RepL.cons (RepV.one_iff.2 rfl) RepL.nil)⟩
    · rename_i fs ek sz z ht ha
      obtain ⟨⟨i, zv, g1, g2, g3, g4⟩, ⟨gs, g5, g6⟩, _, g7⟩ := hT _ _ ht
      obtain ⟨us, hz⟩ := g7 i zv g1 g3
      rw [ha] at hx
      have hx : ea x = .nilIface := hx
      have hzr : (zeroValue t).run P w = .ok zv w := by simp [zeroValue, typeInfo, g1, g3]
      have hzA : RepV (MM M0 ρ H) w (.agg z) zv := by
        have := g4 (MM M0 ρ H) w
        subst hz
        simp only [RepV]
        exact ⟨us.toList, by simp, this⟩
      split at h <;> simp only [Option.some.injEq, Prod.mk.injEq, reduceCtorEq] at h
      obtain ⟨h1, rfl⟩ := h
      refine ⟨.tuple #[zv, .bool false], w, by simp [execOp, hx, Instr.typeAssert, run_underlying g5, hzr], Grow.refl _, ?_⟩
      show RepV _ _ _ _
      simp only [RepV]
      exact ⟨[zv, .bool false], rfl, RepL.cons (by simpa only [RepV] using hzA) (RepL.cons (RepV.one_iff.2 rfl) RepL.nil)⟩
  · -- extract
    rename_i x i
    have hx := hev x (by simp [Op.operands])
    split at h <;> try cases h
    rename_i cs ha
    rw [ha] at hx
    have hx : RepV (MM M0 ρ H) w (.tup cs) (ea x) := hx
    simp only [RepV] at hx
    obtain ⟨us, hx, hr⟩ := hx
    simp only [Option.map_eq_some_iff, Prod.mk.injEq] at h
    obtain ⟨c', h1, h2, h3⟩ := h
    subst h2 h3
    have hlt := (List.getElem?_eq_some_iff.1 h1).1
    have := hr.get i hlt
    simp only [List.getD, h1, Option.getD_some] at this
    have hl := hr.length
    have hu : us[i]? = some us[i] := List.getElem?_eq_getElem (by omega)
    rw [hu] at this
    exact ⟨us[i], w, by simp [execOp, hx, Instr.extract, hu], Grow.refl _, this⟩
  · -- build
    rename_i t ps
    split at h <;> try cases h
    rename_i qs hq
    simp only [Option.map_eq_some_iff, Prod.mk.injEq] at h
    obtain ⟨⟨c', r⟩, h1, h2, h3⟩ := h
    subst h2 h3
    have hp := parts_rep (ea := ea) hq (fun x hx => hev x (by simpa [Op.operands] using hx))
    obtain ⟨z, h6, h7⟩ := build_run hT (qs := ps.map fun p => (p.1, ea p.2)) h1 (by simpa using hp)
    exact ⟨z, w, by simp only [execOp, Sem.run_bind]; rw [h6]; rfl, Grow.refl _, h7⟩
  · -- buildSlice
    rename_i t len ps
    split at h <;> try cases h
    rename_i qs hq
    simp only [Option.map_eq_some_iff, Prod.mk.injEq] at h
    obtain ⟨⟨c', r⟩, h1, h2, h3⟩ := h
    subst h2 h3
    have hp := parts_rep (ea := ea) hq (fun x hx => hev x (by simpa [Op.operands] using hx))
    have hl : ∀ b, MM M0 ρ H b → b < w.heap.size := by
      rcases hq0 with hl | hq0
      · exact hl
      · cases hq0
    obtain ⟨z, w', h6, h7, h8⟩ := makeS_run hT hl (qs := ps.map fun p => (p.1, ea p.2)) h1 hc (by simpa using hp)
    exact ⟨z, w', by simp only [execOp, Sem.run_bind]; rw [h6]; rfl, h7, h8⟩
  · -- makeSlice
    rename_i t x y
    have hx := hev x (by simp [Op.operands])
    have hy := hev y (by simp [Op.operands])
    split at h <;> try cases h
    rename_i k n k' m hx' hy'
    rw [hx'] at hx
    rw [hy'] at hy
    have hx : ea x = .int k n := hx
    have hy : ea y = .int k' m := hy
    simp only [Option.map_eq_some_iff, Prod.mk.injEq] at h
    obtain ⟨⟨c', r⟩, h1, h2, h3⟩ := h
    subst h2 h3
    have hl : ∀ b, MM M0 ρ H b → b < w.heap.size := by
      rcases hq0 with hl | hq0
      · exact hl
      · cases hq0
    obtain ⟨z, w', h6, h7, h8⟩ := zeros_run (k := k) (k' := k') hT hl h1 hc
    exact ⟨z, w', by simp only [execOp, Sem.run_bind, hx, hy]; rw [h6]; rfl, h7, h8⟩
  · -- slice
    rename_i t x lo hi
    have hx := hev x (by simp [Op.operands])
    have hl := repO_map (ea := ea) lo (fun y hy => hev y (by simp [Op.operands, hy]))
    have hh := repO_map (ea := ea) hi (fun y hy => hev y (by simp [Op.operands, hy]))
    split at h <;> try cases h
    · rename_i a ha
      rw [ha] at hx
      simp only [Option.map_eq_some_iff, Prod.mk.injEq] at h
      obtain ⟨⟨c', r⟩, h1, h2, h3⟩ := h
      subst h2 h3
      obtain ⟨z, h6, h7⟩ := cut_run hT h1 hc hx hl hh
      exact ⟨z, w, by simp only [execOp, Sem.run_bind, Option.map_none]; rw [h6]; rfl, Grow.refl _, h7⟩
    · rename_i n off ha
      rw [ha] at hx
      obtain ⟨hnl, hx⟩ := hx
      split at h
      · split at h <;> simp only [Option.some.injEq, Prod.mk.injEq, reduceCtorEq] at h
        rename_i len e ea ek _ _ ht
        obtain ⟨h1, rfl⟩ := h
        subst h1
        obtain ⟨_, k1, k2, _⟩ := hT _ _ ht
        refine ⟨.slice (some ⟨ρ n, off, none⟩) len len, w, ?_, Grow.refl _, ⟨hnl, rfl⟩⟩
        simp [execOp, hx, Instr.sliceAt, run_underlying k1, Instr.sureAddr, Instr.sliceBounds, size_of k2]
        intro _
        exact Addr.add_lit _ _ _
      · simp only [Option.map_eq_some_iff, Prod.mk.injEq] at h
        obtain ⟨⟨c', r⟩, h1, h2, h3⟩ := h
        subst h2 h3
        obtain ⟨z, h6, h7⟩ := cutA_run hT hH h1 hc hl hh
        exact ⟨z, w, by simp only [execOp, Sem.run_bind, Option.map_none, hx]; rw [h6]; rfl, Grow.refl _, h7⟩
  · -- len
    rename_i x t
    have hx := hev x (by simp [Op.operands, Call.operands])
    split at h <;> try cases h
    rename_i a ha
    rw [ha] at hx
    unfold lenF at h
    split at h <;> try cases h
    all_goals (split at h <;> simp only [Option.some.injEq, Prod.mk.injEq, reduceCtorEq] at h)
    all_goals (rename_i ht; obtain ⟨h1, rfl⟩ := h; subst h1; have k1 := (hT _ _ ht).2; simp only [TKOk] at k1)
    · rename_i l _ _ _ _ _
      obtain ⟨p, cap, hv, _⟩ := (RepV.isB (show RepV (MM M0 ρ H) w (.bs l) (ea x) from hx)).form
      refine ⟨.int .i64 l.length, w, ?_, Grow.refl _, repT_one⟩
      simp [execOp, resolve, invoke, builtin, Builtin.len_, hv, run_underlying k1.1, goInt]
    · rename_i k cs _ _ _ _ _
      have hx : RepV (MM M0 ρ H) w (.sl k cs) (ea x) := hx
      simp only [RepV] at hx
      obtain ⟨us, ⟨p, len, cap, hv, g1, _⟩, hr⟩ := hx
      refine ⟨.int .i64 ((cs.length / k : Nat) : Int), w, ?_, Grow.refl _, repT_one⟩
      rw [← hr.length, g1, Nat.mul_div_cancel _ hc]
      simp [execOp, resolve, invoke, builtin, Builtin.len_, hv, run_underlying k1.1, goInt]
    · rename_i s _ _ _
      have hx : ea x = .string s := hx
      refine ⟨.int .i64 s.size, w, ?_, Grow.refl _, repT_one⟩
      simp [execOp, resolve, invoke, builtin, Builtin.len_, hx, run_underlying k1, goInt]
  · -- min
    rename_i x y _
    have hx := hev x (by simp [Op.operands, Call.operands])
    have hy := hev y (by simp [Op.operands, Call.operands])
    split at h <;> simp only [Option.some.injEq, Prod.mk.injEq, reduceCtorEq] at h
    rename_i k a k' b ha hb
    obtain ⟨h1, rfl⟩ := h
    subst h1
    subst hc
    rw [ha] at hx
    rw [hb] at hy
    have hx : ea x = _ := hx
    have hy : ea y = _ := hy
    refine ⟨_, w, ?_, Grow.refl _, repT_one⟩
    simp [execOp, resolve, invoke, builtin, Builtin.min_, Builtin.min2, hx, hy]
  · -- max
    rename_i x y _
    have hx := hev x (by simp [Op.operands, Call.operands])
    have hy := hev y (by simp [Op.operands, Call.operands])
    split at h <;> simp only [Option.some.injEq, Prod.mk.injEq, reduceCtorEq] at h
    rename_i k a k' b ha hb
    obtain ⟨h1, rfl⟩ := h
    subst h1
    subst hc
    rw [ha] at hx
    rw [hb] at hy
    have hx : ea x = _ := hx
    have hy : ea y = _ := hy
    refine ⟨_, w, ?_, Grow.refl _, repT_one⟩
    simp [execOp, resolve, invoke, builtin, Builtin.max_, Builtin.max2, hx, hy]
  · cases h

/-- A row that is not written any more is read as a value. -/
noncomputable def rd (H : List (Bool × List AV)) : TV → TV
  | .r n e k a => match H[n]? with | some (false, _) => .v a | _ => .r n e k a
  | .s n off len => match H[n]? with | some (false, cs) => if off + len ≤ cs.length ∧ len ≤ 1000000 then .v (asB ((cs.drop off).take len)) else .s n off len | _ => .s n off len
  | .z => .v (.bs [])
  | t => t

theorem RowV.rep {b e k : Nat} {M : Nat → Prop} {w : World} {a : AV} {x : Value} (h : RowV b e k M w a x) (hM : ¬ M b) : RepV M w a x := by
  obtain ⟨us, len, ⟨h0, h1⟩, h2, h3⟩ := h
  rcases h1 with ⟨rfl, _⟩ | ⟨g, cap, cur, rfl, _, hg, h4, h5, h6, h7⟩
  · simp [Value.ownBlock] at h2
  · simp only [Value.ownBlock, Option.some.injEq] at h2
    subst h2
    have hsl : SlM M w (.slice (some ⟨g, 0, none⟩) len cap) k us := by
      refine ⟨_, len, cap, rfl, h0, h4, h5, fun h => (by cases h), fun hl => ⟨g, 0, rfl, hM, fun i hi => ?_⟩⟩
      rw [cell_of_row w g (0 + i) cur e (0, 0) hg, Nat.zero_add, ← Array.getElem?_toList]
      have : cur.toList[i]? = us[i]? := by
        rw [← h7, List.getElem?_take, if_pos (by omega)]
      rw [this]
      simp [List.getD, hi]
    cases a with
    | bs l =>
      obtain ⟨rfl, rfl⟩ := h3
      exact RepV.bs_iff.2 hsl
    | sl k' cs =>
      obtain ⟨rfl, h3⟩ := h3
      simp only [RepV]
      exact ⟨us, hsl, h3⟩
    | any => exact h3.elim
    | one _ => exact h3.elim
    | agg _ => exact h3.elim
    | tup _ => exact h3.elim
    | ifc _ _ => exact h3.elim

theorem HOk.frozen (hH : HOk w0 M0 ρ H w) {n : Nat} {cs : List AV} (hn : H[n]? = some (false, cs)) : ¬ MM M0 ρ H (ρ n) := by
  have hl := (List.getElem?_eq_some_iff.1 hn).1
  rintro (h | ⟨m, ds, hm, he⟩)
  · exact hH.sep n hl h
  · obtain rfl := hH.inj n m hl (List.getElem?_eq_some_iff.1 hm).1 he
    rw [hn] at hm
    cases hm
theorem rd_rep (hH : HOk w0 M0 ρ H w) {t : TV} {x : Value} (h : RepT ρ H (MM M0 ρ H) w t x) : RepT ρ H (MM M0 ρ H) w (rd H t) x := by
  cases t with
  | r n e k a =>
    simp only [rd]
    split
    · rename_i cs hn
      exact h.2.rep (hH.frozen hn)
    · exact h
  | z =>
    have h : x = .slice none 0 0 := h
    subst h
    exact RepV.nilB
  | s n off len =>
    simp only [rd]
    split
    · rename_i cs hn
      split
      · rename_i hle
        obtain ⟨hnl, hx⟩ := h
        obtain ⟨us, h1, h2⟩ := hH.cell hn
        have hl := h1.length
        refine asB_rep ?_
        simp only [RepV]
        refine ⟨(us.drop off).take len, ⟨_, len, len, hx, by simp; omega, Nat.le_refl _, by simp only [maxLen]; omega, fun h => (by cases h), fun hlt => ⟨ρ n, off, rfl, hH.frozen hn, fun i hi => ?_⟩⟩, (h1.drop off).take len⟩
        have hi2 : i < len := by simp at hi; omega
        rw [h2 (off + i) (by simp at hi; omega)]
        simp [List.getD, List.getElem?_drop, hi2]
      · exact h
    · exact h
  | _ => exact h

/-- How many elements a row has. -/
def lenR (T : Nat → Option TI) (t : TypeId) (a : AV) : Option (Prop × TV) := match T t with
  | some ⟨.slc _ _, _, _⟩ => match a with
    | .bs l => some (True, .v (.one (.int .i64 (l.length : Int))))
    | .sl k cs => some (0 < k, .v (.one (.int .i64 ((cs.length / k : Nat) : Int))))
    | _ => none
  | _ => none
def lenS (T : Nat → Option TI) (t : TypeId) (l : Nat) : Option (Prop × TV) := match T t with
  | some ⟨.slc _ _, _, _⟩ => some (True, .v (.one (.int .i64 (l : Int))))
  | _ => none
noncomputable def hopF (T : Nat → Option TI) (ev : Operand → TV) (H : List (Bool × List AV)) : Op → Option (Prop × TV)
  | .move x => some (True, ev x)
  | .assign x => some (True, ev x)
  | .call ⟨.builtin .len, ⟨[x]⟩, ⟨[t]⟩⟩ => match ev x with
    | .r _ _ _ a => lenR T t a
    | .s _ _ l => lenS T t l
    | _ => hopG T (fun x => rd H (ev x)) H (.call ⟨.builtin .len, ⟨[x]⟩, ⟨[t]⟩⟩)
  | op => hopG T (fun x => rd H (ev x)) H op

theorem hopF_run (hT : TOk P T) (hH : HOk w0 M0 ρ H w) {o : Oper} (hq : (∀ b, MM M0 ρ H b → b < w.heap.size) ∨ quiet o.op = true) {c : Prop} {tv : TV} (h : hopF T ev H o.op = some (c, tv)) (hc : c) (hev : ∀ x ∈ o.op.operands, RepT ρ H (MM M0 ρ H) w (ev x) (ea x)) :
    ∃ v w', (execOp ea o).run P w = .ok (.value v) w' ∧ Grow w w' ∧ RepT ρ H (MM M0 ρ H) w' tv v := by
  have hG : ∀ {c : Prop} {tv : TV}, hopG T (fun x => rd H (ev x)) H o.op = some (c, tv) → c → ∃ v w', (execOp ea o).run P w = .ok (.value v) w' ∧ Grow w w' ∧ RepT ρ H (MM M0 ρ H) w' tv v :=
    fun h hc => hopG_run hT hH hq h hc (fun x hx => rd_rep hH (hev x hx))
  obtain ⟨dst, op, ty, pos, after, guard⟩ := o
  simp only at h hev hq hG
  unfold hopF at h
  split at h
  · simp only [Option.some.injEq, Prod.mk.injEq] at h
    obtain ⟨_, rfl⟩ := h
    exact ⟨_, w, by simp [execOp], Grow.refl _, hev _ (by simp [Op.operands])⟩
  · simp only [Option.some.injEq, Prod.mk.injEq] at h
    obtain ⟨_, rfl⟩ := h
    exact ⟨_, w, by simp [execOp], Grow.refl _, hev _ (by simp [Op.operands])⟩
  · rename_i x t
    split at h
    · rename_i n e k a hx
      have hx' := hev x (by simp [Op.operands, Call.operands])
      rw [hx] at hx'
      obtain ⟨_, us, len, ⟨h0, h1⟩, h2, h3⟩ := hx'
      unfold lenR at h
      split at h <;> try cases h
      rename_i e' es' _ _ ht
      obtain ⟨_, q1, _⟩ := hT _ _ ht
      rcases h1 with ⟨hv, _⟩ | ⟨g, cap, cur, hv, _⟩
      · rw [hv] at h2
        simp [Value.ownBlock] at h2
      · have hrun : (execOp ea ⟨dst, .call ⟨.builtin .len, #[x], #[t]⟩, ty, pos, after, guard⟩).run P w = .ok (.value (.int .i64 (len : Int))) w := by
          simp [execOp, resolve, invoke, builtin, Builtin.len_, hv, goInt, run_underlying q1]
        cases a with
        | bs l =>
          simp only [Option.some.injEq, Prod.mk.injEq] at h
          obtain ⟨_, rfl⟩ := h
          obtain ⟨rfl, rfl⟩ := h3
          have : len = l.length := by simpa using h0.symm
          subst this
          exact ⟨_, w, hrun, Grow.refl _, repT_one⟩
        | sl k' cs =>
          simp only [Option.some.injEq, Prod.mk.injEq] at h
          obtain ⟨h4, rfl⟩ := h
          subst h4
          obtain ⟨rfl, h3⟩ := h3
          have h5 := h3.length
          have : cs.length / k' = len := by rw [← h5, h0, Nat.mul_div_cancel _ hc]
          rw [this]
          exact ⟨_, w, hrun, Grow.refl _, repT_one⟩
        | any => exact h3.elim
        | one _ => exact h3.elim
        | agg _ => exact h3.elim
        | tup _ => exact h3.elim
        | ifc _ _ => exact h3.elim
    · rename_i n off l hx
      have hx' := hev x (by simp [Op.operands, Call.operands])
      rw [hx] at hx'
      obtain ⟨_, hv⟩ := hx'
      unfold lenS at h
      split at h <;> try cases h
      rename_i e' es' _ _ ht
      obtain ⟨_, q1, _⟩ := hT _ _ ht
      refine ⟨.int .i64 (l : Int), w, ?_, Grow.refl _, repT_one⟩
      simp [execOp, resolve, invoke, builtin, Builtin.len_, hv, goInt, run_underlying q1]
    · exact hG h hc
  · exact hG h hc
end
end Go.Proofs.Ythjojkkapboonaa
