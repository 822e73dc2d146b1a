/- Blocks of the call's own: made, written; lists of operations in their order, in any order. No program in sight. -/
import Derived.Test.YtdbaehpfjpghfaaBF
import Derived.Laws.CopyOwn
namespace Go.Proofs.Ytdbaehpfjpghfaa
set_option linter.unusedSimpArgs false
set_option linter.unusedVariables false
open Go.RowKit

section
variable {P : Program} {T : Nat → Option TI} {w0 : World} {M0 : Nat → Prop} {ρ : Nat → Nat} {w : World}

/-- A new block of the call's own. -/
def upd (ρ : Nat → Nat) (n b : Nat) (m : Nat) : Nat := if m = n then b else ρ m

theorem HOk.keepNew {H : List (Bool × List AV)} (_h : HOk w0 M0 ρ H w) (m : Bool) (cs : List AV) (o : Obj) :
    Keeps (MM M0 ρ H) (MM M0 (upd ρ H.length w.heap.size) (H ++ [(m, cs)])) w (w.alloc o) := by
  refine ⟨fun a u _ hc => (Grow.a1 w o).cell hc, fun b hb hm => ?_⟩
  rcases hm with hm | ⟨n, ds, hn, rfl⟩
  · exact .inl hm
  · have hlt := (List.getElem?_eq_some_iff.1 hn).1
    simp only [List.length_append, List.length_singleton] at hlt
    by_cases he : n = H.length
    · subst he
      simp [upd] at hb
    · rw [List.getElem?_append_left (by omega)] at hn
      exact .inr ⟨n, ds, hn, by simp [upd, he]⟩

theorem HOk.new {H : List (Bool × List AV)} (h : HOk w0 M0 ρ H w) (hl : ∀ b, M0 b → b < w0.heap.size) (m : Bool) {cs : List AV} {us : Array Value} (hr : RepL (MM M0 ρ H) w cs us.toList) (ty : TypeId) :
    HOk w0 M0 (upd ρ H.length w.heap.size) (H ++ [(m, cs)]) (w.alloc (.cells us ty)) := by
  have hk := h.keepNew m cs (.cells us ty)
  have hge := h.grow.le
  refine ⟨h.grow.alloc _, ?_, ?_, ?_, ?_, ?_⟩
  · intro n hn
    simp only [List.length_append, List.length_singleton] at hn
    unfold upd
    split
    · intro hb
      have := hl _ hb
      omega
    · exact h.sep n (by omega)
  · intro n hn
    simp only [List.length_append, List.length_singleton] at hn
    unfold upd
    split
    · exact hge
    · exact h.lo n (by omega)
  · intro n hn
    simp only [List.length_append, List.length_singleton] at hn
    unfold upd
    split
    · simp
    · have := h.hi n (by omega)
      simp
      omega
  · intro n k hn hk' he
    simp only [List.length_append, List.length_singleton] at hn hk'
    unfold upd at he
    split at he <;> split at he
    · omega
    · have := h.hi k (by omega)
      omega
    · have := h.hi n (by omega)
      omega
    · exact h.inj n k (by omega) (by omega) he
  · intro n k ds hn
    have hlt := (List.getElem?_eq_some_iff.1 hn).1
    simp only [List.length_append, List.length_singleton] at hlt
    by_cases he : n = H.length
    · subst he
      simp only [List.getElem?_append_right (Nat.le_refl _), Nat.sub_self, List.getElem?_cons_zero, Option.some.injEq, Prod.mk.injEq] at hn
      obtain ⟨rfl, rfl⟩ := hn
      refine ⟨us.toList, ty, ?_, hr.keep hk⟩
      simp only [upd, if_true]
      rw [heap_alloc_new]
    · rw [List.getElem?_append_left (by omega)] at hn
      obtain ⟨vs, t, h1, h2⟩ := h.rep n k ds hn
      refine ⟨vs, t, ?_, h2.keep hk⟩
      simp only [upd, he, if_false]
      rw [Below.heap_alloc _ _ _ (h.hi n (by omega))]
      exact h1

theorem St.new {N : Nat} {E : AE} {a : Act} (h : St w0 M0 N E a w ρ) (hl : ∀ b, M0 b → b < w0.heap.size) (m : Bool) {cs : List AV} {us : Array Value} (hr : RepL (MM M0 ρ E.h) w cs us.toList) (ty : TypeId) {d : Option Tmp} (hd : ∀ t, d = some t → t < N) :
    St w0 M0 N ⟨putT d (.p E.h.length 0) E.t, E.h ++ [(m, cs)]⟩ (a.put d (.pointer (some ⟨w.heap.size, 0, none⟩))) (w.alloc (.cells us ty)) (upd ρ E.h.length w.heap.size) := by
  have h' : St w0 M0 N ⟨E.t, E.h ++ [(m, cs)]⟩ a (w.alloc (.cells us ty)) (upd ρ E.h.length w.heap.size) := by
    refine ⟨h.heap.new hl m hr ty, h.defers, h.size, fun t => ?_⟩
    exact RepT.keep (h.heap.keepNew m cs _) (by simp) (fun n hn => by simp [upd, show n ≠ E.h.length by omega]) _ _ (h.tmp t)
  refine St.put h' (Grow.refl _) hd ⟨by simp, by simp [upd]⟩

/-- A block that was made a while ago becomes one of the call's own. -/
theorem St.at_new {N : Nat} {E : AE} {a : Act} {B : Nat} (h : St w0 (fun b => M0 b ∨ B ≤ b) N E a w ρ) (hl : ∀ b, M0 b → b < w0.heap.size) {cs : List AV} {us : Array Value} (hr : ∀ M w, RepL M w cs us.toList) {ty : TypeId} {b : Nat} (hb : w.heap[b]? = some (.cells us ty (0, 0))) (hne : ∀ n, n < E.h.length → ρ n < B) (hB : B ≤ b) (hlo : w0.heap.size ≤ B)
    {d : Option Tmp} (hd : ∀ t, d = some t → t < N) : St w0 M0 N ⟨putT d (.p E.h.length 0) E.t, E.h ++ [(true, cs)]⟩ (a.put d (.pointer (some ⟨b, 0, none⟩))) w (upd ρ E.h.length b) := by
  have hblt := (Array.getElem?_eq_some_iff.1 hb).1
  have hk : Keeps (MM (fun b => M0 b ∨ B ≤ b) ρ E.h) (MM M0 (upd ρ E.h.length b) (E.h ++ [(true, cs)])) w w := Keeps.less fun x hx => by
    rcases hx with hx | ⟨n, ds, hn, rfl⟩
    · exact .inl (.inl hx)
    · have hlt := (List.getElem?_eq_some_iff.1 hn).1
      simp only [List.length_append, List.length_singleton] at hlt
      by_cases he : n = E.h.length
      · subst he
        exact .inl (.inr (by simp [upd, hB]))
      · rw [List.getElem?_append_left (by omega)] at hn
        exact .inr ⟨n, ds, hn, by simp [upd, he]⟩
  have h' : St w0 M0 N ⟨E.t, E.h ++ [(true, cs)]⟩ a w (upd ρ E.h.length b) := by
    refine ⟨⟨h.heap.grow, ?_, ?_, ?_, ?_, ?_⟩, h.defers, h.size, fun t => RepT.keep hk (by simp) (fun n hn => by simp [upd, show n ≠ E.h.length by omega]) _ _ (h.tmp t)⟩
    · intro n hn hm
      simp only [List.length_append, List.length_singleton] at hn
      have := hl _ hm
      unfold upd at this hm
      split at hm
      · rename_i he
        rw [if_pos he] at this
        omega
      · exact h.heap.sep n (by omega) (.inl hm)
    · intro n hn
      simp only [List.length_append, List.length_singleton] at hn
      unfold upd
      split
      · omega
      · exact h.heap.lo n (by omega)
    · intro n hn
      simp only [List.length_append, List.length_singleton] at hn
      unfold upd
      split
      · exact hblt
      · exact h.heap.hi n (by omega)
    · intro n k hn hk' he
      simp only [List.length_append, List.length_singleton] at hn hk'
      unfold upd at he
      split at he <;> split at he
      · omega
      · have := hne k (by omega)
        omega
      · have := hne n (by omega)
        omega
      · exact h.heap.inj n k (by omega) (by omega) he
    · intro n k ds hn
      have hlt := (List.getElem?_eq_some_iff.1 hn).1
      simp only [List.length_append, List.length_singleton] at hlt
      by_cases he : n = E.h.length
      · subst he
        simp only [List.getElem?_append_right (Nat.le_refl _), Nat.sub_self, List.getElem?_cons_zero, Option.some.injEq, Prod.mk.injEq] at hn
        obtain ⟨rfl, rfl⟩ := hn
        exact ⟨us.toList, ty, by simpa [upd] using hb, hr _ _⟩
      · rw [List.getElem?_append_left (by omega)] at hn
        obtain ⟨vs, t, h1, h2⟩ := h.heap.rep n k ds hn
        exact ⟨vs, t, by simpa [upd, he] using h1, h2.keep hk⟩
  exact St.put h' (Grow.refl _) hd ⟨by simp, by simp [upd]⟩

theorem ovwV_eq : ∀ (vs us : List Value) (off : Nat), off + vs.length ≤ us.length → ovwV us off vs = us.take off ++ vs ++ us.drop (off + vs.length)
  | [], us, off, _ => by simp [ovwV]
  | v :: vs, us, off, h => by
    simp only [List.length_cons] at h
    rw [ovwV, ovwV_eq vs _ _ (by simp; omega)]
    have := list_seg_step us off v vs (by omega)
    simpa [Nat.add_assoc] using this

theorem okCell_rep {M : Nat → Prop} {w : World} : ∀ {ds : List AV} {vs : List Value}, ds.all okCell = true → RepL M w ds vs → ∀ v ∈ vs, v.oneCell' = true
  | [], vs, _, h, v, hv => by simp only [RepL] at h; subst h; cases hv
  | d :: ds, vs, hd, h, v, hv => by
    simp only [RepL] at h
    obtain ⟨u, us, rfl, h1, h2⟩ := h
    simp only [List.all_cons, Bool.and_eq_true] at hd
    rcases List.mem_cons.1 hv with rfl | hv
    · cases d with
      | any => simp [okCell] at hd
      | one x => rw [RepV.one_iff] at h1; subst h1; exact hd.1
      | bs l => simp only [RepV] at h1; exact h1.one.2
      | sl k cs => simp only [RepV] at h1; obtain ⟨_, h1, _⟩ := h1; exact h1.one.2
      | agg cs => simp [okCell] at hd
      | tup cs => simp [okCell] at hd
    · exact okCell_rep hd.2 h2 v hv

theorem HOk.store {H : List (Bool × List AV)} (h : HOk w0 M0 ρ H w) {n off : Nat} {cs ds : List AV} (hn : H[n]? = some (true, cs)) (hl : off + ds.length ≤ cs.length) (hd : ds.all okCell = true) {vs : List Value} (hv : RepL (MM M0 ρ H) w ds vs) :
    ∃ w', (storeCells ⟨ρ n, off, none⟩ vs).run P w = .ok () w' ∧ Keeps (MM M0 ρ H) (MM M0 ρ (H.set n (true, ovw cs off ds))) w w' ∧ HOk w0 M0 ρ (H.set n (true, ovw cs off ds)) w' := by
  have hlt := (List.getElem?_eq_some_iff.1 hn).1
  obtain ⟨us, ty, h1, h2⟩ := h.rep n _ cs hn
  have e1 := hv.length
  have e2 := h2.length
  have hrun := run_storeCells_at P (ρ n) off ty vs 0 us.toArray w h1 (by simp; omega) (okCell_rep hd hv)
  simp only [Nat.add_zero] at hrun
  rw [← ovwV_eq vs us off (by omega)] at hrun
  have hMM : ∀ b, MM M0 ρ (H.set n (true, ovw cs off ds)) b ↔ MM M0 ρ H b := by
    intro b
    constructor
    · rintro (hb | ⟨k, es, hk, rfl⟩)
      · exact .inl hb
      · by_cases he : k = n
        · subst he; exact .inr ⟨k, cs, hn, rfl⟩
        · rw [List.getElem?_set_ne (Ne.symm he)] at hk
          exact .inr ⟨k, es, hk, rfl⟩
    · rintro (hb | ⟨k, es, hk, rfl⟩)
      · exact .inl hb
      · by_cases he : k = n
        · subst he; exact .inr ⟨k, ovw cs off ds, by simp [hlt], rfl⟩
        · exact .inr ⟨k, es, by rw [List.getElem?_set_ne (Ne.symm he)]; exact hk, rfl⟩
  have hkeep : Keeps (MM M0 ρ H) (MM M0 ρ (H.set n (true, ovw cs off ds))) w (w.setRow (ρ n) (ovwV us off vs).toArray) := by
    refine ⟨fun a u ha hc => ?_, fun b _ hb => (hMM b).1 hb⟩
    rw [cell_setRow_other w (ρ n) _ a (fun he => ha (.inr ⟨n, cs, hn, he⟩))]
    exact hc
  refine ⟨_, hrun, hkeep, ?_⟩
  refine ⟨below_setRow h.grow (h.lo n hlt) _, fun k hk => h.sep k (by simpa using hk), fun k hk => h.lo k (by simpa using hk), fun k hk => by simpa using h.hi k (by simpa using hk), fun k j hk hj => h.inj k j (by simpa using hk) (by simpa using hj), ?_⟩
  intro k m es hk
  by_cases he : k = n
  · subst he
    simp only [List.getElem?_set_self hlt, Option.some.injEq, Prod.mk.injEq] at hk
    obtain ⟨rfl, rfl⟩ := hk
    exact ⟨_, ty, setRow_heap w (ρ k) _ _ ty _ h1, (ovw_rep off h2 hv).keep hkeep⟩
  · rw [List.getElem?_set_ne (Ne.symm he)] at hk
    have hkl := (List.getElem?_eq_some_iff.1 hk).1
    obtain ⟨ws, t, h3, h4⟩ := h.rep k m es hk
    refine ⟨ws, t, ?_, h4.keep hkeep⟩
    rw [setRow_other w (ρ n) (ρ k) _ (fun e => he (h.inj k n hkl hlt e))]
    exact h3

theorem bytesAt_length (l : List UInt8) : ∀ (n i : Nat), (bytesAt l i n).length = n
  | 0, _ => rfl
  | n + 1, i => by simp [bytesAt, bytesAt_length l n]
theorem bytesAt_ok (l : List UInt8) : ∀ (n i : Nat), (bytesAt l i n).all okCell = true
  | 0, _ => rfl
  | n + 1, i => by simp [bytesAt, bytesAt_ok l n, okCell, Value.oneCell']
theorem bytesAt_rep {M : Nat → Prop} (l : List UInt8) : ∀ (n i : Nat), i + n ≤ l.length → RepL M w (bytesAt l i n) (bytesV ((l.drop i).take n))
  | 0, _, _ => by simpa [bytesAt, bytesV] using RepL.nil
  | n + 1, i, h => by
    have hi : i < l.length := by omega
    have e : (l.drop i).take (n + 1) = l[i] :: (l.drop (i + 1)).take n := by
      rw [List.drop_eq_getElem_cons hi, List.take_succ_cons]
    rw [e]
    refine RepL.cons ?_ (bytesAt_rep l n (i + 1) (by omega))
    rw [RepV.one_iff]
    simp [byteV, List.getD, hi]

theorem heap_wp (hT : TOk P T) (hl : ∀ b, M0 b → b < w0.heap.size) {N : Nat} {E : AE} {a : Act} (h : St w0 M0 N E a w ρ) {o : Oper} {c : Prop} {tv : TV} {H' : List (Bool × List AV)} {K : Act → World → Prop} {Q : Exit → Act → World → Prop}
    (hp : heapF T E o.op = some (c, tv, H')) (hc : c) (hd : ∀ t, o.dst = some t → t < N) (hK : ∀ a' w' ρ', St w0 M0 N ⟨putT o.dst tv E.t, H'⟩ a' w' ρ' → K a' w') : o.wp P a w K Q := by
  obtain ⟨dst, op, ty, pos, after, guard⟩ := o
  simp only at hp hd hK
  unfold heapF at hp
  split at hp
  · rename_i t x
    split at hp <;> try cases hp
    rename_i av hx
    have hx' := h.evs x
    rw [hx] at hx'
    simp only [Option.map_eq_some_iff, Prod.mk.injEq] at hp
    obtain ⟨cs, h1, h2, h3, h4⟩ := hp
    subst h3 h4
    exact wp_value (v := .pointer (some ⟨w.heap.size, 0, none⟩)) (w' := w.alloc (.cells (a.eval x).cells t)) (by simp [execOp, Instr.box, newVar, newRow]) (hK _ _ _ (h.new hl true (cells_rep h1 hx') t hd))
  · rename_i t
    split at hp <;> try cases hp
    rename_i ti ht
    obtain ⟨⟨i, z, h1, h2, h3, h4⟩, _⟩ := hT _ _ ht
    refine wp_value (v := .pointer (some ⟨w.heap.size, 0, none⟩)) (w' := w.alloc (.cells z.cells t)) ?_ (hK _ _ _ (h.new hl true (h4 _ _) t hd))
    simp [execOp, Instr.alloc, zeroValue, typeInfo, h1, h3, newVar, newRow]
  · rename_i t x y
    split at hp <;> try cases hp
    rename_i ti n off av ht hx hy
    split at hp <;> simp only [Option.some.injEq, Prod.mk.injEq, reduceCtorEq] at hp
    rename_i cs ds hn hds
    obtain ⟨h1, h2, h3⟩ := hp
    subst h1 h2 h3
    obtain ⟨c1, c2, c3⟩ := hc
    have hx' := h.evs x
    rw [hx] at hx'
    obtain ⟨_, hx'⟩ := hx'
    have hy' := h.evs y
    rw [hy] at hy'
    have hv := cells_rep hds hy'
    have hvl := hv.length
    simp only [Array.length_toList] at hvl
    obtain ⟨w', h5, h6, h7⟩ := h.heap.store (P := P) hn c2 c3 hv
    have hrun : (execOp a.eval ⟨dst, .store t x y, ty, pos, after, guard⟩).run P w = .ok .skip w' := by
      simp only [execOp, Sem.run_bind, Instr.storeAt, hx', Instr.sureAddr, Sem.run_pure, Result.andThen_ok, storeVar, (hT _ _ ht).sz]
      rw [if_neg (by omega), h5]
      rfl
    have h' : St w0 M0 N ⟨E.t, E.h.set n (true, ovw cs off ds)⟩ a w' ρ := ⟨h7, h.defers, h.size, fun t => RepT.keep h6 (by simp) (fun _ _ => rfl) _ _ (h.tmp t)⟩
    unfold Oper.wp
    rw [hrun]
    exact hK _ _ _ (St.put h' (Grow.refl _) hd (by simp only [RepT, RepV]))
  · rename_i x y dt st
    split at hp <;> try cases hp
    rename_i e _ _ n off len l ht hx hy
    split at hp <;> simp only [Option.some.injEq, Prod.mk.injEq, reduceCtorEq] at hp
    rename_i cs hn
    obtain ⟨h1, h2, h3⟩ := hp
    subst h1 h2 h3
    obtain ⟨c1, c2⟩ := hc
    obtain ⟨_, k1, k2, kbb⟩ := hT _ _ ht
    have hx' := h.evs x
    rw [hx] at hx'
    obtain ⟨_, hx'⟩ := hx'
    have hy' := h.evs y
    rw [hy] at hy'
    have hb := RepV.isB (show RepV _ w (.bs l) (a.eval y) from hy')
    obtain ⟨p, cap, hv, _, _, _, hcell⟩ := hb.form
    have hlb : (bytesAt l 0 len).length = len := bytesAt_length l len 0
    have hrep : RepL (MM M0 ρ E.h) w (bytesAt l 0 len) (bytesV (l.take len)) := by simpa using bytesAt_rep l len 0 (by omega)
    obtain ⟨w', h5, h6, h7⟩ := h.heap.store (P := P) hn (by rw [hlb]; exact c2) (bytesAt_ok l len 0) hrep
    have hrun : (execOp a.eval ⟨dst, .call ⟨.builtin .copy, #[x, y], #[dt, st]⟩, ty, pos, after, guard⟩).run P w = .ok (.value (.int .i64 len)) w' := by
      have hmin : Nat.min l.length len = len := by show min l.length len = len; omega
      by_cases h0 : len = 0
      · subst h0
        simp only [bytesAt, List.take_zero] at h5
        have e5 : (storeCells (⟨ρ n, off, none⟩ : Addr) (bytesV []) 0).run P w = .ok () w' := h5
        simp only [bytesV, List.map_nil, storeCells, Sem.run_pure] at e5
        have ew : w = w' := by injection e5
        subst ew
        cases p with
        | none => simp [execOp, resolve, invoke, builtin, Builtin.copy_, hx', hv, run_underlying k1, Builtin.lenOf, hmin, size_of k2, Builtin.firstCells, storeCells, goInt]
        | some ad => simp [execOp, resolve, invoke, builtin, Builtin.copy_, hx', hv, run_underlying k1, Builtin.lenOf, hmin, size_of k2, Builtin.firstCells, loadCells, loadCellsFrom, storeCells, goInt]
      · obtain ⟨b, o, rfl, hcl⟩ := hcell (by omega)
        have hload := run_loadCells_list (P := P) w ⟨b, o, none⟩ (bytesV (l.take len)) (fun j v hj => by
          have hlt := (List.getElem?_eq_some_iff.1 hj).1
          simp only [length_bytesV, List.length_take] at hlt
          have hjl : j < l.length := by omega
          rw [Addr.add_lit, hcl j hjl]
          rw [show bytesV (l.take len) = (bytesV l).take len by simp [bytesV, List.map_take], List.getElem?_take, if_pos (by omega)] at hj
          simpa [bytesV, byteV, hjl] using hj)
        have hll : (bytesV (l.take len)).length = len := by simp; omega
        rw [hll] at hload
        simp [execOp, resolve, invoke, builtin, Builtin.copy_, hx', hv, run_underlying k1, Builtin.lenOf, hmin, size_of k2, Builtin.firstCells, hload, h5, goInt]
    have h' : St w0 M0 N ⟨E.t, E.h.set n (true, ovw cs off (bytesAt l 0 len))⟩ a w' ρ := ⟨h7, h.defers, h.size, fun t => RepT.keep h6 (by simp) (fun _ _ => rfl) _ _ (h.tmp t)⟩
    exact wp_value hrun (hK _ _ _ (St.put h' (Grow.refl _) hd repT_one))
  · cases hp

theorem AStep.wp (hT : TOk P T) (hl : ∀ b, M0 b → b < w0.heap.size) {N : Nat} {E : AE} {a : Act} (h : St w0 M0 N E a w ρ) {o : Oper} {K : AE → Prop} {KK : Act → World → Prop} {Q : Exit → Act → World → Prop}
    (hs : AStep P T o.dst E K o.op) (hd : ∀ t, o.dst = some t → t < N) (hK : ∀ E' a' w' ρ', K E' → St w0 M0 N E' a' w' ρ' → KK a' w') : o.wp P a w KK Q := by
  by_cases hh : isHeap o.op = true
  · have : ∃ c tv H', heapF T E o.op = some (c, tv, H') ∧ c ∧ K ⟨putT o.dst tv E.t, H'⟩ := by
      obtain ⟨dst, op, ty, pos, after, guard⟩ := o
      simp only at hs hh ⊢
      unfold isHeap at hh
      split at hh
      all_goals try cases hh
      all_goals (simp only [AStep] at hs; split at hs; rename_i c tv H' heq; exact ⟨c, tv, H', heq, hs.1, hs.2⟩; exact hs.elim)
    obtain ⟨c, tv, H', h1, h2, h3⟩ := this
    exact heap_wp hT hl h h1 h2 hd (fun a' w' ρ' hst => hK _ _ _ _ h3 hst)
  · obtain ⟨tv, h1, h2⟩ := AStep.hop (by simpa using hh) hs
    exact hop_wp hT h.heap (.inl hl) h1 (fun x _ => h.evs x) (fun v w' g hv => hK _ _ _ _ h2 (h.put g hd hv))

theorem gval_rep {N : Nat} {E : AE} {a : Act} (h : St w0 M0 N E a w ρ) {all : Array Oper} {g : Nat} {t : Bool} (hg : gval all E.t g = .v (.one (.bool t))) : yielded all a.tmps g = some t := by
  unfold gval at hg
  unfold yielded
  split at hg
  · rename_i d hd
    have := h.tmp d
    rw [hg] at this
    have this : a.tmps.getD d undef = .bool t := this
    rw [hd]
    simp only [Option.bind_some]
    rw [Array.getD_eq_getD_getElem?] at this
    cases hx : a.tmps[d]? with
    | none => rw [hx] at this; exact absurd this (by simp [undef])
    | some v => rw [hx] at this; simp at this; subst this; rfl
  · cases hg

def dstOk (N : Nat) (o : Oper) : Bool := match o.dst with | some d => decide (d < N) | none => true
theorem dstOk_iff {N : Nat} {o : Oper} (h : dstOk N o = true) : ∀ t, o.dst = some t → t < N := by
  intro t ht
  rw [dstOk, ht] at h
  simpa using h

/-- Operations in their order. -/
theorem aops_list (hT : TOk P T) (hl : ∀ b, M0 b → b < w0.heap.size) {N : Nat} {all : Array Oper} {K : AE → Prop} {Q : Exit → Act → World → Prop} (hK : ∀ E a w ρ, K E → St w0 M0 N E a w ρ → Q .normal a w) :
    ∀ (l : List Oper) {E : AE} {a : Act} {w : World} {ρ : Nat → Nat}, (∀ o ∈ l, dstOk N o = true) → St w0 M0 N E a w ρ → aops P T all K l E → wpList P all Q l a w
  | [], E, a, w, ρ, _, h, hs => hK E a w ρ hs h
  | o :: os, E, a, w, ρ, hd, h, hs => by
    have hdo := dstOk_iff (hd o (by simp))
    have ih := fun E' a' w' ρ' (hN : aops P T all K os E') (hst : St w0 M0 N E' a' w' ρ') => aops_list hT hl hK os (fun o ho => hd o (by simp [ho])) hst hN
    simp only [aops] at hs
    unfold wpList
    split at hs
    · rename_i hg
      rw [if_pos (by simp [Region.wanted, hg])]
      exact .inl (AStep.wp hT hl h hs hdo ih)
    · rename_i g b hg
      split at hs
      · rename_i t ht
        have hy := gval_rep h ht
        obtain ⟨h1, h2⟩ := hs
        by_cases htb : t = b
        · rw [if_pos (by simp [Region.wanted, hg, hy, htb])]
          exact .inl (AStep.wp hT hl h (h1 htb) hdo ih)
        · rw [if_neg (by simp [Region.wanted, hg, hy, htb])]
          exact ih _ _ _ ρ (h2 (by cases t <;> cases b <;> simp_all)) (h.put (Grow.refl _) hdo (by simp only [RepT, RepV]))
      · exact hs.elim
end
end Go.Proofs.Ytdbaehpfjpghfaa
