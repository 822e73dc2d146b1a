/- Blocks of the call's own: made, written; lists of operations in their order, in any order. No program in sight. -/
import Derived.Test.YthjojkkapboonaaBF
import Derived.Laws.CopyOwn
namespace Go.Proofs.Ythjojkkapboonaa
set_option linter.unusedSimpArgs false
set_option linter.unusedVariables false
open Go.RowKit

section
variable {P : Program} {T : Nat → Option TI} {w0 : World} {M0 : Nat → Prop} {ρ : Nat → Nat} {w : World}

/-- A new block of the call's own. -/
def upd (ρ : Nat → Nat) (n b : Nat) (m : Nat) : Nat := if m = n then b else ρ m

theorem HOk.keepNew {H : List (Bool × List AV)} (_h : HOk w0 M0 ρ H w) (m : Bool) (cs : List AV) (o : Obj) :
    Keeps (MM M0 ρ H) (MM M0 (upd ρ H.length w.heap.size) (H ++ [(m, cs)])) w (w.alloc o) := by
  refine ⟨fun a u _ hc => (Grow.a1 w o).cell hc, fun b hb hm => ?_⟩
  rcases hm with hm | ⟨n, ds, hn, rfl⟩
  · exact .inl hm
  · have hlt := (List.getElem?_eq_some_iff.1 hn).1
    simp only [List.length_append, List.length_singleton] at hlt
    by_cases he : n = H.length
    · subst he
      simp [upd] at hb
    · rw [List.getElem?_append_left (by omega)] at hn
      exact .inr ⟨n, ds, hn, by simp [upd, he]⟩

theorem HOk.new {H : List (Bool × List AV)} (h : HOk w0 M0 ρ H w) (hl : ∀ b, M0 b → b < w0.heap.size) (m : Bool) {cs : List AV} {us : Array Value} (hr : RepL (MM M0 ρ H) w cs us.toList) (ty : TypeId) :
    HOk w0 M0 (upd ρ H.length w.heap.size) (H ++ [(m, cs)]) (w.alloc (.cells us ty)) := by
  have hk := h.keepNew m cs (.cells us ty)
  have hge := h.grow.le
  refine ⟨h.grow.alloc _, ?_, ?_, ?_, ?_, ?_⟩
  · intro n hn
    simp only [List.length_append, List.length_singleton] at hn
    unfold upd
    split
    · intro hb
      have := hl _ hb
      omega
    · exact h.sep n (by omega)
  · intro n hn
    simp only [List.length_append, List.length_singleton] at hn
    unfold upd
    split
    · exact hge
    · exact h.lo n (by omega)
  · intro n hn
    simp only [List.length_append, List.length_singleton] at hn
    unfold upd
    split
    · simp
    · have := h.hi n (by omega)
      simp
      omega
  · intro n k hn hk' he
    simp only [List.length_append, List.length_singleton] at hn hk'
    unfold upd at he
    split at he <;> split at he
    · omega
    · have := h.hi k (by omega)
      omega
    · have := h.hi n (by omega)
      omega
    · exact h.inj n k (by omega) (by omega) he
  · intro n k ds hn hne
    have hlt := (List.getElem?_eq_some_iff.1 hn).1
    simp only [List.length_append, List.length_singleton] at hlt
    by_cases he : n = H.length
    · subst he
      simp only [List.getElem?_append_right (Nat.le_refl _), Nat.sub_self, List.getElem?_cons_zero, Option.some.injEq, Prod.mk.injEq] at hn
      obtain ⟨rfl, rfl⟩ := hn
      refine ⟨us.toList, ty, ?_, hr.keep hk⟩
      simp only [upd, if_true]
      rw [heap_alloc_new]
    · rw [List.getElem?_append_left (by omega)] at hn
      obtain ⟨vs, t, h1, h2⟩ := h.rep n k ds hn hne
      refine ⟨vs, t, ?_, h2.keep hk⟩
      simp only [upd, he, if_false]
      rw [Below.heap_alloc _ _ _ (h.hi n (by omega))]
      exact h1

theorem St.new {N : Nat} {E : AE} {a : Act} (h : St w0 M0 N E a w ρ) (hl : ∀ b, M0 b → b < w0.heap.size) (m : Bool) {cs : List AV} {us : Array Value} (hr : RepL (MM M0 ρ E.h) w cs us.toList) (ty : TypeId) {d : Option Tmp} (hd : ∀ t, d = some t → t < N) :
    St w0 M0 N ⟨putT d (.p E.h.length 0) E.t, E.h ++ [(m, cs)]⟩ (a.put d (.pointer (some ⟨w.heap.size, 0, none⟩))) (w.alloc (.cells us ty)) (upd ρ E.h.length w.heap.size) := by
  have h' : St w0 M0 N ⟨E.t, E.h ++ [(m, cs)]⟩ a (w.alloc (.cells us ty)) (upd ρ E.h.length w.heap.size) := by
    refine ⟨h.heap.new hl m hr ty, h.defers, h.size, fun t => ?_⟩
    exact RepT.keep (h.heap.keepNew m cs _) (by simp) (fun n hn => by simp [upd, show n ≠ E.h.length by omega]) (fun n m' hn => ⟨⟨m', by rw [List.getElem?_append_left (List.getElem?_eq_some_iff.1 hn).1]; exact hn⟩, fun hb => Below.heap_alloc _ _ _ hb⟩) _ _ (h.tmp t)
  refine St.put h' (Grow.refl _) hd ⟨by simp, by simp [upd]⟩

/-- A block that was made a while ago becomes one of the call's own. -/
theorem St.at_new {N : Nat} {E : AE} {a : Act} {B : Nat} (h : St w0 (fun b => M0 b ∨ B ≤ b) N E a w ρ) (hl : ∀ b, M0 b → b < w0.heap.size) {cs : List AV} {us : Array Value} (hr : ∀ M w, RepL M w cs us.toList) {ty : TypeId} {b : Nat} (hb : w.heap[b]? = some (.cells us ty (0, 0))) (hne : ∀ n, n < E.h.length → ρ n < B) (hB : B ≤ b) (hlo : w0.heap.size ≤ B)
    {d : Option Tmp} (hd : ∀ t, d = some t → t < N) : St w0 M0 N ⟨putT d (.p E.h.length 0) E.t, E.h ++ [(true, cs)]⟩ (a.put d (.pointer (some ⟨b, 0, none⟩))) w (upd ρ E.h.length b) := by
  have hblt := (Array.getElem?_eq_some_iff.1 hb).1
  have hk : Keeps (MM (fun b => M0 b ∨ B ≤ b) ρ E.h) (MM M0 (upd ρ E.h.length b) (E.h ++ [(true, cs)])) w w := Keeps.less fun x hx => by
    rcases hx with hx | ⟨n, ds, hn, rfl⟩
    · exact .inl (.inl hx)
    · have hlt := (List.getElem?_eq_some_iff.1 hn).1
      simp only [List.length_append, List.length_singleton] at hlt
      by_cases he : n = E.h.length
      · subst he
        exact .inl (.inr (by simp [upd, hB]))
      · rw [List.getElem?_append_left (by omega)] at hn
        exact .inr ⟨n, ds, hn, by simp [upd, he]⟩
  have h' : St w0 M0 N ⟨E.t, E.h ++ [(true, cs)]⟩ a w (upd ρ E.h.length b) := by
    refine ⟨⟨h.heap.grow, ?_, ?_, ?_, ?_, ?_⟩, h.defers, h.size, fun t => RepT.keep hk (by simp) (fun n hn => by simp [upd, show n ≠ E.h.length by omega]) (fun n m' hn => ⟨⟨m', by rw [List.getElem?_append_left (List.getElem?_eq_some_iff.1 hn).1]; exact hn⟩, fun _ => rfl⟩) _ _ (h.tmp t)⟩
    · intro n hn hm
      simp only [List.length_append, List.length_singleton] at hn
      have := hl _ hm
      unfold upd at this hm
      split at hm
      · rename_i he
        rw [if_pos he] at this
        omega
      · exact h.heap.sep n (by omega) (.inl hm)
    · intro n hn
      simp only [List.length_append, List.length_singleton] at hn
      unfold upd
      split
      · omega
      · exact h.heap.lo n (by omega)
    · intro n hn
      simp only [List.length_append, List.length_singleton] at hn
      unfold upd
      split
      · exact hblt
      · exact h.heap.hi n (by omega)
    · intro n k hn hk' he
      simp only [List.length_append, List.length_singleton] at hn hk'
      unfold upd at he
      split at he <;> split at he
      · omega
      · have := hne k (by omega)
        omega
      · have := hne n (by omega)
        omega
      · exact h.heap.inj n k (by omega) (by omega) he
    · intro n k ds hn hne'
      have hlt := (List.getElem?_eq_some_iff.1 hn).1
      simp only [List.length_append, List.length_singleton] at hlt
      by_cases he : n = E.h.length
      · subst he
        simp only [List.getElem?_append_right (Nat.le_refl _), Nat.sub_self, List.getElem?_cons_zero, Option.some.injEq, Prod.mk.injEq] at hn
        obtain ⟨rfl, rfl⟩ := hn
        exact ⟨us.toList, ty, by simpa [upd] using hb, hr _ _⟩
      · rw [List.getElem?_append_left (by omega)] at hn
        obtain ⟨vs, t, h1, h2⟩ := h.heap.rep n k ds hn hne'
        exact ⟨vs, t, by simpa [upd, he] using h1, h2.keep hk⟩
  exact St.put h' (Grow.refl _) hd ⟨by simp, by simp [upd]⟩

theorem ovwV_eq : ∀ (vs us : List Value) (off : Nat), off + vs.length ≤ us.length → ovwV us off vs = us.take off ++ vs ++ us.drop (off + vs.length)
  | [], us, off, _ => by simp [ovwV]
  | v :: vs, us, off, h => by
    simp only [List.length_cons] at h
    rw [ovwV, ovwV_eq vs _ _ (by simp; omega)]
    have := list_seg_step us off v vs (by omega)
    simpa [Nat.add_assoc] using this

theorem okCell_rep {M : Nat → Prop} {w : World} : ∀ {ds : List AV} {vs : List Value}, ds.all okCell = true → RepL M w ds vs → ∀ v ∈ vs, v.oneCell' = true
  | [], vs, _, h, v, hv => by simp only [RepL] at h; subst h; cases hv
  | d :: ds, vs, hd, h, v, hv => by
    simp only [RepL] at h
    obtain ⟨u, us, rfl, h1, h2⟩ := h
    simp only [List.all_cons, Bool.and_eq_true] at hd
    rcases List.mem_cons.1 hv with rfl | hv
    · cases d with
      | any => simp [okCell] at hd
      | one x => rw [RepV.one_iff] at h1; subst h1; exact hd.1
      | bs l => simp only [RepV] at h1; exact h1.one.2
      | sl k cs => simp only [RepV] at h1; obtain ⟨_, h1, _⟩ := h1; exact h1.one.2
      | agg cs => simp [okCell] at hd
      | tup cs => simp [okCell] at hd
      | ifc t a => simp only [RepV] at h1; obtain ⟨_, rfl, _⟩ := h1; rfl
    · exact okCell_rep hd.2 h2 v hv

theorem HOk.store {H : List (Bool × List AV)} (h : HOk w0 M0 ρ H w) {n off : Nat} {cs ds : List AV} (hn : H[n]? = some (true, cs)) (hl : off + ds.length ≤ cs.length) (hd : ds.all okCell = true) {vs : List Value} (hv : RepL (MM M0 ρ H) w ds vs) :
    ∃ w', (storeCells ⟨ρ n, off, none⟩ vs).run P w = .ok () w' ∧ Keeps (MM M0 ρ H) (MM M0 ρ (H.set n (true, ovw cs off ds))) w w' ∧ HOk w0 M0 ρ (H.set n (true, ovw cs off ds)) w' ∧ RowsKept ρ H (H.set n (true, ovw cs off ds)) w w' := by
  have hlt := (List.getElem?_eq_some_iff.1 hn).1
  by_cases hne : cs = []
  · subst hne
    obtain rfl : ds = [] := List.length_eq_zero_iff.1 (by simp only [List.length_nil] at hl; omega)
    have e1 := hv.length
    obtain rfl : vs = [] := List.length_eq_zero_iff.1 (by simpa using e1)
    have hset : H.set n (true, ovw [] off []) = H := by
      apply List.ext_getElem?
      intro k
      by_cases hk : k = n
      · subst hk
        rw [List.getElem?_set_self hlt, hn]
        rfl
      · rw [List.getElem?_set_ne (Ne.symm hk)]
    rw [hset]
    exact ⟨w, by simp [storeCells], Keeps.grow (Grow.refl _), h, RowsKept.grow (Grow.refl _)⟩
  obtain ⟨us, ty, h1, h2⟩ := h.rep n _ cs hn hne
  have e1 := hv.length
  have e2 := h2.length
  have hrun := run_storeCells_at P (ρ n) off ty vs 0 us.toArray w h1 (by simp; omega) (okCell_rep hd hv)
  simp only [Nat.add_zero] at hrun
  rw [← ovwV_eq vs us off (by omega)] at hrun
  have hMM : ∀ b, MM M0 ρ (H.set n (true, ovw cs off ds)) b ↔ MM M0 ρ H b := by
    intro b
    constructor
    · rintro (hb | ⟨k, es, hk, rfl⟩)
      · exact .inl hb
      · by_cases he : k = n
        · subst he; exact .inr ⟨k, cs, hn, rfl⟩
        · rw [List.getElem?_set_ne (Ne.symm he)] at hk
          exact .inr ⟨k, es, hk, rfl⟩
    · rintro (hb | ⟨k, es, hk, rfl⟩)
      · exact .inl hb
      · by_cases he : k = n
        · subst he; exact .inr ⟨k, ovw cs off ds, by simp [hlt], rfl⟩
        · exact .inr ⟨k, es, by rw [List.getElem?_set_ne (Ne.symm he)]; exact hk, rfl⟩
  have hkeep : Keeps (MM M0 ρ H) (MM M0 ρ (H.set n (true, ovw cs off ds))) w (w.setRow (ρ n) (ovwV us off vs).toArray) := by
    refine ⟨fun a u ha hc => ?_, fun b _ hb => (hMM b).1 hb⟩
    rw [cell_setRow_other w (ρ n) _ a (fun he => ha (.inr ⟨n, cs, hn, he⟩))]
    exact hc
  have hcne : ovw cs off ds ≠ [] := by
    intro he
    have := congrArg List.length he
    rw [ovw_length] at this
    exact hne (List.length_eq_zero_iff.1 (by simpa using this))
  refine ⟨_, hrun, hkeep, ?_, fun k m hk => ?_⟩
  rotate_left
  · have hkn : k ≠ n := by
      intro he
      subst he
      rw [hn] at hk
      cases hk
      exact hne rfl
    exact ⟨⟨m, by rw [List.getElem?_set_ne (Ne.symm hkn)]; exact hk⟩, fun _ => setRow_other w (ρ n) (ρ k) _ (fun e => hkn (h.inj k n (List.getElem?_eq_some_iff.1 hk).1 hlt e))⟩
  refine ⟨below_setRow h.grow (h.lo n hlt) _, fun k hk => h.sep k (by simpa using hk), fun k hk => h.lo k (by simpa using hk), fun k hk => by simpa using h.hi k (by simpa using hk), fun k j hk hj => h.inj k j (by simpa using hk) (by simpa using hj), ?_⟩
  intro k m es hk hke
  by_cases he : k = n
  · subst he
    simp only [List.getElem?_set_self hlt, Option.some.injEq, Prod.mk.injEq] at hk
    obtain ⟨rfl, rfl⟩ := hk
    exact ⟨_, ty, setRow_heap w (ρ k) _ _ ty _ h1, (ovw_rep off h2 hv).keep hkeep⟩
  · rw [List.getElem?_set_ne (Ne.symm he)] at hk
    have hkl := (List.getElem?_eq_some_iff.1 hk).1
    obtain ⟨ws, t, h3, h4⟩ := h.rep k m es hk hke
    refine ⟨ws, t, ?_, h4.keep hkeep⟩
    rw [setRow_other w (ρ n) (ρ k) _ (fun e => he (h.inj k n hkl hlt e))]
    exact h3

theorem bytesAt_length (l : List UInt8) : ∀ (n i : Nat), (bytesAt l i n).length = n
  | 0, _ => rfl
  | n + 1, i => by simp [bytesAt, bytesAt_length l n]
theorem bytesAt_ok (l : List UInt8) : ∀ (n i : Nat), (bytesAt l i n).all okCell = true
  | 0, _ => rfl
  | n + 1, i => by simp [bytesAt, bytesAt_ok l n, okCell, Value.oneCell']
theorem bytesAt_rep {M : Nat → Prop} (l : List UInt8) : ∀ (n i : Nat), i + n ≤ l.length → RepL M w (bytesAt l i n) (bytesV ((l.drop i).take n))
  | 0, _, _ => by simpa [bytesAt, bytesV] using RepL.nil
  | n + 1, i, h => by
    have hi : i < l.length := by omega
    have e : (l.drop i).take (n + 1) = l[i] :: (l.drop (i + 1)).take n := by
      rw [List.drop_eq_getElem_cons hi, List.take_succ_cons]
    rw [e]
    refine RepL.cons ?_ (bytesAt_rep l n (i + 1) (by omega))
    rw [RepV.one_iff]
    simp [byteV, List.getD, hi]

theorem heap_wp (hT : TOk P T) (hl : ∀ b, M0 b → b < w0.heap.size) {N : Nat} {E : AE} {a : Act} (h : St w0 M0 N E a w ρ) {o : Oper} {c : Prop} {tv : TV} {H' : List (Bool × List AV)} {K : Act → World → Prop} {Q : Exit → Act → World → Prop}
    (hp : heapF T E o.op = some (c, tv, H')) (hc : c) (hd : ∀ t, o.dst = some t → t < N) (hK : ∀ a' w' ρ', St w0 M0 N ⟨putT o.dst tv E.t, H'⟩ a' w' ρ' → K a' w') : o.wp P a w K Q := by
  obtain ⟨dst, op, ty, pos, after, guard⟩ := o
  simp only at hp hd hK
  unfold heapF at hp
  split at hp
  · rename_i t x
    split at hp <;> try cases hp
    rename_i av hx
    have hx' := h.evr x
    rw [hx] at hx'
    simp only [Option.map_eq_some_iff, Prod.mk.injEq] at hp
    obtain ⟨cs, h1, h2, h3, h4⟩ := hp
    subst h3 h4
    exact wp_value (v := .pointer (some ⟨w.heap.size, 0, none⟩)) (w' := w.alloc (.cells (a.eval x).cells t)) (by simp [execOp, Instr.box, newVar, newRow]) (hK _ _ _ (h.new hl true (cells_rep h1 hx') t hd))
  · rename_i t
    split at hp <;> try cases hp
    rename_i ti ht
    obtain ⟨⟨i, z, h1, h2, h3, h4⟩, _⟩ := hT _ _ ht
    refine wp_value (v := .pointer (some ⟨w.heap.size, 0, none⟩)) (w' := w.alloc (.cells z.cells t)) ?_ (hK _ _ _ (h.new hl true (h4 _ _) t hd))
    simp [execOp, Instr.alloc, zeroValue, typeInfo, h1, h3, newVar, newRow]
  · rename_i t x y
    split at hp <;> try cases hp
    rename_i ti n off av ht hx hy
    split at hp <;> simp only [Option.some.injEq, Prod.mk.injEq, reduceCtorEq] at hp
    rename_i cs ds hn hds
    obtain ⟨h1, h2, h3⟩ := hp
    subst h1 h2 h3
    obtain ⟨c1, c2, c3⟩ := hc
    have hx' := h.evr x
    rw [hx] at hx'
    obtain ⟨_, hx'⟩ := hx'
    have hy' := h.evr y
    rw [hy] at hy'
    have hv := cells_rep hds hy'
    have hvl := hv.length
    simp only [Array.length_toList] at hvl
    obtain ⟨w', h5, h6, h7, h8⟩ := h.heap.store (P := P) hn c2 c3 hv
    have hrun : (execOp a.eval ⟨dst, .store t x y, ty, pos, after, guard⟩).run P w = .ok .skip w' := by
      simp only [execOp, Sem.run_bind, Instr.storeAt, hx', Instr.sureAddr, Sem.run_pure, Result.andThen_ok, storeVar, (hT _ _ ht).sz]
      rw [if_neg (by omega), h5]
      rfl
    have h' : St w0 M0 N ⟨E.t, E.h.set n (true, ovw cs off ds)⟩ a w' ρ := ⟨h7, h.defers, h.size, fun t => RepT.keep h6 (by simp) (fun _ _ => rfl) h8 _ _ (h.tmp t)⟩
    unfold Oper.wp
    rw [hrun]
    exact hK _ _ _ (St.put h' (Grow.refl _) hd (by simp only [RepT, RepV]))
  · rename_i x y dt st
    split at hp <;> try cases hp
    rename_i e _ _ n off len l ht hx hy
    split at hp <;> simp only [Option.some.injEq, Prod.mk.injEq, reduceCtorEq] at hp
    rename_i cs hn
    obtain ⟨h1, h2, h3⟩ := hp
    subst h1 h2 h3
    obtain ⟨c1, c2⟩ := hc
    obtain ⟨_, k1, k2, kbb⟩ := hT _ _ ht
    have hx' := h.evr x
    rw [hx] at hx'
    obtain ⟨_, hx'⟩ := hx'
    have hy' := h.evr y
    rw [hy] at hy'
    have hb := RepV.isB (show RepV _ w (.bs l) (a.eval y) from hy')
    obtain ⟨p, cap, hv, _, _, _, hcell⟩ := hb.form
    have hlb : (bytesAt l 0 len).length = len := bytesAt_length l len 0
    have hrep : RepL (MM M0 ρ E.h) w (bytesAt l 0 len) (bytesV (l.take len)) := by simpa using bytesAt_rep l len 0 (by omega)
    obtain ⟨w', h5, h6, h7, h8⟩ := h.heap.store (P := P) hn (by rw [hlb]; exact c2) (bytesAt_ok l len 0) hrep
    have hrun : (execOp a.eval ⟨dst, .call ⟨.builtin .copy, #[x, y], #[dt, st]⟩, ty, pos, after, guard⟩).run P w = .ok (.value (.int .i64 len)) w' := by
      have hmin : Nat.min l.length len = len := by show min l.length len = len; omega
      by_cases h0 : len = 0
      · subst h0
        simp only [bytesAt, List.take_zero] at h5
        have e5 : (storeCells (⟨ρ n, off, none⟩ : Addr) (bytesV []) 0).run P w = .ok () w' := h5
        simp only [bytesV, List.map_nil, storeCells, Sem.run_pure] at e5
        have ew : w = w' := by injection e5
        subst ew
        cases p with
        | none => simp [execOp, resolve, invoke, builtin, Builtin.copy_, hx', hv, run_underlying k1, Builtin.lenOf, hmin, size_of k2, Builtin.firstCells, storeCells, goInt]
        | some ad => simp [execOp, resolve, invoke, builtin, Builtin.copy_, hx', hv, run_underlying k1, Builtin.lenOf, hmin, size_of k2, Builtin.firstCells, loadCells, loadCellsFrom, storeCells, goInt]
      · obtain ⟨b, o, rfl, hcl⟩ := hcell (by omega)
        have hload := run_loadCells_list (P := P) w ⟨b, o, none⟩ (bytesV (l.take len)) (fun j v hj => by
          have hlt := (List.getElem?_eq_some_iff.1 hj).1
          simp only [length_bytesV, List.length_take] at hlt
          have hjl : j < l.length := by omega
          rw [Addr.add_lit, hcl j hjl]
          rw [show bytesV (l.take len) = (bytesV l).take len by simp [bytesV, List.map_take], List.getElem?_take, if_pos (by omega)] at hj
          simpa [bytesV, byteV, hjl] using hj)
        have hll : (bytesV (l.take len)).length = len := by simp; omega
        rw [hll] at hload
        simp [execOp, resolve, invoke, builtin, Builtin.copy_, hx', hv, run_underlying k1, Builtin.lenOf, hmin, size_of k2, Builtin.firstCells, hload, h5, goInt]
    have h' : St w0 M0 N ⟨E.t, E.h.set n (true, ovw cs off (bytesAt l 0 len))⟩ a w' ρ := ⟨h7, h.defers, h.size, fun t => RepT.keep h6 (by simp) (fun _ _ => rfl) h8 _ _ (h.tmp t)⟩
    exact wp_value hrun (hK _ _ _ (St.put h' (Grow.refl _) hd repT_one))
  · cases hp

/-- An append onto a row of the call's own. -/
theorem append_run {P : Program} {w : World} {M : Nat → Prop} {t ty e : TypeId} {i : TypeInfo} {z : Value} {k : Nat} (ht : P.underlying t = some (.slice e)) (hi : P.info? e = some i) (hz : i.zero = some z) (hsize : i.size = k) (hzs : z.cells.size = k) (hk : 0 < k) (hby : i.bytes ≤ 65536)
    {v y : Value} {n : Nat} {xs us : List Value} (hown : w.ownsRow 0 e k v n xs) (hy : SlM M w y k us) (h1 : ∀ u ∈ us, u.oneCell' = true) (hb : xs.length + us.length ≤ 1000000) :
    ∃ v' w' m, (Builtin.append_ #[t, t] ty #[v, y]).run P w = .ok v' w' ∧ us.length = m * k ∧ w'.ownsRow 0 e k v' (n + m) (xs ++ us) ∧ w.grownBy w' v.ownBlock ∧ (v'.ownBlock = v.ownBlock ∨ v'.ownBlock = some w.heap.size) ∧ (v' = .slice none 0 0 ↔ v = .slice none 0 0 ∧ m = 0) := by
  obtain ⟨p, len, cap, rfl, h2, h3, h4, h5, h6⟩ := hy
  cases p with
  | none =>
    have := h5 rfl
    subst this
    obtain rfl : len = 0 := by omega
    obtain rfl : us = [] := List.length_eq_zero_iff.1 (by simpa using h2)
    refine ⟨v, w, 0, run_append_owned_none (P := P) w 0 t ty e i k ht hi v n xs hown, by simp, by simpa using hown, ⟨rfl, rfl, rfl, Nat.le_refl _, fun _ _ _ => rfl⟩, .inl rfl, by simp⟩
  | some ad =>
    have hn : n * 1 ≤ n * k := Nat.mul_le_mul_left _ hk
    have hl : len * 1 ≤ len * k := Nat.mul_le_mul_left _ hk
    have hx := hown.1
    have hnl : n + len ≤ 1000000 := by omega
    have hmul : (n + len) * i.bytes ≤ 1000000 * 65536 := Nat.mul_le_mul hnl hby
    obtain ⟨v', w', g1, g2, g3, g4, g5⟩ := run_append_own_at (P := P) w 0 t ty e i z k i.bytes ht hi hz hsize rfl hzs hk v n xs hown ad len cap us h2 (fun j u hj => by
      have hlt := (List.getElem?_eq_some_iff.1 hj).1
      obtain ⟨b, o, hp, _, hc⟩ := h6 (by omega)
      cases hp
      rw [Addr.add_lit, hc j hlt]
      simp [List.getD, hj]) h1 (by simp only [maxLen]; omega) (by omega) (Nat.zero_le _)
    exact ⟨v', w', len, g1, h2, g2, g3, g5, g4⟩

/-- A new row. -/
theorem St.addRow {N : Nat} {E : AE} {a : Act} (h : St w0 M0 N E a w ρ) (hl : ∀ b, M0 b → b < w0.heap.size) {w' : World} (g : Grow w w') {b : Nat} (hb : w.heap.size ≤ b) (hb' : b < w'.heap.size) :
    St w0 M0 N ⟨E.t, E.h ++ [(true, [])]⟩ a w' (upd ρ E.h.length b) ∧ Keeps (MM M0 ρ E.h) (MM M0 (upd ρ E.h.length b) (E.h ++ [(true, [])])) w w' := by
  have hge := h.heap.grow.le
  have hk : Keeps (MM M0 ρ E.h) (MM M0 (upd ρ E.h.length b) (E.h ++ [(true, [])])) w w' := by
    refine ⟨fun a u _ hc => g.cell hc, fun x hx hm => ?_⟩
    rcases hm with hm | ⟨n, ds, hn, rfl⟩
    · exact .inl hm
    · have hlt := (List.getElem?_eq_some_iff.1 hn).1
      simp only [List.length_append, List.length_singleton] at hlt
      by_cases he : n = E.h.length
      · subst he
        simp [upd] at hx
        omega
      · rw [List.getElem?_append_left (by omega)] at hn
        exact .inr ⟨n, ds, hn, by simp [upd, he]⟩
  refine ⟨⟨⟨h.heap.grow.trans g, ?_, ?_, ?_, ?_, ?_⟩, h.defers, h.size, fun t => ?_⟩, hk⟩
  · intro n hn hm
    simp only [List.length_append, List.length_singleton] at hn
    unfold upd at hm
    split at hm
    · have := hl _ hm
      omega
    · exact h.heap.sep n (by omega) hm
  · intro n hn
    simp only [List.length_append, List.length_singleton] at hn
    unfold upd
    split
    · omega
    · exact h.heap.lo n (by omega)
  · intro n hn
    simp only [List.length_append, List.length_singleton] at hn
    unfold upd
    split
    · exact hb'
    · have := h.heap.hi n (by omega)
      have := g.le
      omega
  · intro n k hn hk' he
    simp only [List.length_append, List.length_singleton] at hn hk'
    unfold upd at he
    split at he <;> split at he
    · omega
    · have := h.heap.hi k (by omega)
      omega
    · have := h.heap.hi n (by omega)
      omega
    · exact h.heap.inj n k (by omega) (by omega) he
  · intro n m ds hn hne
    have hlt := (List.getElem?_eq_some_iff.1 hn).1
    simp only [List.length_append, List.length_singleton] at hlt
    by_cases he : n = E.h.length
    · subst he
      simp only [List.getElem?_append_right (Nat.le_refl _), Nat.sub_self, List.getElem?_cons_zero, Option.some.injEq, Prod.mk.injEq] at hn
      exact absurd hn.2.symm hne
    · rw [List.getElem?_append_left (by omega)] at hn
      obtain ⟨vs, t, h1, h2⟩ := h.heap.rep n m ds hn hne
      refine ⟨vs, t, ?_, h2.keep hk⟩
      simp only [upd, he, if_false]
      rw [g.block _ (h.heap.hi n (by omega))]
      exact h1
  · exact RepT.keep hk (by simp) (fun n hn => by simp [upd, show n ≠ E.h.length by omega]) (fun n m hn => ⟨⟨m, by rw [List.getElem?_append_left (List.getElem?_eq_some_iff.1 hn).1]; exact hn⟩, fun hlt => g.block _ hlt⟩) _ _ (h.tmp t)

theorem dropT_lk (n : Nat) : ∀ (l : List (Nat × TV)) (t : Nat), lk (dropT n l) t = dropV n (lk l t)
  | [], _ => rfl
  | (k, x) :: r, t => by
    simp only [dropT, lk]
    split
    · rfl
    · exact dropT_lk n r t

/-- A row is written behind its end, or moved. -/
theorem St.turnRow {N : Nat} {E : AE} {a : Act} (h : St w0 M0 N E a w ρ) (hl : ∀ b, M0 b → b < w0.heap.size) {n : Nat} (hn : E.h[n]? = some (true, [])) {w' : World} (g : w.grownBy w' (some (ρ n))) {b : Nat} (hb : b = ρ n ∨ b = w.heap.size) (hb' : b < w'.heap.size) :
    St w0 M0 N ⟨dropT n E.t, E.h⟩ a w' (upd ρ n b) ∧ Keeps (MM M0 ρ E.h) (MM M0 (upd ρ n b) E.h) w w' := by
  have hge := h.heap.grow.le
  have hnl := (List.getElem?_eq_some_iff.1 hn).1
  have hsz := g.size
  have hk : Keeps (MM M0 ρ E.h) (MM M0 (upd ρ n b) E.h) w w' := by
    refine ⟨fun a u ha hc => g.cell hc (fun e => ?_), fun x hx hm => ?_⟩
    · simp only [Option.some.injEq] at e
      exact ha (.inr ⟨n, [], hn, e⟩)
    · rcases hm with hm | ⟨m, ds, hm, rfl⟩
      · exact .inl hm
      · by_cases he : m = n
        · subst he
          simp only [upd, if_true] at hx ⊢
          rcases hb with rfl | rfl
          · exact .inr ⟨m, ds, hm, rfl⟩
          · omega
        · exact .inr ⟨m, ds, hm, by simp [upd, he]⟩
  refine ⟨⟨⟨Below.grown h.heap.grow g hge (fun k hk => by cases hk; exact h.heap.lo n hnl), ?_, ?_, ?_, ?_, ?_⟩, h.defers, h.size, fun t => ?_⟩, hk⟩
  · intro m hm hM
    unfold upd at hM
    split at hM
    · rcases hb with rfl | rfl
      · exact h.heap.sep n hnl hM
      · have := hl _ hM
        omega
    · exact h.heap.sep m hm hM
  · intro m hm
    unfold upd
    split
    · rcases hb with rfl | rfl
      · exact h.heap.lo n hnl
      · exact hge
    · exact h.heap.lo m hm
  · intro m hm
    unfold upd
    split
    · exact hb'
    · have := h.heap.hi m hm
      omega
  · intro m k hm hk' he
    unfold upd at he
    split at he <;> split at he
    · omega
    · rcases hb with rfl | rfl
      · have := h.heap.inj n k hnl hk' he
        omega
      · have := h.heap.hi k hk'
        omega
    · rcases hb with rfl | rfl
      · have := h.heap.inj m n hm hnl he
        omega
      · have := h.heap.hi m hm
        omega
    · exact h.heap.inj m k hm hk' he
  · intro m x ds hm hne
    have hml := (List.getElem?_eq_some_iff.1 hm).1
    have he : m ≠ n := by
      intro he
      subst he
      rw [hn] at hm
      cases hm
      exact hne rfl
    obtain ⟨vs, t, h1, h2⟩ := h.heap.rep m x ds hm hne
    refine ⟨vs, t, ?_, h2.keep hk⟩
    simp only [upd, he, if_false]
    rw [g.block _ (h.heap.hi m hml) (fun e => he (h.heap.inj m n hml hnl (by simpa using e)))]
    exact h1
  · have ht := h.tmp t
    show RepT _ _ _ _ (lk (dropT n E.t) t) _
    rw [dropT_lk]
    revert ht
    have hblk : ∀ m, m < E.h.length → m ≠ n → w'.heap[ρ m]? = w.heap[ρ m]? := fun m hm he => g.block _ (h.heap.hi m hm) (fun e => he (h.heap.inj m n hm hnl (by simpa using e)))
    cases lk E.t t with
    | v x => intro ht; exact RepV.keep hk _ _ ht
    | z => intro ht; exact ht
    | q cs =>
      intro ht
      obtain ⟨b, o, us, h1, h2, h3, h4, h5⟩ := ht
      exact ⟨b, o, us, h1, h2, fun hb => h3 (hk.set b (World.block_lt_of_cell? w _ (h4 0 h2)) hb), fun i hi => hk.cell _ _ h3 (h4 i hi), RepL.keep hk cs us h5⟩
    | p m o =>
      intro ht
      simp only [dropV]
      split
      · simp only [RepT, RepV]
      · rename_i he
        exact ⟨ht.1, by rw [ht.2]; simp [upd, he]⟩
    | s m o l =>
      intro ht
      simp only [dropV]
      split
      · simp only [RepT, RepV]
      · rename_i he
        exact ⟨ht.1, by rw [ht.2]; simp [upd, he]⟩
    | r m e k x =>
      intro ht
      simp only [dropV]
      split
      · simp only [RepT, RepV]
      · rename_i he
        obtain ⟨⟨y, hy⟩, ht⟩ := ht
        exact ⟨⟨y, hy⟩, ht.keep hk (by simp [upd, he]) (hblk m (List.getElem?_eq_some_iff.1 hy).1 he)⟩
    | it m s p =>
      intro ht
      simp only [dropV]
      split
      · simp only [RepT, RepV]
      · rename_i he
        obtain ⟨⟨y, hy⟩, hx, hh⟩ := ht
        refine ⟨⟨y, hy⟩, by rw [hx]; simp [upd, he], ?_⟩
        simp only [upd, he, if_false]
        rw [hblk m (List.getElem?_eq_some_iff.1 hy).1 he]
        exact hh

theorem bytesV_one {l : List UInt8} : ∀ u ∈ bytesV l, u.oneCell' = true := by
  intro u hu
  simp only [bytesV, List.mem_map] at hu
  obtain ⟨b, _, rfl⟩ := hu
  rfl
/-- What stands behind the second argument. -/
theorem app_src {M : Nat → Prop} {w : World} {a a' : AV} {Y : TV} {c : Prop} {k : Nat} {xs : List Value} {y : Value} (h : catA a Y = some (c, a')) (hc : c) (hx : contA M w k xs a) (hy : ∀ v, Y = .v v → RepV M w v y) :
    ∃ us, SlM M w y k us ∧ (∀ u ∈ us, u.oneCell' = true) ∧ xs.length + us.length ≤ 1000000 ∧ ∀ M' w', Keeps M M' w w' → contA M' w' k (xs ++ us) a' := by
  unfold catA at h
  split at h
  · rename_i l m
    simp only [Option.some.injEq, Prod.mk.injEq] at h
    obtain ⟨h1, rfl⟩ := h
    subst h1
    obtain ⟨rfl, rfl⟩ := hx
    have hy := hy _ rfl
    rw [RepV.bs_iff] at hy
    refine ⟨bytesV m, hy, bytesV_one, by simpa using hc, fun M' w' _ => ⟨rfl, by simp [bytesV]⟩⟩
  · rename_i k1 cs k2 ds
    simp only [Option.some.injEq, Prod.mk.injEq] at h
    obtain ⟨h1, rfl⟩ := h
    subst h1
    obtain ⟨rfl, c2, c3⟩ := hc
    obtain ⟨rfl, hx⟩ := hx
    have hy1 := hy _ rfl
    simp only [RepV] at hy1
    obtain ⟨us, h2, h3⟩ := hy1
    have e1 := hx.length
    have e2 := h3.length
    exact ⟨us, h2, okCell_rep c2 h3, by omega, fun M' w' hk => ⟨rfl, (RepL.keep hk _ _ hx).append (RepL.keep hk _ _ h3)⟩⟩
  · cases h

theorem app_wp (hT : TOk P T) (hl : ∀ b, M0 b → b < w0.heap.size) {N : Nat} {E : AE} {a : Act} (h : St w0 M0 N E a w ρ) {o : Oper} {x y : Operand} {t : TypeId} (ho : o.op = .call ⟨.builtin .append, #[x, y], #[t, t]⟩) {c : Prop} {tv : TV} {E' : AE} {K : Act → World → Prop} {Q : Exit → Act → World → Prop}
    (hp : appF T E t (evT E.t x) (rd E.h (evT E.t y)) = some (c, tv, E')) (hc : c) (hd : ∀ t, o.dst = some t → t < N) (hK : ∀ a' w' ρ', St w0 M0 N ⟨putT o.dst tv E'.t, E'.h⟩ a' w' ρ' → K a' w') : o.wp P a w K Q := by
  have hx := h.evs x
  have hy := h.evr y
  unfold appF at hp
  split at hp <;> try cases hp
  rename_i e k _ _ ht
  obtain ⟨_, k1, k2, kbb⟩ := hT _ _ ht
  split at hp <;> try cases hp
  rename_i tk sz zz he
  obtain ⟨⟨i, zv, q1, q2, q3, q4⟩, _⟩ := hT _ _ he
  have hzc := (q4 (fun _ => False) w).length
  have hsz : i.size = k := by
    rw [q1] at k2
    simpa using k2
  have run : ∀ (w' : World) (v' : Value), (Builtin.append_ #[t, t] o.type #[a.eval x, a.eval y]).run P w = .ok v' w' → K (a.put o.dst v') w' → o.wp P a w K Q := by
    intro w' v' hr hk
    refine wp_value (v := v') (w' := w') ?_ hk
    unfold execOp
    simp only [ho, resolve, invoke, builtin, Sem.run_bind, Sem.run_pure, Result.andThen_ok, List.map_toArray, List.map_cons, List.map_nil, hr]
  split at hp
  · rename_i n e' k' ar hX
    rw [hX] at hx
    split at hp <;> try cases hp
    rename_i cs0 hn
    simp only [Option.map_eq_some_iff, Prod.mk.injEq] at hp
    obtain ⟨⟨c1, a'⟩, h1, h2, h3, h4⟩ := hp
    subst h2 h3 h4
    obtain ⟨⟨rfl, rfl, rfl, hzl, hk0⟩, hc1⟩ := hc
    obtain ⟨⟨m, hm⟩, xs, len, hown, hob, hcont⟩ := hx
    rw [hn] at hm
    cases hm
    obtain ⟨us, g1, g2, g3, g4⟩ := app_src h1 hc1 hcont (y := a.eval y) (fun v hv => by rw [hv] at hy; exact hy)
    have hzs : zv.cells.size = sz := by
      rw [← hzl, ← hzc, Array.length_toList]
    obtain ⟨v', w', m, r1, r2, r3, r4, r5, r6⟩ := append_run (P := P) (ty := o.type) k1 q1 q3 q2 hzs hk0 (kbb i q1) hown g1 g2 g3
    rw [hob] at r4 r5
    have hb : ∃ b, v'.ownBlock = some b ∧ (b = ρ n ∨ b = w.heap.size) := by
      rcases r5 with r5 | r5
      · exact ⟨_, r5, .inl rfl⟩
      · exact ⟨_, r5, .inr rfl⟩
    obtain ⟨b, hb1, hb2⟩ := hb
    have hb3 : b < w'.heap.size := by
      rcases r3.2 with ⟨hv, _⟩ | ⟨g, cap, cur, hv, _, hg, _⟩
      · rw [hv] at hb1; cases hb1
      · rw [hv] at hb1
        simp only [Value.ownBlock, Option.some.injEq] at hb1
        subst hb1
        exact (Array.getElem?_eq_some_iff.1 hg).1
    obtain ⟨hst, hkeep⟩ := h.turnRow hl hn r4 hb2 hb3
    refine run w' v' r1 (hK _ _ _ (St.put hst (Grow.refl _) hd ⟨⟨true, hn⟩, xs ++ us, _, r3, ?_, g4 _ _ hkeep⟩))
    rw [hb1]
    simp [upd]
  · rename_i hX
    rw [hX] at hx
    have hx : a.eval x = .slice none 0 0 := hx
    have fin : ∀ (ar : AV) (us : List Value), sz = k → zz.length = k → 0 < k → SlM (MM M0 ρ E.h) w (a.eval y) k us → (∀ u ∈ us, u.oneCell' = true) → us.length ≤ 1000000 → 0 < us.length → (∀ M' w', Keeps (MM M0 ρ E.h) M' w w' → contA M' w' k us ar) →
        (∀ a' w' ρ', St w0 M0 N ⟨putT o.dst (.r E.h.length e k ar) E.t, E.h ++ [(true, [])]⟩ a' w' ρ' → K a' w') → o.wp P a w K Q := by
      intro ar us hsk hzl hk0 g1 g2 g3 g5 g4 hK
      have hzs : zv.cells.size = k := by
        rw [← hzl, ← hzc, Array.length_toList]
      obtain ⟨v', w', m, r1, r2, r3, r4, r5, r6⟩ := append_run (P := P) (ty := o.type) (v := .slice none 0 0) k1 q1 q3 hsz hzs hk0 (kbb i q1) (World.ownsRow_nil w 0 e k) g1 g2 (by simpa using g3)
      have hm : m ≠ 0 := by
        intro hm
        subst hm
        omega
      have hb1 : v'.ownBlock = some w.heap.size := by
        rcases r5 with r5 | r5
        · exfalso
          rcases r3.2 with ⟨hv, _⟩ | ⟨g, cap, cur, hv, _, hg, _⟩
          · exact hm (r6.1 hv).2
          · rw [hv] at r5
            cases r5
        · exact r5
      have hb3 : w.heap.size < w'.heap.size := by
        rcases r3.2 with ⟨hv, _⟩ | ⟨g, cap, cur, hv, _, hg, _⟩
        · rw [hv] at hb1; cases hb1
        · rw [hv] at hb1
          simp only [Value.ownBlock, Option.some.injEq] at hb1
          subst hb1
          exact (Array.getElem?_eq_some_iff.1 hg).1
      have hg : Grow w w' := Below.grown (Below.refl _ _) r4 (Nat.le_refl _) (fun k hk => by cases hk)
      obtain ⟨hst, hkeep⟩ := h.addRow hl hg (Nat.le_refl _) hb3
      rw [hx] at run
      refine run w' v' r1 (hK _ _ _ (St.put hst (Grow.refl _) hd ⟨⟨true, by simp⟩, us, _, by simpa using r3, ?_, g4 _ _ hkeep⟩))
      rw [hb1]
      simp [upd]
    split at hp
    · rename_i m hY
      simp only [Option.some.injEq, Prod.mk.injEq] at hp
      obtain ⟨h1, h2, h3⟩ := hp
      subst h1 h2 h3
      obtain ⟨rfl, c2, c3, c4, c5⟩ := hc
      rw [hY] at hy
      have hy : RepV _ w (.bs m) (a.eval y) := hy
      rw [RepV.bs_iff] at hy
      exact fin (.bs m) (bytesV m) c2 c3 (by omega) hy bytesV_one (by simpa using c5) (by simpa using c4) (fun _ _ _ => ⟨rfl, rfl⟩) hK
    · rename_i k' ds hY
      simp only [Option.some.injEq, Prod.mk.injEq] at hp
      obtain ⟨h1, h2, h3⟩ := hp
      subst h1 h2 h3
      obtain ⟨rfl, c2, c3, c4, c5, c6, c7⟩ := hc
      rw [hY] at hy
      have hy : RepV _ w (.sl k ds) (a.eval y) := hy
      simp only [RepV] at hy
      obtain ⟨us, h2, h3⟩ := hy
      have e2 := h3.length
      exact fin (.sl k ds) us c2 c3 c4 h2 (okCell_rep c5 h3) (by omega) (by omega) (fun M' w' hk => ⟨rfl, RepL.keep hk _ _ h3⟩) hK
    · cases hp
  · cases hp

theorem ACall.wp {wf : Bool} (hT : TOk P T) (hl : ∀ b, M0 b → b < w0.heap.size) {N : Nat} {E : AE} {a : Act} (h : St w0 M0 N E a w ρ) {o : Oper} {f : Operand} {args : Array Operand} {tys : Array TypeId} (ho : o.op = .call ⟨.value f, args, tys⟩) {K : AE → Prop} {KK : Act → World → Prop} {Q : Exit → Act → World → Prop}
    (hs : ACall wf P (evT E.t f) (argsF (fun x => rd E.h (evT E.t x)) args.toList) o.dst E K) (hd : ∀ t, o.dst = some t → t < N) (hK : ∀ E' a' w' ρ', K E' → St w0 M0 N E' a' w' ρ' → KK a' w') : o.wp P a w KK Q := by
  rcases hs with ⟨g, x, r, h1, h2, h3, h4⟩ | ⟨_, g, x, e, k, ar, h1, h2, h3, h4, h5⟩
  · exact hop_wp hT h.heap (.inl (h.heap.low' hl)) (tv := .v r) (by rw [ho]; exact .call h1 h2 h3) (fun x _ => h.evs x) (fun v w' g hv => hK _ _ _ _ h4 (h.put g hd hv))
  · have hf := h.evs f
    rw [h1] at hf
    have hf : a.eval f = .func (.func g) #[] #[] := hf
    have ha := args_rep (ea := a.eval) h2 (fun y _ => h.evr y)
    obtain ⟨⟨fn, f1, f2, f3⟩, h3⟩ := h3
    have hcall := h3 (MM M0 ρ E.h) w _ (h.heap.low' hl) ha
    obtain ⟨dst, op, ty, pos, after, guard⟩ := o
    simp only at ho hd h5
    subst ho
    have hrun : (execOp a.eval ⟨dst, .call ⟨.value f, args, tys⟩, ty, pos, after, guard⟩).run P w = .ok (.enter g (args.toList.map a.eval).toArray) w := by
      simp only [execOp, Sem.run_bind, resolve, hf, Deferred.ofValue, Sem.run_pure, Result.andThen_ok, invoke, callFunc, run_program, f1, f2, f3]
      simp
      apply Array.ext'; simp
    unfold Oper.wp
    rw [hrun]
    refine hcall.mono ?_
    rintro ex w' ⟨v, us, len, rfl, hg, hown, hcont⟩
    have hcont0 := hcont (MM M0 ρ E.h) (fun _ => .inl)
    have hlen : 0 < us.length := by
      cases ar with
      | bs l =>
        obtain ⟨_, rfl⟩ := hcont0
        have h4 : 0 < l.length := h4
        simpa using h4
      | sl k' cs => have := hcont0.2.length; rw [this]; exact h4
      | any => exact hcont0.elim
      | one _ => exact hcont0.elim
      | agg _ => exact hcont0.elim
      | tup _ => exact hcont0.elim
      | ifc _ _ => exact hcont0.elim
    obtain ⟨h0, hv⟩ := hown
    rcases hv with ⟨_, hn⟩ | ⟨b, cap, cur, rfl, hb, hcur, h6⟩
    · subst hn
      omega
    · obtain ⟨hst, hkeep⟩ := h.addRow hl hg hb (Array.getElem?_eq_some_iff.1 hcur).1
      refine hK _ _ _ _ h5 (St.put hst (Grow.refl _) hd ⟨⟨true, by simp⟩, us, len, ⟨h0, .inr ⟨b, cap, cur, rfl, Nat.zero_le _, hcur, h6⟩⟩, by simp [Value.ownBlock, upd], hcont _ ?_⟩)
      rintro x (hx | ⟨n, ds, hn, rfl⟩)
      · exact .inl (.inl hx)
      · have hlt := (List.getElem?_eq_some_iff.1 hn).1
        simp only [List.length_append, List.length_singleton] at hlt
        by_cases he : n = E.h.length
        · subst he
          exact .inr (by simp [Value.ownBlock, upd])
        · rw [List.getElem?_append_left (by omega)] at hn
          exact .inl (.inr ⟨n, ds, hn, by simp [upd, he]⟩)

theorem frz1_length : ∀ (n : Nat) (h : List (Bool × List AV)), (frz1 n h).length = h.length
  | _, [] => by simp [frz1]
  | 0, _ :: _ => by simp [frz1]
  | n + 1, _ :: r => by simp [frz1, frz1_length n r]
theorem frz1_get : ∀ (k : Nat) (h : List (Bool × List AV)) (n : Nat) (m : Bool) (cs : List AV), (frz1 k h)[n]? = some (m, cs) → ∃ m', h[n]? = some (m', cs) ∧ (m = true → m' = true)
  | _, [], n, m, cs, hn => by simp [frz1] at hn
  | 0, b :: r, 0, m, cs, hn => by
    simp only [frz1, List.getElem?_cons_zero, Option.some.injEq, Prod.mk.injEq] at hn
    obtain ⟨rfl, rfl⟩ := hn
    exact ⟨b.1, by simp, fun h => by cases h⟩
  | 0, b :: r, n + 1, m, cs, hn => by
    simp only [frz1, List.getElem?_cons_succ] at hn ⊢
    exact ⟨m, hn, id⟩
  | k + 1, b :: r, 0, m, cs, hn => by
    simp only [frz1, List.getElem?_cons_zero] at hn ⊢
    exact ⟨m, hn, id⟩
  | k + 1, b :: r, n + 1, m, cs, hn => by
    simp only [frz1, List.getElem?_cons_succ] at hn ⊢
    exact frz1_get k r n m cs hn
/-- Some blocks are not written any more. -/
theorem St.less {N : Nat} {t : List (Nat × TV)} {h h' : List (Bool × List AV)} {a : Act} {w : World} {ρ : Nat → Nat} (hs : St w0 M0 N ⟨t, h⟩ a w ρ) (hl : h'.length = h.length)
    (hg : ∀ (n : Nat) (m : Bool) (cs : List AV), h'[n]? = some (m, cs) → ∃ m', h[n]? = some (m', cs) ∧ (m = true → m' = true)) : St w0 M0 N ⟨t, h'⟩ a w ρ := by
  have hk : Keeps (MM M0 ρ h) (MM M0 ρ h') w w := Keeps.less fun x hx => by
    rcases hx with hx | ⟨n, cs, hn, rfl⟩
    · exact .inl hx
    · obtain ⟨m', h1, h2⟩ := hg _ _ _ hn
      rw [h2 rfl] at h1
      exact .inr ⟨n, cs, h1, rfl⟩
  refine ⟨⟨hs.heap.grow, fun n hn => hs.heap.sep n (by simpa [hl] using hn), fun n hn => hs.heap.lo n (by simpa [hl] using hn), fun n hn => hs.heap.hi n (by simpa [hl] using hn), fun n m hn hm => hs.heap.inj n m (by simpa [hl] using hn) (by simpa [hl] using hm), fun n m cs hn hne => ?_⟩, hs.defers, hs.size, fun t => ?_⟩
  · obtain ⟨m', h1, _⟩ := hg _ _ _ hn
    obtain ⟨us, ty, h3, h4⟩ := hs.heap.rep n m' cs h1 hne
    exact ⟨us, ty, h3, h4.keep hk⟩
  · refine RepT.keep hk (by simp [hl]) (fun _ _ => rfl) (fun n m hn => ⟨?_, fun _ => rfl⟩) _ _ (hs.tmp t)
    have hlt := (List.getElem?_eq_some_iff.1 hn).1
    have hlt' : n < h'.length := by rw [hl]; exact hlt
    obtain ⟨m', h1, _⟩ := hg n (h'[n]).1 (h'[n]).2 (by rw [List.getElem?_eq_getElem hlt'])
    have hn' : h[n]? = some (m, []) := hn
    rw [hn'] at h1
    simp only [Option.some.injEq, Prod.mk.injEq] at h1
    exact ⟨(h'[n]).1, by rw [List.getElem?_eq_getElem hlt', h1.2]⟩
theorem St.frzR {N : Nat} {t : List (Nat × TV)} {a : Act} {w : World} {ρ : Nat → Nat} (ev : Operand → TV) : ∀ (l : List Operand) (h : List (Bool × List AV)), St w0 M0 N ⟨t, h⟩ a w ρ → St w0 M0 N ⟨t, Go.Proofs.Ythjojkkapboonaa.frzR ev l h⟩ a w ρ
  | [], h, hs => hs
  | x :: r, h, hs => by
    unfold Go.Proofs.Ythjojkkapboonaa.frzR
    split
    · rename_i n _ _ _ _
      exact St.frzR ev r _ (hs.less (frz1_length n h) (frz1_get n h))
    · rename_i n _ _ _
      exact St.frzR ev r _ (hs.less (frz1_length n h) (frz1_get n h))
    · exact St.frzR ev r _ hs
theorem St.frzW {N : Nat} {E : AE} {a : Act} {w : World} {ρ : Nat → Nat} (wf : Bool) (ev : Operand → TV) (l : List Operand) (hs : St w0 M0 N E a w ρ) : St w0 M0 N ⟨E.t, Go.Proofs.Ythjojkkapboonaa.frzW wf ev l E.h⟩ a w ρ := by
  cases wf
  · exact hs
  · exact St.frzR ev l _ hs

theorem St.new0 {N : Nat} {E : AE} {a : Act} {w : World} {ρ : Nat → Nat} (h : St w0 M0 N E a w ρ) (hl : ∀ b, M0 b → b < w0.heap.size) (m : Bool) {cs : List AV} {us : Array Value} (hr : RepL (MM M0 ρ E.h) w cs us.toList) (ty : TypeId) :
    St w0 M0 N ⟨E.t, E.h ++ [(m, cs)]⟩ a (w.alloc (.cells us ty)) (upd ρ E.h.length w.heap.size) := by
  refine ⟨h.heap.new hl m hr ty, h.defers, h.size, fun t => ?_⟩
  exact RepT.keep (h.heap.keepNew m cs _) (by simp) (fun n hn => by simp [upd, show n ≠ E.h.length by omega]) (fun n m' hn => ⟨⟨m', by rw [List.getElem?_append_left (List.getElem?_eq_some_iff.1 hn).1]; exact hn⟩, fun hb => Below.heap_alloc _ _ _ hb⟩) _ _ (h.tmp t)
theorem okNone_pos {tk : TK} {k : Nat} (h : okNone tk k) : 0 < k := by
  unfold okNone at h
  split at h <;> omega
theorem noneA_cont {M : Nat → Prop} {w : World} {tk : TK} {k : Nat} (h : okNone tk k) : contA M w k [] (noneA tk k) := by
  unfold okNone at h
  unfold noneA
  split at h
  · exact ⟨h, rfl⟩
  · exact ⟨rfl, RepL.nil⟩
theorem goT_lk (n : Nat) (s : ByteArray) (pos : Nat) : ∀ (l : List (Nat × TV)) (t : Nat), lk (goT n s pos l) t = goV n s pos (lk l t)
  | [], t => rfl
  | (k, x) :: l, t => by
    simp only [goT, lk]
    split
    · rfl
    · exact goT_lk n s pos l t
/-- The iterator of a block goes on. -/
theorem St.goIt {N : Nat} {E : AE} {a : Act} {w : World} {ρ : Nat → Nat} (h : St w0 M0 N E a w ρ) (hl : ∀ b, M0 b → b < w0.heap.size) {n : Nat} (hn : E.h[n]? = some (true, [])) {s : ByteArray} {p q : Nat} (hp : w.heap[ρ n]? = some (.stringIter s p)) :
    ∃ ρ', St w0 M0 N ⟨goT n s q E.t, E.h⟩ a { w with heap := w.heap.set! (ρ n) (.stringIter s q) } ρ' := by
  have hlt := (Array.getElem?_eq_some_iff.1 hp).1
  have hg : w.grownBy { w with heap := w.heap.set! (ρ n) (.stringIter s q) } (some (ρ n)) := by
    refine ⟨rfl, rfl, rfl, by simp, fun k hk hne => ?_⟩
    have : k ≠ ρ n := fun he => hne (by rw [he])
    simp [Ne.symm this]
  obtain ⟨hst, hkeep⟩ := h.turnRow hl hn hg (b := ρ n) (.inl rfl) (by simpa using hlt)
  refine ⟨_, hst.heap, hst.defers, hst.size, fun t => ?_⟩
  have ht := hst.tmp t
  have h0 := h.tmp t
  simp only at ht ⊢
  rw [dropT_lk] at ht
  rw [goT_lk]
  cases hc : lk E.t t with
  | it m s' p' =>
    rw [hc] at ht h0
    simp only [goV]
    split
    · rename_i hm
      subst hm
      obtain ⟨_, hx, hh⟩ := h0
      refine ⟨⟨true, hn⟩, ?_, ?_⟩
      · rw [hx]; simp [upd]
      · simp [upd, hlt]
    · rename_i hm
      simp only [dropV, if_neg hm] at ht
      exact ht
  | v x => rw [hc] at ht; exact ht
  | p m o => rw [hc] at ht; exact ht
  | q cs => rw [hc] at ht; exact ht
  | s m o l => rw [hc] at ht; exact ht
  | r m e k x => rw [hc] at ht; exact ht
  | z => rw [hc] at ht; exact ht
/-- A new row of no elements. -/
theorem St.newRow {N : Nat} {E : AE} {a : Act} {w : World} {ρ : Nat → Nat} (h : St w0 M0 N E a w ρ) (hl : ∀ b, M0 b → b < w0.heap.size) {cur : Array Value} {e cap k : Nat} {tk : TK} (hk : okNone tk k) (hc : cur.size = cap * k) (hm : cap ≤ maxLen) {d : Option Tmp} (hd : ∀ t, d = some t → t < N) :
    St w0 M0 N ⟨putT d (.r E.h.length e k (noneA tk k)) E.t, E.h ++ [(true, [])]⟩ (a.put d (.slice (some ⟨w.heap.size, 0, none⟩) 0 cap)) (w.alloc (.cells cur e)) (upd ρ E.h.length w.heap.size) := by
  obtain ⟨hst, hkeep⟩ := h.addRow hl (Grow.a1 w (.cells cur e)) (Nat.le_refl _) (by simp)
  refine St.put hst (Grow.refl _) hd ⟨⟨true, by simp⟩, [], 0, ⟨by simp, .inr ⟨w.heap.size, cap, cur, rfl, by omega, heap_alloc_new _ _, by omega, hm, hc, by simp⟩⟩, ?_, noneA_cont hk⟩
  simp [Value.ownBlock, upd]
theorem newF_wp (hT : TOk P T) (hl : ∀ b, M0 b → b < w0.heap.size) {N : Nat} {E : AE} {a : Act} {w : World} {ρ : Nat → Nat} (h : St w0 M0 N E a w ρ) {o : Oper} {c : Prop} {tv : TV} {H' : List (Bool × List AV)} {K : Act → World → Prop} {Q : Exit → Act → World → Prop}
    (hn : isNew o.op = true) (hp : newF T E o.op = some (c, tv, H')) (hc : c) (hd : ∀ t, o.dst = some t → t < N) (hK : ∀ a' w' ρ', St w0 M0 N ⟨putT o.dst tv E.t, H'⟩ a' w' ρ' → K a' w') : o.wp P a w K Q := by
  obtain ⟨dst, op, ty, pos, after, guard⟩ := o
  simp only at hp hd hK hn
  unfold newF at hp
  split at hp
  · rename_i t y
    have hy := h.evr y
    split at hp <;> try cases hp
    rename_i e k _ _ ky m ht hm
    rw [hm] at hy
    have hy : a.eval y = .int ky m := hy
    obtain ⟨_, k1, k2, kbb⟩ := hT _ _ ht
    split at hp <;> try cases hp
    rename_i tk sz zz he
    obtain ⟨⟨i, zv, q1, q2, q3, q4⟩, _⟩ := hT _ _ he
    simp only at q2
    obtain ⟨c1, c2, c3, c4, c5⟩ := hc
    subst c1
    have hb := kbb i q1
    have hrun := run_make (P := P) w t e i zv k1 q1 q3 .i64 ky 0 m (by omega) c4 (by
      have : (i.bytes : Int) * m ≤ 65536 * m := Int.mul_le_mul_of_nonneg_right (by omega) c4
      omega) (by omega)
    rw [q2] at hrun
    refine wp_value (v := .slice (some ⟨w.heap.size, 0, none⟩) 0 m.toNat) (w' := w.alloc (.cells (madeCells zv.cells (m.toNat * sz)) e)) ?_ (hK _ _ _ (h.newRow hl c3 (size_madeCells _ _) (by simp only [maxLen]; omega) hd))
    have hz : a.eval (.const (.int .i64 0)) = .int .i64 0 := rfl
    simp only [execOp, Sem.run_bind, hy, hz, hrun]
    rfl
  · rename_i t x y _
    have hx := h.evr x
    have hy := h.evr y
    split at hp <;> try cases hp
    rename_i e k _ _ kx n ky m ht hn' hm
    rw [hn'] at hx
    rw [hm] at hy
    have hx : a.eval x = .int kx n := hx
    have hy : a.eval y = .int ky m := hy
    obtain ⟨_, k1, k2, kbb⟩ := hT _ _ ht
    split at hp <;> try cases hp
    rename_i tk sz zc he
    obtain ⟨⟨i, zv, q1, q2, q3, q4⟩, _⟩ := hT _ _ he
    simp only at q2 q4
    have hb := kbb i q1
    have key : ∀ (cs : List AV), sz = 1 → k = 1 → n = m → 0 ≤ n → n ≤ 1000000 → RepL (MM M0 ρ E.h) w cs (List.replicate n.toNat zv.cells.toList).flatten → (∀ a' w' ρ', St w0 M0 N ⟨putT dst (.s E.h.length 0 n.toNat) E.t, E.h ++ [(true, cs)]⟩ a' w' ρ' → K a' w') →
        Oper.wp P ⟨dst, .makeSlice t x y, ty, pos, after, guard⟩ a w K Q := by
      intro cs g1 g2 g3 g4 g5 hr hK
      subst g3 g1 g2
      have hrun := run_make (P := P) w t e i zv k1 q1 q3 kx ky n n g4 (Int.le_refl _) (by
        have : (i.bytes : Int) * n ≤ 65536 * n := Int.mul_le_mul_of_nonneg_right (by omega) g4
        omega) (by omega)
      rw [q2] at hrun
      have hz := (q4 (MM M0 ρ E.h) w).length
      simp only [Array.length_toList, List.length_singleton] at hz
      have hcells : (madeCells zv.cells (n.toNat * 1)).toList = (List.replicate n.toNat zv.cells.toList).flatten := by
        rw [← range_mod zv.cells.toList 1 (by simp; omega) (by omega) n.toNat]
        simp only [madeCells, Array.toList_map, Array.toList_range]
        apply List.map_congr_left
        intro j _
        simp [hz]
      refine wp_value (v := .slice (some ⟨w.heap.size, 0, none⟩) n.toNat n.toNat) (w' := w.alloc (.cells (madeCells zv.cells (n.toNat * 1)) e)) ?_ (hK _ _ _ ((h.new0 hl true (by rw [hcells]; exact hr) e).put (Grow.refl _) hd ⟨by simp, by simp [upd]⟩))
      simp [execOp, hx, hy, hrun]
    have hrep : ∀ (q : Nat), RepL (MM M0 ρ E.h) w (List.replicate q zc) (List.replicate q zv.cells.toList).flatten := by
      intro q
      have := (q4 (MM M0 ρ E.h) w).flatten q
      simpa using this
    split at hp
    · simp only [Option.some.injEq, Prod.mk.injEq] at hp
      obtain ⟨h1, h2, h3⟩ := hp
      subst h1 h2 h3
      obtain ⟨c0, c1, c2, c3, c4, c5⟩ := hc
      subst c0
      refine key _ c1 c2 c3 c4 c5 ?_ hK
      have : bytesL (List.replicate n.toNat 0) = List.replicate n.toNat (.one (.int .u8 0)) := by simp [bytesL, byteA]
      rw [this]
      exact hrep _
    · simp only [Option.some.injEq, Prod.mk.injEq] at hp
      obtain ⟨h1, h2, h3⟩ := hp
      subst h1 h2 h3
      obtain ⟨c1, c2, c3, c4, c5⟩ := hc
      exact key _ c1 c2 c3 c4 c5 (hrep _) hK
  · rename_i t ps
    split at hp <;> try cases hp
    rename_i e k _ _ ht
    obtain ⟨_, k1, k2, kbb⟩ := hT _ _ ht
    split at hp <;> try cases hp
    rename_i tk sz zz he
    obtain ⟨c1, c2, c3⟩ := hc
    have hps : ps = #[] := by
      obtain ⟨ps⟩ := ps
      cases ps with
      | nil => rfl
      | cons p ps => cases hn
    subst hps
    refine wp_value (v := .slice (some ⟨w.heap.size, 0, none⟩) 0 0) (w' := w.alloc (.cells #[] e)) ?_ (hK _ _ _ (h.newRow hl c3 (by simp) (by simp [maxLen]) hd))
    simp [execOp, Instr.buildSlice, run_underlying k1, size_of k2, Instr.fill, newRow]
    congr 2
    rw [Array.range_zero', Array.map_empty]
  · cases hp

theorem AStep.wp {wf : Bool} (hT : TOk P T) (hl : ∀ b, M0 b → b < w0.heap.size) {N : Nat} {E : AE} {a : Act} (h : St w0 M0 N E a w ρ) {o : Oper} {K : AE → Prop} {KK : Act → World → Prop} {Q : Exit → Act → World → Prop}
    (hs : AStep wf P T o.dst E K o.op) (hd : ∀ t, o.dst = some t → t < N) (hK : ∀ E' a' w' ρ', K E' → St w0 M0 N E' a' w' ρ' → KK a' w') : o.wp P a w KK Q := by
  have pure : ∀ (h' : List (Bool × List AV)), St w0 M0 N ⟨E.t, h'⟩ a w ρ → (match hopF T (evT E.t) h' o.op with | some (c, tv) => c ∧ K ⟨putT o.dst tv E.t, h'⟩ | none => False) → o.wp P a w KK Q := by
    intro h' hF hs
    split at hs
    · rename_i c tv heq
      exact hop_wp hT hF.heap (.inl (hF.heap.low' hl)) (.pure heq hs.1) (fun x _ => hF.evs x) (fun v w' g hv => hK _ _ _ _ hs.2 (hF.put g hd hv))
    · exact hs.elim
  have heap : ∀ (h' : List (Bool × List AV)), St w0 M0 N ⟨E.t, h'⟩ a w ρ → (match heapF T ⟨E.t, h'⟩ o.op with | some (c, tv, h) => c ∧ K ⟨putT o.dst tv E.t, h⟩ | none => False) → o.wp P a w KK Q := by
    intro h' hF hs
    split at hs
    · rename_i c tv H' heq
      exact heap_wp hT hl hF heq hs.1 hd (fun a' w' ρ' hst => hK _ _ _ _ hs.2 hst)
    · exact hs.elim
  have new : isNew o.op = true → (match newF T E o.op with | some (c, tv, h) => c ∧ K ⟨putT o.dst tv E.t, h⟩ | none => False) → o.wp P a w KK Q := by
    intro hn hs
    split at hs
    · rename_i c tv H' heq
      exact newF_wp hT hl h hn heq hs.1 hd (fun a' w' ρ' hst => hK _ _ _ _ hs.2 hst)
    · exact hs.elim
  obtain ⟨dst, op, ty, pos, after, guard⟩ := o
  simp only at hs pure heap new
  unfold AStep at hs
  split at hs
  · rename_i c x y
    split at hs
    · rename_i t hc
      refine hop_wp hT h.heap (.inl (h.heap.low' hl)) (.pick hc) (fun x _ => h.evs x) (fun v w' g hv => ?_)
      cases t
      · exact hK _ _ _ _ (hs.2 rfl) (h.put g hd hv)
      · exact hK _ _ _ _ (hs.1 rfl) (h.put g hd hv)
    · exact hs.elim
  · rename_i f args tys
    exact ACall.wp hT hl (h.frzW wf (evT E.t) args.toList) rfl hs hd hK
  · exact heap E.h h hs
  · exact heap E.h h hs
  · rename_i t x y
    exact heap _ (h.frzW wf (evT E.t) [y]) hs
  · exact heap E.h h hs
  · rename_i x y t t'
    split at hs
    · rename_i c tv E' heq
      obtain ⟨⟨ht, h1⟩, h2⟩ := hs
      subst ht
      exact app_wp hT hl h rfl heq h1 hd (fun a' w' ρ' hst => hK _ _ _ _ h2 hst)
    · exact hs.elim
  · rename_i t ps
    exact pure _ (h.frzW wf (evT E.t) _) hs
  · cases wf
    · exact pure E.h h hs
    · exact new rfl hs
  · rename_i t len ps
    split at hs
    · rename_i hb
      rw [Bool.and_eq_true] at hb
      exact new hb.2 hs
    · exact pure _ (h.frzW wf (evT E.t) _) hs
  · rename_i t x
    have hx := h.evs x
    split at hs
    · rename_i s ht hxe
      rw [hxe] at hx
      have hx : a.eval x = .string s := hx
      have k1 := (hT _ _ ht).2
      simp only [TKOk] at k1
      obtain ⟨hst, hkeep⟩ := h.addRow hl (Grow.a1 w (.stringIter s 0)) (Nat.le_refl _) (by simp)
      refine wp_value (v := .pointer (some ⟨w.heap.size, 0, none⟩)) (w' := w.alloc (.stringIter s 0)) ?_ (hK _ _ _ _ hs (St.put hst (Grow.refl _) hd ⟨⟨true, by simp⟩, by simp [upd], ?_⟩))
      · simp only [execOp, Sem.run_bind, hx]
        rw [show (Instr.range t (.string s)).run P w = .ok (.pointer (some ⟨w.heap.size, 0, none⟩)) (w.alloc (.stringIter s 0)) by simp [Instr.range, run_underlying k1]]
        rfl
      · simp only [upd, if_true]
        exact heap_alloc_new _ _
    · exact hs.elim
  · rename_i x
    have hx := h.evs x
    split at hs
    · rename_i n s pos hxe
      rw [hxe] at hx
      obtain ⟨_, hx, hh⟩ := hx
      split at hs
      · rename_i cs hn
        have hn0 : E.h[n]? = some (true, []) := by
          obtain ⟨m, hm⟩ : ∃ m, E.h[n]? = some (m, []) := by
            have := h.evs x
            rw [hxe] at this
            exact this.1
          rw [hn] at hm
          cases hm
          exact hn
        by_cases hlt : pos < s.size
        · obtain ⟨ρ', hst⟩ := h.goIt hl hn0 hh (q := pos + (Utf8.decode s pos).2)
          refine wp_value (v := .tuple #[.bool true, .int .i64 (pos : Int), .int .i32 ((Utf8.decode s pos).1 : Int)]) (w' := { w with heap := w.heap.set! (ρ n) (.stringIter s (pos + (Utf8.decode s pos).2)) }) ?_ (hK _ _ _ _ (hs.1 hlt) (St.put hst (Grow.refl _) hd ?_))
          · simp only [execOp, Sem.run_bind, hx]
            rw [show (Instr.next (.pointer (some ⟨ρ n, 0, none⟩)) true ty).run P w = .ok (.tuple #[.bool true, .int .i64 (pos : Int), .int .i32 ((Utf8.decode s pos).1 : Int)]) { w with heap := w.heap.set! (ρ n) (.stringIter s (pos + (Utf8.decode s pos).2)) } by
              simp only [Instr.next, getObj, setObj, Sem.run_bind, Sem.run, hh, Result.andThen, hlt, if_true]
              simp [goInt]]
            rfl
          · simp only [RepT, RepV]
            exact ⟨_, rfl, RepL.cons (RepV.one_iff.2 rfl) (RepL.cons (RepV.one_iff.2 rfl) (RepL.cons (RepV.one_iff.2 rfl) RepL.nil))⟩
        · refine wp_value (v := .tuple #[.bool false]) (w' := w) ?_ (hK _ _ _ _ (hs.2 hlt) (h.put (Grow.refl _) hd ?_))
          · simp only [execOp, Sem.run_bind, hx]
            rw [show (Instr.next (.pointer (some ⟨ρ n, 0, none⟩)) true ty).run P w = .ok (.tuple #[.bool false]) w by simp [Instr.next, getObj, Sem.run, hh, hlt]]
            rfl
          · simp only [RepT, RepV]
            exact ⟨_, rfl, RepL.cons (RepV.one_iff.2 rfl) RepL.nil⟩
      · exact hs.elim
    · exact hs.elim
  · exact pure E.h h hs

theorem gval_rep {N : Nat} {E : AE} {a : Act} (h : St w0 M0 N E a w ρ) {all : Array Oper} {g : Nat} {t : Bool} (hg : gval all E.t g = .v (.one (.bool t))) : yielded all a.tmps g = some t := by
  unfold gval at hg
  unfold yielded
  split at hg
  · rename_i d hd
    have := h.tmp d
    rw [hg] at this
    have this : a.tmps.getD d undef = .bool t := this
    rw [hd]
    simp only [Option.bind_some]
    rw [Array.getD_eq_getD_getElem?] at this
    cases hx : a.tmps[d]? with
    | none => rw [hx] at this; exact absurd this (by simp [undef])
    | some v => rw [hx] at this; simp at this; subst this; rfl
  · cases hg

theorem repT_un {H : List (Bool × List AV)} {M : Nat → Prop} : RepT ρ H M w (.v (.one (.tuple #[]))) undef := by
  simp only [RepT, RepV]; rfl
theorem gval_un {N : Nat} {E : AE} {a : Act} (h : St w0 M0 N E a w ρ) {all : Array Oper} {g : Nat} {u : Array Value} (hg : gval all E.t g = .v (.one (.tuple u))) : yielded all a.tmps g = none := by
  unfold gval at hg
  unfold yielded
  split at hg
  · rename_i d hd
    have := h.tmp d
    rw [hg] at this
    have this : a.tmps.getD d undef = .tuple u := this
    rw [hd]
    simp only [Option.bind_some]
    rw [Array.getD_eq_getD_getElem?] at this
    cases hx : a.tmps[d]? with
    | none => rfl
    | some v => rw [hx] at this; simp at this; subst this; rfl
  · cases hg

def dstOk (N : Nat) (o : Oper) : Bool := match o.dst with | some d => decide (d < N) | none => true
theorem dstOk_iff {N : Nat} {o : Oper} (h : dstOk N o = true) : ∀ t, o.dst = some t → t < N := by
  intro t ht
  rw [dstOk, ht] at h
  simpa using h

/-- Operations in their order. -/
theorem aops_list (hT : TOk P T) (hl : ∀ b, M0 b → b < w0.heap.size) {N : Nat} {all : Array Oper} {K : AE → Prop} {Q : Exit → Act → World → Prop} (hK : ∀ E a w ρ, K E → St w0 M0 N E a w ρ → Q .normal a w) :
    ∀ (l : List Oper) {k : Nat} {E : AE} {a : Act} {w : World} {ρ : Nat → Nat}, (∀ o ∈ l, dstOk N o = true) → St w0 M0 N E a w ρ → aops P T all K k l E → wpList P all Q l a w
  | [], _, E, a, w, ρ, _, h, hs => hK E a w ρ (by simpa only [aops] using hs) h
  | o :: os, k, E, a, w, ρ, hd, h, hs => by
    have hdo := dstOk_iff (hd o (by simp))
    have ih := fun E' a' w' ρ' (hN : aops P T all K (k - 1) os E') (hst : St w0 M0 N E' a' w' ρ') => aops_list hT hl hK os (fun o ho => hd o (by simp [ho])) hst hN
    simp only [aops] at hs
    unfold wpList
    split at hs
    · rename_i hg
      rw [if_pos (by simp [Region.wanted, hg])]
      exact .inl (AStep.wp hT hl h hs hdo ih)
    · rename_i g b hg
      split at hs
      · rename_i t ht
        have hy := gval_rep h ht
        obtain ⟨h1, h2⟩ := hs
        by_cases htb : t = b
        · rw [if_pos (by simp [Region.wanted, hg, hy, htb])]
          exact .inl (AStep.wp hT hl h (h1 htb) hdo ih)
        · rw [if_neg (by simp [Region.wanted, hg, hy, htb])]
          exact ih _ _ _ ρ (h2 (by cases t <;> cases b <;> simp_all)) (h.put (Grow.refl _) hdo repT_un)
      · rename_i u ht
        have hy := gval_un h ht
        rw [if_neg (by simp [Region.wanted, hg, hy])]
        exact ih _ _ _ ρ hs (h.put (Grow.refl _) hdo repT_un)
      · exact hs.elim
end
end Go.Proofs.Ythjojkkapboonaa
