/- bytes.Compare, and how two flows stand. -/
import Derived.Test.YtmdaajlcikmnaaaQ
import Derived.Lib.BytesEntry
namespace Go.Proofs.Ytmdaajlcikmnaaa
open Go.RowKit

theorem IsB.bytesOf {P : Program} {w : World} {v : Value} {l : List UInt8} (h : IsB w v l) : (Extern.Bytes.bytesOf v).run P w = .ok (bstr l) w := by
  obtain ⟨p, c, rfl, h1, h2, h3, h4⟩ := h.form
  by_cases hl : 0 < l.length
  · obtain ⟨b, o, rfl, hc⟩ := h4 hl
    have hh := Lib.run_loadBytesX (P := P) w (l.map fun x => (x.toNat : Int)) ⟨b, o, none⟩ .empty (fun j x hj => by
      have hjl : j < l.length := by
        have := (List.getElem?_eq_some_iff.1 hj).1
        simpa using this
      have e : (⟨b, o, none⟩ : Addr).add j = ⟨b, o + j, none⟩ := by unfold Addr.add; split <;> simp_all
      rw [e, hc j hjl]
      rw [List.getElem?_map, List.getElem?_eq_getElem hjl] at hj
      simp only [Option.map_some, Option.some.injEq] at hj
      rw [hj])
    rw [List.length_map] at hh
    show (Extern.Bytes.loadBytes ⟨b, o, none⟩ l.length .empty).run P w = _
    rw [hh]
    congr 1
    apply ByteArray.ext
    simp [bstr, Lib.bytesOf, List.map_map, Function.comp_def]
  · obtain rfl : l = [] := List.eq_nil_of_length_eq_zero (by omega)
    cases p <;> rfl

theorem run_compare {P : Program} {w : World} {v v2 : Value} {l m : List UInt8} (h : IsB w v l) (h2 : IsB w v2 m) :
    (Extern.BytealgCompare.compare #[v, v2]).run P w = .ok (.int .i64 (Lib.compareBytes l m)) w := by
  change Sem.run P (do pure (goInt (Extern.BytealgCompare.cmp (← Extern.Bytes.bytesOf v) (← Extern.Bytes.bytesOf v2)))) w = _
  simp only [Sem.run_bind, Sem.run_pure, Result.andThen, h.bytesOf, h2.bytesOf]
  rw [Lib.cmp_eq]
  rfl

set_option maxHeartbeats 1000000 in
set_option maxRecDepth 100000 in
theorem compare_any (v v2 : Value) (l m : List UInt8) (w : World) (h : IsB w v l) (h2 : IsB w v2 m) :
    Calls Try.prog 76 #[v, v2] w fun e w' => e = .returned (.int .i64 (Lib.compareBytes l m)) ∧ w = w' := by
  go_enter Try.func76, Try.ntmps76
  go_wp2
  rw [run_callFunc_extern Try.func78 (by kernel_rfl) (by kernel_rfl) (by kernel_rfl) (e := Extern.BytealgCompare.compare) (by kernel_rfl), run_compare h h2]
  simp only [Result.andThen]
  rw [Oper.upon_value]
  go_wp2
  go_ret
  exact ⟨rfl, rfl⟩

def ord (f g : Flw) : Int := Lib.compareBytes f.bytes g.bytes

set_option maxHeartbeats 4000000 in
set_option maxRecDepth 100000 in
theorem flowCompare_any (f g : Flw) (w : World) (hf' : f.ok) (hg' : g.ok) :
    Calls Try.prog 61 #[f.v, g.v] w fun e w' => e = .returned (.int .i64 (ord f g)) ∧ Grow w w' := by
  have hf := Lib.hid hf'
  have hg := Lib.hid hg'
  clear hf' hg'
  simp only [Flw.v]
  have hk : Hid (∀ w', Grow ((w.alloc (.cells #[.int .u32 f.src, .int .u32 f.dst, .int .u16 f.sp, .int .u16 f.dp, .int .u8 f.proto] 25)).alloc (.cells #[.int .u32 g.src, .int .u32 g.dst, .int .u16 g.sp, .int .u16 g.dp, .int .u8 g.proto] 25)).drew w' → w'.cell? ⟨w.heap.size, 0, none⟩ = some (.int .u32 f.src) ∧ w'.cell? ⟨w.heap.size, 1, none⟩ = some (.int .u32 f.dst) ∧ w'.cell? ⟨w.heap.size, 2, none⟩ = some (.int .u16 f.sp) ∧ w'.cell? ⟨w.heap.size, 3, none⟩ = some (.int .u16 f.dp) ∧ w'.cell? ⟨w.heap.size, 4, none⟩ = some (.int .u8 f.proto) ∧ w'.cell? ⟨(w.heap.size + 1), 0, none⟩ = some (.int .u32 g.src) ∧ w'.cell? ⟨(w.heap.size + 1), 1, none⟩ = some (.int .u32 g.dst) ∧ w'.cell? ⟨(w.heap.size + 1), 2, none⟩ = some (.int .u16 g.sp) ∧ w'.cell? ⟨(w.heap.size + 1), 3, none⟩ = some (.int .u16 g.dp) ∧ w'.cell? ⟨(w.heap.size + 1), 4, none⟩ = some (.int .u8 g.proto)) := fun w' g1 => by
    have a0 := fun i => cell_box w #[.int .u32 f.src, .int .u32 f.dst, .int .u16 f.sp, .int .u16 f.dp, .int .u8 f.proto] 25 i _ rfl
    have a1 := fun i => cell_box (w.alloc (.cells #[.int .u32 f.src, .int .u32 f.dst, .int .u16 f.sp, .int .u16 f.dp, .int .u8 f.proto] 25)) #[.int .u32 g.src, .int .u32 g.dst, .int .u16 g.sp, .int .u16 g.dp, .int .u8 g.proto] 25 i (w.heap.size + 1) (by simp)
    exact ⟨g1.cell ((Grow.a1 _ _).cell (a0 0)), g1.cell ((Grow.a1 _ _).cell (a0 1)), g1.cell ((Grow.a1 _ _).cell (a0 2)), g1.cell ((Grow.a1 _ _).cell (a0 3)), g1.cell ((Grow.a1 _ _).cell (a0 4)), g1.cell (a1 0), g1.cell (a1 1), g1.cell (a1 2), g1.cell (a1 3), g1.cell (a1 4)⟩
  go_enter Try.func61, Try.ntmps61
  go_wp2_with fail
  refine wp_gamma (by kernel_rfl) 5 10 [[(2, none)], [(5, some 0)], [(3, none)], [(7, some 2)], [(6, some 1), (8, some 3)]] [.ex (.agg #[.int .u32 f.src, .int .u32 f.dst, .int .u16 f.sp, .int .u16 f.dp, .int .u8 f.proto]), .rel (fun v wx => Own 5 (w.heap.size) wx v (f.bytes)), .ex (.agg #[.int .u32 g.src, .int .u32 g.dst, .int .u16 g.sp, .int .u16 g.dp, .int .u8 g.proto]), .rel (fun v wx => Own 5 (w.heap.size) wx v (g.bytes)), .ex (.int .i64 (Lib.compareBytes f.bytes g.bytes))] (by kernel_rfl) rfl rfl ⟨Sp.stable_ex _, ⟨(fun _ _ _ g h => Own.grow h g), ⟨Sp.stable_ex _, ⟨(fun _ _ _ g h => Own.grow h g), ⟨Sp.stable_ex _, trivial⟩⟩⟩⟩⟩ ?_ ?_
  · refine ⟨?_, ?_, ?_, ?_, ?_, trivial⟩
    · intro a w1 gr h K hK
      obtain ⟨e0, _⟩ := h
      have e0 : a.tmps[2]? = some (.pointer (some ⟨w.heap.size, 0, none⟩)) := e0
      have E0 : a.eval (.tmp 2) = .pointer (some ⟨w.heap.size, 0, none⟩) := eval_of e0
      rw [if_pos (by rfl)]
      have hc := hk.out w1 gr
      go_simp
      exact hK _ _ (Grow.refl _) rfl
    · intro a w1 gr h K hK
      obtain ⟨⟨x0, e0, h0⟩, _⟩ := h
      obtain rfl : x0 = .agg #[.int .u32 f.src, .int .u32 f.dst, .int .u16 f.sp, .int .u16 f.dp, .int .u8 f.proto] := h0
      have E0 : a.eval (.tmp 5) = _ := eval_of e0
      rw [if_pos (by rfl)]
      go_simp
      refine (flowBytes_any f _ hf.out).mono ?_; rintro e w2 ⟨v1, rfl, ho1, g1⟩
      exact hK _ _ g1 (ho1.mono (by have := gr.le; simp at this; omega))
    · intro a w1 gr h K hK
      obtain ⟨e0, _⟩ := h
      have e0 : a.tmps[3]? = some (.pointer (some ⟨(w.heap.size + 1), 0, none⟩)) := e0
      have E0 : a.eval (.tmp 3) = .pointer (some ⟨(w.heap.size + 1), 0, none⟩) := eval_of e0
      rw [if_pos (by rfl)]
      have hc := hk.out w1 gr
      go_simp
      exact hK _ _ (Grow.refl _) rfl
    · intro a w1 gr h K hK
      obtain ⟨⟨x0, e0, h0⟩, _⟩ := h
      obtain rfl : x0 = .agg #[.int .u32 g.src, .int .u32 g.dst, .int .u16 g.sp, .int .u16 g.dp, .int .u8 g.proto] := h0
      have E0 : a.eval (.tmp 7) = _ := eval_of e0
      rw [if_pos (by rfl)]
      go_simp
      refine (flowBytes_any g _ hg.out).mono ?_; rintro e w2 ⟨v1, rfl, ho1, g1⟩
      exact hK _ _ g1 (ho1.mono (by have := gr.le; simp at this; omega))
    · intro a w1 gr h K hK
      obtain ⟨⟨x0, e0, h0⟩, ⟨x1, e1, h1⟩, _⟩ := h
      have h0 : (fun v wx => Own 5 (w.heap.size) wx v (f.bytes)) x0 w1 := h0
      have E0 : a.eval (.tmp 6) = _ := eval_of e0
      have h1 : (fun v wx => Own 5 (w.heap.size) wx v (g.bytes)) x1 w1 := h1
      have E1 : a.eval (.tmp 8) = _ := eval_of e1
      rw [if_pos (by rfl)]
      go_simp
      refine (compare_any _ _ _ _ _ h0.isB h1.isB).mono ?_; rintro e w2 ⟨rfl, rfl⟩
      exact hK _ _ (Grow.refl _) rfl
  · intro w1 gr
    simp only [Fin]
    intro v1 h1 v3 h3
    go_simp
    go_wp2_with fail
    go_ret
    exact ⟨rfl, (Grow.a2 w _ _).drew.trans gr⟩

end Go.Proofs.Ytmdaajlcikmnaaa
