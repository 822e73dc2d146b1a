/- Package flow and its reference: what each function answers. -/
import Derived.Test.YtmdaajlcikmnaaaN
import Derived.Test.YtmdaajlcikmnaaaR
namespace Go.Proofs.Ytmdaajlcikmnaaa
open Go.RowKit

/-- A flow. -/
structure Flw where
  src : Int
  dst : Int
  sp : Int
  dp : Int
  proto : Int
def Flw.v (f : Flw) : Value := .agg #[.int .u32 f.src, .int .u32 f.dst, .int .u16 f.sp, .int .u16 f.dp, .int .u8 f.proto]
def Flw.ok (f : Flw) : Prop := (0 ≤ f.src ∧ f.src ≤ 4294967295) ∧ (0 ≤ f.dst ∧ f.dst ≤ 4294967295) ∧ (0 ≤ f.sp ∧ f.sp ≤ 65535) ∧ (0 ≤ f.dp ∧ f.dp ≤ 65535) ∧ (0 ≤ f.proto ∧ f.proto ≤ 255)
def Flw.bytes (f : Flw) : List UInt8 := put32 [f.src, f.dst] ++ put16 [f.sp, f.dp] ++ [u8 f.proto]

theorem cell_box (w : World) (cs : Array Value) (E : TypeId) (i : Nat) (k : Nat) (hk : k = w.heap.size) : (w.alloc (.cells cs E)).cell? ⟨k, i, none⟩ = cs[i]? := by
  subst hk
  exact cell_of_row _ _ _ _ _ _ (heap_alloc_new w _)

set_option maxHeartbeats 4000000 in
set_option maxRecDepth 100000 in
theorem flowBytes_any (f : Flw) (w : World) (hf : f.ok) :
    Calls Try.prog 62 #[f.v] w fun e w' => ∃ v', e = .returned v' ∧ Own 5 w.heap.size w' v' f.bytes ∧ Grow w w' := by
  obtain ⟨i, hi, hz0, hz1, hz2⟩ := info_parts Try.info5
  have HI := Lib.hid hi
  have H0 := Lib.hid hz0
  have H1 := Lib.hid hz1
  have H2 := Lib.hid hz2
  clear hi hz0 hz1 hz2
  obtain ⟨src, dst, sp, dp, proto⟩ := f
  obtain ⟨f1, f2, f3, f4, f5⟩ := hf
  have HF1 := Lib.hid f1
  have HF2 := Lib.hid f2
  have HF3 := Lib.hid f3
  have HF4 := Lib.hid f4
  have HF5 := Lib.hid f5
  clear f1 f2 f3 f4 f5
  simp only [Flw.v]
  have hk : Hid (∀ w', Grow (w.alloc (.cells #[.int .u32 src, .int .u32 dst, .int .u16 sp, .int .u16 dp, .int .u8 proto] 25)).drew w' → w'.cell? ⟨w.heap.size, 0, none⟩ = some (.int .u32 src) ∧ w'.cell? ⟨w.heap.size, 1, none⟩ = some (.int .u32 dst) ∧ w'.cell? ⟨w.heap.size, 2, none⟩ = some (.int .u16 sp) ∧ w'.cell? ⟨w.heap.size, 3, none⟩ = some (.int .u16 dp) ∧ w'.cell? ⟨w.heap.size, 4, none⟩ = some (.int .u8 proto)) := fun w' g =>
    ⟨g.cell (cell_box _ _ _ _ _ rfl), g.cell (cell_box _ _ _ _ _ rfl), g.cell (cell_box _ _ _ _ _ rfl), g.cell (cell_box _ _ _ _ _ rfl), g.cell (cell_box _ _ _ _ _ rfl)⟩
  go_enter Try.func62, Try.ntmps62
  go_wp2_with fail
  refine wp_gamma (by kernel_rfl) 15 19 [[(1, none)], [(3, some 0)], [(1, none)], [(5, some 2)], [(4, some 1), (6, some 3)], [(7, some 4)], [(1, none)], [(9, some 6)], [(1, none)], [(11, some 8)], [(10, some 7), (12, some 9)], [(8, some 5), (13, some 10)], [(1, none)], [(15, some 12)], [(16, some 13)]] [.ex (.pointer (some ⟨w.heap.size, 0, none⟩)), .ex (.int .u32 src), .ex (.pointer (some ⟨w.heap.size, 1, none⟩)), .ex (.int .u32 dst), .rel (fun v wx => IsI .u32 wx v ([src, dst])), .rel (fun v wx => Own 5 (w.heap.size) wx v (put32 [src, dst])), .ex (.pointer (some ⟨w.heap.size, 2, none⟩)), .ex (.int .u16 sp), .ex (.pointer (some ⟨w.heap.size, 3, none⟩)), .ex (.int .u16 dp), .rel (fun v wx => IsI .u16 wx v ([sp, dp])), .rel (fun v wx => Own 5 (w.heap.size) wx v (put32 [src, dst] ++ put16 [sp, dp])), .ex (.pointer (some ⟨w.heap.size, 4, none⟩)), .ex (.int .u8 proto), .rel (fun v wx => IsB wx v ([u8 proto]))] (by kernel_rfl) rfl rfl ⟨Sp.stable_ex _, ⟨Sp.stable_ex _, ⟨Sp.stable_ex _, ⟨Sp.stable_ex _, ⟨(fun _ _ _ g h => IsI.grow h g), ⟨(fun _ _ _ g h => Own.grow h g), ⟨Sp.stable_ex _, ⟨Sp.stable_ex _, ⟨Sp.stable_ex _, ⟨Sp.stable_ex _, ⟨(fun _ _ _ g h => IsI.grow h g), ⟨(fun _ _ _ g h => Own.grow h g), ⟨Sp.stable_ex _, ⟨Sp.stable_ex _, ⟨(fun _ _ _ g h => IsB.grow h g), trivial⟩⟩⟩⟩⟩⟩⟩⟩⟩⟩⟩⟩⟩⟩⟩ ?_ ?_
  · refine ⟨?_, ?_, ?_, ?_, ?_, ?_, ?_, ?_, ?_, ?_, ?_, ?_, ?_, ?_, ?_, trivial⟩
    · intro a w1 g h K hK
      obtain ⟨e0, _⟩ := h
      have e0 : a.tmps[1]? = some (.pointer (some ⟨w.heap.size, 0, none⟩)) := e0
      have E0 : a.eval (.tmp 1) = .pointer (some ⟨w.heap.size, 0, none⟩) := eval_of e0
      rw [if_pos (by rfl)]
      go_simp
      exact hK _ _ (Grow.refl _) rfl
    · intro a w1 g h K hK
      obtain ⟨⟨x0, e0, h0⟩, _⟩ := h
      obtain rfl : x0 = .pointer (some ⟨w.heap.size, 0, none⟩) := h0
      have E0 : a.eval (.tmp 3) = _ := eval_of e0
      rw [if_pos (by rfl)]
      have hc := hk.out w1 g
      go_simp
      exact hK _ _ (Grow.refl _) rfl
    · intro a w1 g h K hK
      obtain ⟨e0, _⟩ := h
      have e0 : a.tmps[1]? = some (.pointer (some ⟨w.heap.size, 0, none⟩)) := e0
      have E0 : a.eval (.tmp 1) = .pointer (some ⟨w.heap.size, 0, none⟩) := eval_of e0
      rw [if_pos (by rfl)]
      go_simp
      exact hK _ _ (Grow.refl _) rfl
    · intro a w1 g h K hK
      obtain ⟨⟨x0, e0, h0⟩, _⟩ := h
      obtain rfl : x0 = .pointer (some ⟨w.heap.size, 1, none⟩) := h0
      have E0 : a.eval (.tmp 5) = _ := eval_of e0
      rw [if_pos (by rfl)]
      have hc := hk.out w1 g
      go_simp
      exact hK _ _ (Grow.refl _) rfl
    · intro a w1 g h K hK
      obtain ⟨⟨x0, e0, h0⟩, ⟨x1, e1, h1⟩, _⟩ := h
      obtain rfl : x0 = .int .u32 src := h0
      have E0 : a.eval (.tmp 4) = _ := eval_of e0
      obtain rfl : x1 = .int .u32 dst := h1
      have E1 : a.eval (.tmp 6) = _ := eval_of e1
      rw [if_pos (by rfl)]
      go_simp
      refine hK _ _ (Grow.a1 _ _) (IsI.lit _ _ _ [_, _] _ _ _ rfl rfl (by simp) rfl)
    · intro a w1 g h K hK
      obtain ⟨⟨x0, e0, h0⟩, _⟩ := h
      have h0 : (fun v wx => IsI .u32 wx v ([src, dst])) x0 w1 := h0
      have E0 : a.eval (.tmp 7) = _ := eval_of e0
      rw [if_pos (by rfl)]
      go_simp
      refine (put32_any _ [] _ [src, dst] _ (IsB.nil _) h0 (by simp) (by intro z hz; simp at hz; have := HF1.out; have := HF2.out; rcases hz with rfl | rfl <;> omega)).mono ?_; rintro e w2 ⟨v1, rfl, ho1, g1⟩
      exact hK _ _ g1 (ho1.mono (by have := g.le; simp at this; omega))
    · intro a w1 g h K hK
      obtain ⟨e0, _⟩ := h
      have e0 : a.tmps[1]? = some (.pointer (some ⟨w.heap.size, 0, none⟩)) := e0
      have E0 : a.eval (.tmp 1) = .pointer (some ⟨w.heap.size, 0, none⟩) := eval_of e0
      rw [if_pos (by rfl)]
      go_simp
      exact hK _ _ (Grow.refl _) rfl
    · intro a w1 g h K hK
      obtain ⟨⟨x0, e0, h0⟩, _⟩ := h
      obtain rfl : x0 = .pointer (some ⟨w.heap.size, 2, none⟩) := h0
      have E0 : a.eval (.tmp 9) = _ := eval_of e0
      rw [if_pos (by rfl)]
      have hc := hk.out w1 g
      go_simp
      exact hK _ _ (Grow.refl _) rfl
    · intro a w1 g h K hK
      obtain ⟨e0, _⟩ := h
      have e0 : a.tmps[1]? = some (.pointer (some ⟨w.heap.size, 0, none⟩)) := e0
      have E0 : a.eval (.tmp 1) = .pointer (some ⟨w.heap.size, 0, none⟩) := eval_of e0
      rw [if_pos (by rfl)]
      go_simp
      exact hK _ _ (Grow.refl _) rfl
    · intro a w1 g h K hK
      obtain ⟨⟨x0, e0, h0⟩, _⟩ := h
      obtain rfl : x0 = .pointer (some ⟨w.heap.size, 3, none⟩) := h0
      have E0 : a.eval (.tmp 11) = _ := eval_of e0
      rw [if_pos (by rfl)]
      have hc := hk.out w1 g
      go_simp
      exact hK _ _ (Grow.refl _) rfl
    · intro a w1 g h K hK
      obtain ⟨⟨x0, e0, h0⟩, ⟨x1, e1, h1⟩, _⟩ := h
      obtain rfl : x0 = .int .u16 sp := h0
      have E0 : a.eval (.tmp 10) = _ := eval_of e0
      obtain rfl : x1 = .int .u16 dp := h1
      have E1 : a.eval (.tmp 12) = _ := eval_of e1
      rw [if_pos (by rfl)]
      go_simp
      refine hK _ _ (Grow.a1 _ _) (IsI.lit _ _ _ [_, _] _ _ _ rfl rfl (by simp) rfl)
    · intro a w1 g h K hK
      obtain ⟨⟨x0, e0, h0⟩, ⟨x1, e1, h1⟩, _⟩ := h
      have h0 : (fun v wx => Own 5 (w.heap.size) wx v (put32 [src, dst])) x0 w1 := h0
      have E0 : a.eval (.tmp 8) = _ := eval_of e0
      have h1 : (fun v wx => IsI .u16 wx v ([sp, dp])) x1 w1 := h1
      have E1 : a.eval (.tmp 13) = _ := eval_of e1
      rw [if_pos (by rfl)]
      go_simp
      refine (put16_any _ (put32 [src, dst]) _ [sp, dp] _ h0.isB h1 (by simp [length_put32]) (by intro z hz; simp at hz; have := HF3.out; have := HF4.out; rcases hz with rfl | rfl <;> omega)).mono ?_; rintro e w2 ⟨v1, rfl, ho1, g1⟩
      exact hK _ _ g1 (ho1.mono (by have := g.le; simp at this; omega))
    · intro a w1 g h K hK
      obtain ⟨e0, _⟩ := h
      have e0 : a.tmps[1]? = some (.pointer (some ⟨w.heap.size, 0, none⟩)) := e0
      have E0 : a.eval (.tmp 1) = .pointer (some ⟨w.heap.size, 0, none⟩) := eval_of e0
      rw [if_pos (by rfl)]
      go_simp
      exact hK _ _ (Grow.refl _) rfl
    · intro a w1 g h K hK
      obtain ⟨⟨x0, e0, h0⟩, _⟩ := h
      obtain rfl : x0 = .pointer (some ⟨w.heap.size, 4, none⟩) := h0
      have E0 : a.eval (.tmp 15) = _ := eval_of e0
      rw [if_pos (by rfl)]
      have hc := hk.out w1 g
      go_simp
      exact hK _ _ (Grow.refl _) rfl
    · intro a w1 g h K hK
      obtain ⟨⟨x0, e0, h0⟩, _⟩ := h
      obtain rfl : x0 = .int .u8 proto := h0
      have E0 : a.eval (.tmp 16) = _ := eval_of e0
      rw [if_pos (by rfl)]
      go_simp
      refine hK _ _ (Grow.a1 _ _) (IsB.lit1 _ _ _ _ _ rfl (by rw [u8_toNat]; have := HF5.out; omega))
  · intro w1 g
    simp only [Fin]
    intro v4 h4 v5 h5 v10 h10 v11 h11 v14 h14
    replace h11 : Own 5 w.heap.size w1 v11 (put32 [src, dst] ++ put16 [sp, dp]) := h11
    replace h14 : IsB w1 v14 [u8 proto] := h14
    go_simp
    go_wp2_with (at_builtin; go_must (refine wpl_append rfl _ _ _ rfl w.heap.size 5 i Try.underlying38 HI.out H0.out H1.out H2.out _ _ rfl h11 _ _ rfl h14 (by simp [length_put32, length_put16]) (by have := g.le; simp at this; omega) ?_); intro v' w' hown2 hbl hgr)
    go_ret
    exact ⟨_, rfl, hown2, ((Grow.a1 w _).drew.trans g).on hbl (Nat.le_refl _)⟩
end Go.Proofs.Ytmdaajlcikmnaaa
