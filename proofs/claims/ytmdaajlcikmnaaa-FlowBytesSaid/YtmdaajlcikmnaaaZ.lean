/- ref11.Bytes. -/
import Derived.Test.YtmdaajlcikmnaaaT
import Derived.Test.YtmdaajlcikmnaaaI
import Derived.Test.YtmdaajlcikmnaaaD
namespace Go.Proofs.Ytmdaajlcikmnaaa
open Go.RowKit

set_option maxHeartbeats 4000000 in
set_option maxRecDepth 100000 in
theorem refBytes_any (f : Flw) (w : World) (hf : f.ok) :
    Calls Try.prog 63 #[f.v] w fun e w' => ∃ v', e = .returned v' ∧ IsB w' v' f.bytes ∧ Grow w w' := by
  obtain ⟨i, hi, hz0, hz1, hz2⟩ := info_parts Try.info5
  have HI := Lib.hid hi
  have H0 := Lib.hid hz0
  have H1 := Lib.hid hz1
  have H2 := Lib.hid hz2
  clear hi hz0 hz1 hz2
  obtain ⟨f1, f2, f3, f4, f5⟩ := hf
  have HF1 := Lib.hid f1
  have HF2 := Lib.hid f2
  have HF3 := Lib.hid f3
  have HF4 := Lib.hid f4
  have HF5 := Lib.hid f5
  have HF3b : Hid (0 ≤ f.sp ∧ f.sp ≤ 4294967295) := ⟨f3.1, by omega⟩
  have HF4b : Hid (0 ≤ f.dp ∧ f.dp ≤ 4294967295) := ⟨f4.1, by omega⟩
  clear f1 f2 f3 f4 f5
  have hbytes : Hid (lowB 4 f.src ++ lowB 4 f.dst ++ (lowB 2 f.sp ++ lowB 2 f.dp) ++ [u8 f.proto] = f.bytes) := by
    show _ = _
    rw [Flw.bytes, lowB_four, lowB_four, lowB_two, lowB_two, ← put32_append, ← put16_append]
    rfl
  have hs := Nat.le_refl w.heap.size
  simp only [Flw.v]
  have hk : Hid (∀ w', Grow (w.alloc f.box).drew w' → w'.cell? ⟨w.heap.size, 0, none⟩ = some (.int .u32 f.src) ∧ w'.cell? ⟨w.heap.size, 1, none⟩ = some (.int .u32 f.dst) ∧ w'.cell? ⟨w.heap.size, 2, none⟩ = some (.int .u16 f.sp) ∧ w'.cell? ⟨w.heap.size, 3, none⟩ = some (.int .u16 f.dp) ∧ w'.cell? ⟨w.heap.size, 4, none⟩ = some (.int .u8 f.proto)) := fun w' g =>
    ⟨g.cell (cell_box _ _ _ _ _ rfl), g.cell (cell_box _ _ _ _ _ rfl), g.cell (cell_box _ _ _ _ _ rfl), g.cell (cell_box _ _ _ _ _ rfl), g.cell (cell_box _ _ _ _ _ rfl)⟩
  simp only [Flw.box] at hk
  go_enter Try.func63, Try.ntmps63
  go_wp2_with fail
  refine wp_gamma (by kernel_rfl) 7 27 [[(1, none)], [(4, some 0)], [(5, some 1)], [(1, none)], [(7, some 3)], [(8, some 4)], [(6, some 2), (9, some 5)]] [.ex (.pointer (some ⟨w.heap.size, 0, none⟩)), .ex (.int .u32 f.src), .rel (fun v wx => Own 5 (w.heap.size) wx v (lowB 4 f.src)), .ex (.pointer (some ⟨w.heap.size, 1, none⟩)), .ex (.int .u32 f.dst), .rel (fun v wx => Own 5 (w.heap.size) wx v (lowB 4 f.dst)), .rel (fun v wx => Own 5 (w.heap.size) wx v (lowB 4 f.src ++ lowB 4 f.dst))] (by kernel_rfl) rfl rfl ⟨Sp.stable_ex _, ⟨Sp.stable_ex _, ⟨(fun _ _ _ g h => Own.grow h g), ⟨Sp.stable_ex _, ⟨Sp.stable_ex _, ⟨(fun _ _ _ g h => Own.grow h g), ⟨(fun _ _ _ g h => Own.grow h g), trivial⟩⟩⟩⟩⟩⟩⟩ ?_ ?_
  · refine ⟨?_, ?_, ?_, ?_, ?_, ?_, ?_, trivial⟩
    · intro a wq gr h K hK
      obtain ⟨e0, _⟩ := h
      have e0 : a.tmps[1]? = some (.pointer (some ⟨w.heap.size, 0, none⟩)) := e0
      have E0 : a.eval (.tmp 1) = .pointer (some ⟨w.heap.size, 0, none⟩) := eval_of e0
      rw [if_pos (by rfl)]
      go_simp
      exact hK _ _ (Grow.refl _) rfl
    · intro a wq gr h K hK
      obtain ⟨⟨x0, e0, h0⟩, _⟩ := h
      obtain rfl : x0 = .pointer (some ⟨w.heap.size, 0, none⟩) := h0
      have E0 : a.eval (.tmp 4) = _ := eval_of e0
      rw [if_pos (by rfl)]
      have hc := hk.out wq gr
      go_simp
      exact hK _ _ (Grow.refl _) rfl
    · intro a wq gr h K hK
      obtain ⟨⟨x0, e0, h0⟩, _⟩ := h
      obtain rfl : x0 = .int .u32 f.src := h0
      have E0 : a.eval (.tmp 5) = _ := eval_of e0
      rw [if_pos (by rfl)]
      go_simp
      refine (refPut_any _ 4 _ HF1.out (by omega)).mono ?_; rintro e w2 ⟨v1, rfl, ho1, g1⟩
      exact hK _ _ g1 (ho1.mono ((Grow.a1 w _).drew.trans gr).le)
    · intro a wq gr h K hK
      obtain ⟨e0, _⟩ := h
      have e0 : a.tmps[1]? = some (.pointer (some ⟨w.heap.size, 0, none⟩)) := e0
      have E0 : a.eval (.tmp 1) = .pointer (some ⟨w.heap.size, 0, none⟩) := eval_of e0
      rw [if_pos (by rfl)]
      go_simp
      exact hK _ _ (Grow.refl _) rfl
    · intro a wq gr h K hK
      obtain ⟨⟨x0, e0, h0⟩, _⟩ := h
      obtain rfl : x0 = .pointer (some ⟨w.heap.size, 1, none⟩) := h0
      have E0 : a.eval (.tmp 7) = _ := eval_of e0
      rw [if_pos (by rfl)]
      have hc := hk.out wq gr
      go_simp
      exact hK _ _ (Grow.refl _) rfl
    · intro a wq gr h K hK
      obtain ⟨⟨x0, e0, h0⟩, _⟩ := h
      obtain rfl : x0 = .int .u32 f.dst := h0
      have E0 : a.eval (.tmp 8) = _ := eval_of e0
      rw [if_pos (by rfl)]
      go_simp
      refine (refPut_any _ 4 _ HF2.out (by omega)).mono ?_; rintro e w2 ⟨v1, rfl, ho1, g1⟩
      exact hK _ _ g1 (ho1.mono ((Grow.a1 w _).drew.trans gr).le)
    · intro a wq gr h K hK
      obtain ⟨⟨x0, e0, h0⟩, ⟨x1, e1, h1⟩, _⟩ := h
      have h0 : (fun v wx => Own 5 (w.heap.size) wx v (lowB 4 f.src)) x0 wq := h0
      have E0 : a.eval (.tmp 6) = _ := eval_of e0
      have h1 : (fun v wx => Own 5 (w.heap.size) wx v (lowB 4 f.dst)) x1 wq := h1
      have E1 : a.eval (.tmp 9) = _ := eval_of e1
      rw [if_pos (by rfl)]
      go_simp
      refine (add_any _ _ _ _ _ h0.isB h1.isB (by simp [length_lowB])).mono ?_; rintro e w2 ⟨v1, rfl, ho1, g1⟩
      exact hK _ _ g1 (ho1.mono ((Grow.a1 w _).drew.trans gr).le)
  · intro w1 g
    have gr := g
    have HG := Lib.hid ((Grow.a1 w _).drew.trans g)
    simp only [Fin]
    intro v2 h2 v5 h5 v6 h6
    have HV6 := Lib.hid (show Own 5 w.heap.size w1.drew v6 (lowB 4 f.src ++ lowB 4 f.dst) from Own.grow h6 (Grow.refl _).drew)
    clear h2 h5 h6
    go_simp
    go_wp2_with fail
    have hk2 := Lib.hid fun w' (g2 : Grow w1.drew w') => hk.out w' (gr.trans ((Grow.refl w1).drew.trans g2))
    refine wp_gamma (by kernel_rfl) 11 27 [[(3, none)], [(1, none)], [(12, some 1)], [(13, some 2)], [(14, some 3)], [(1, none)], [(16, some 5)], [(17, some 6)], [(18, some 7)], [(15, some 4), (19, some 8)], [(11, some 0), (20, some 9)]] [.ex (v6), .ex (.pointer (some ⟨w.heap.size, 2, none⟩)), .ex (.int .u16 f.sp), .ex (.int .u32 f.sp), .rel (fun v wx => Own 5 (w.heap.size) wx v (lowB 2 f.sp)), .ex (.pointer (some ⟨w.heap.size, 3, none⟩)), .ex (.int .u16 f.dp), .ex (.int .u32 f.dp), .rel (fun v wx => Own 5 (w.heap.size) wx v (lowB 2 f.dp)), .rel (fun v wx => Own 5 (w.heap.size) wx v (lowB 2 f.sp ++ lowB 2 f.dp)), .rel (fun v wx => Own 5 (w.heap.size) wx v ((lowB 4 f.src ++ lowB 4 f.dst) ++ (lowB 2 f.sp ++ lowB 2 f.dp)))] (by kernel_rfl) rfl rfl ⟨Sp.stable_ex _, ⟨Sp.stable_ex _, ⟨Sp.stable_ex _, ⟨Sp.stable_ex _, ⟨(fun _ _ _ g h => Own.grow h g), ⟨Sp.stable_ex _, ⟨Sp.stable_ex _, ⟨Sp.stable_ex _, ⟨(fun _ _ _ g h => Own.grow h g), ⟨(fun _ _ _ g h => Own.grow h g), ⟨(fun _ _ _ g h => Own.grow h g), trivial⟩⟩⟩⟩⟩⟩⟩⟩⟩⟩⟩ ?_ ?_
    · refine ⟨?_, ?_, ?_, ?_, ?_, ?_, ?_, ?_, ?_, ?_, ?_, trivial⟩
      · intro a wq gr h K hK
        obtain ⟨e0, _⟩ := h
        have e0 : a.tmps[3]? = some (v6) := e0
        have E0 : a.eval (.tmp 3) = v6 := eval_of e0
        rw [if_pos (by rfl)]
        go_simp
        exact hK _ _ (Grow.refl _) rfl
      · intro a wq gr h K hK
        obtain ⟨e0, _⟩ := h
        have e0 : a.tmps[1]? = some (.pointer (some ⟨w.heap.size, 0, none⟩)) := e0
        have E0 : a.eval (.tmp 1) = .pointer (some ⟨w.heap.size, 0, none⟩) := eval_of e0
        rw [if_pos (by rfl)]
        go_simp
        exact hK _ _ (Grow.refl _) rfl
      · intro a wq gr h K hK
        obtain ⟨⟨x0, e0, h0⟩, _⟩ := h
        obtain rfl : x0 = .pointer (some ⟨w.heap.size, 2, none⟩) := h0
        have E0 : a.eval (.tmp 12) = _ := eval_of e0
        rw [if_pos (by rfl)]
        have hc := hk2.out wq gr
        go_simp
        exact hK _ _ (Grow.refl _) rfl
      · intro a wq gr h K hK
        obtain ⟨⟨x0, e0, h0⟩, _⟩ := h
        obtain rfl : x0 = .int .u16 f.sp := h0
        have E0 : a.eval (.tmp 13) = _ := eval_of e0
        rw [if_pos (by rfl)]
        go_simp
        rw [u32_in (by have := HF3.out; omega) (by have := HF3.out; omega)]
        exact hK _ _ (Grow.refl _) rfl
      · intro a wq gr h K hK
        obtain ⟨⟨x0, e0, h0⟩, _⟩ := h
        obtain rfl : x0 = .int .u32 f.sp := h0
        have E0 : a.eval (.tmp 14) = _ := eval_of e0
        rw [if_pos (by rfl)]
        go_simp
        refine (refPut_any _ 2 _ HF3b.out (by omega)).mono ?_; rintro e w2 ⟨v1, rfl, ho1, g1⟩
        exact hK _ _ g1 (ho1.mono ((HG.out.trans (Grow.refl _).drew).trans gr).le)
      · intro a wq gr h K hK
        obtain ⟨e0, _⟩ := h
        have e0 : a.tmps[1]? = some (.pointer (some ⟨w.heap.size, 0, none⟩)) := e0
        have E0 : a.eval (.tmp 1) = .pointer (some ⟨w.heap.size, 0, none⟩) := eval_of e0
        rw [if_pos (by rfl)]
        go_simp
        exact hK _ _ (Grow.refl _) rfl
      · intro a wq gr h K hK
        obtain ⟨⟨x0, e0, h0⟩, _⟩ := h
        obtain rfl : x0 = .pointer (some ⟨w.heap.size, 3, none⟩) := h0
        have E0 : a.eval (.tmp 16) = _ := eval_of e0
        rw [if_pos (by rfl)]
        have hc := hk2.out wq gr
        go_simp
        exact hK _ _ (Grow.refl _) rfl
      · intro a wq gr h K hK
        obtain ⟨⟨x0, e0, h0⟩, _⟩ := h
        obtain rfl : x0 = .int .u16 f.dp := h0
        have E0 : a.eval (.tmp 17) = _ := eval_of e0
        rw [if_pos (by rfl)]
        go_simp
        rw [u32_in (by have := HF4.out; omega) (by have := HF4.out; omega)]
        exact hK _ _ (Grow.refl _) rfl
      · intro a wq gr h K hK
        obtain ⟨⟨x0, e0, h0⟩, _⟩ := h
        obtain rfl : x0 = .int .u32 f.dp := h0
        have E0 : a.eval (.tmp 18) = _ := eval_of e0
        rw [if_pos (by rfl)]
        go_simp
        refine (refPut_any _ 2 _ HF4b.out (by omega)).mono ?_; rintro e w2 ⟨v1, rfl, ho1, g1⟩
        exact hK _ _ g1 (ho1.mono ((HG.out.trans (Grow.refl _).drew).trans gr).le)
      · intro a wq gr h K hK
        obtain ⟨⟨x0, e0, h0⟩, ⟨x1, e1, h1⟩, _⟩ := h
        have h0 : (fun v wx => Own 5 (w.heap.size) wx v (lowB 2 f.sp)) x0 wq := h0
        have E0 : a.eval (.tmp 15) = _ := eval_of e0
        have h1 : (fun v wx => Own 5 (w.heap.size) wx v (lowB 2 f.dp)) x1 wq := h1
        have E1 : a.eval (.tmp 19) = _ := eval_of e1
        rw [if_pos (by rfl)]
        go_simp
        refine (add_any _ _ _ _ _ h0.isB h1.isB (by simp [length_lowB])).mono ?_; rintro e w2 ⟨v1, rfl, ho1, g1⟩
        exact hK _ _ g1 (ho1.mono ((HG.out.trans (Grow.refl _).drew).trans gr).le)
      · intro a wq gr h K hK
        obtain ⟨⟨x0, e0, h0⟩, ⟨x1, e1, h1⟩, _⟩ := h
        obtain rfl : x0 = v6 := h0
        have E0 : a.eval (.tmp 11) = _ := eval_of e0
        have h1 : (fun v wx => Own 5 (w.heap.size) wx v (lowB 2 f.sp ++ lowB 2 f.dp)) x1 wq := h1
        have E1 : a.eval (.tmp 20) = _ := eval_of e1
        rw [if_pos (by rfl)]
        go_simp
        refine (add_any _ _ _ _ _ (HV6.out.isB.grow gr) h1.isB (by simp [length_lowB])).mono ?_; rintro e w2 ⟨v1, rfl, ho1, g1⟩
        exact hK _ _ g1 (ho1.mono ((HG.out.trans (Grow.refl _).drew).trans gr).le)
    · intro w2 g2
      simp only [Fin]
      intro v4 h4 v8 h8 v9 h9 v10 h10
      have HV := Lib.hid (show Own 5 w.heap.size w2 v10 (lowB 4 f.src ++ lowB 4 f.dst ++ (lowB 2 f.sp ++ lowB 2 f.dp)) from h10)
      clear h4 h8 h9 h10
      have kc := (hk2.out w2 g2).2.2.2.2
      have g12 := Lib.hid (HG.out.trans ((Grow.refl w1).drew.trans g2))
      go_simp
      go_wp2_with (at_builtin; go_must (refine wpl_append rfl _ _ _ rfl w.heap.size 5 i Try.underlying38 HI.out H0.out H1.out H2.out _ _ rfl (HV.out.grow (Grow.a1 _ _)) _ [u8 f.proto] rfl (IsB.built1 _ _ _ _ (by rw [u8_toNat]; have := HF5.out; omega)) (by simp [length_lowB]) ((g12.out.trans (Grow.a1 _ _)).le) ?_); intro v' w' hown2 hbl hgr)
      go_ret
      exact ⟨_, rfl, by rw [← hbytes.out]; exact hown2.isB, (g12.out.trans (Grow.a1 _ _)).on hbl (Nat.le_refl _)⟩

end Go.Proofs.Ytmdaajlcikmnaaa
