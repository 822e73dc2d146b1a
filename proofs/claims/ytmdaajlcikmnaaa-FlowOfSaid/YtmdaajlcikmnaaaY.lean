/- ref06.Few; FlowOf's walk. -/
import Derived.Test.YtmdaajlcikmnaaaX
namespace Go.Proofs.Ytmdaajlcikmnaaa
open Go.RowKit

theorem few_all (v : Value) (l : List UInt8) (n : Int) (w0 w : World) (h0 : IsB w0 v l) (_g : Grow w0 w) (hn : 0 ≤ n) :
    Calls Try.prog 24 #[v, .int .i64 n] w fun e w' => ∃ v', e = .returned v' ∧ IsB w0 v' (l.take n.toNat) ∧ w = w' := by
  obtain ⟨i, hi, hz0, hz1, hz2⟩ := info_parts Try.info5
  by_cases hl : n < (l.length : Int)
  · obtain ⟨v', hv', -, hs, -⟩ := h0.cutI (P := Try.prog) 38 5 i Try.underlying38 hi hz1 0 n (by omega) (by omega) (by omega)
    have hs' := hs rfl
    obtain ⟨p, c, rfl, hc, hm, -, -⟩ := h0.form
    clear hi hz0 hz1 hz2 hs
    go_enter Try.func24, Try.ntmps24
    go_wp2
    go_ret
    exact ⟨_, rfl, by simpa using hv', rfl⟩
  · have hl' : ¬ ((l.length : Int) > n) := by omega
    have HT := Lib.hid (List.take_of_length_le (show l.length ≤ n.toNat by omega))
    obtain ⟨p, c, rfl, hc, hm, -, -⟩ := id h0.form
    clear hi hz0 hz1 hz2
    go_enter Try.func24, Try.ntmps24
    go_wp2
    go_ret
    exact ⟨_, rfl, by rw [HT.out]; exact h0, rfl⟩

set_option maxHeartbeats 1000000 in
set_option maxRecDepth 100000 in
theorem fewP_any (p : Pkt) (lo ld : List UInt8) (w0 w : World) (ho : IsB w0 p.opts lo) (hd : IsB w0 p.data ld) (g : Grow w0 w) :
    Calls Try.prog 33 #[p.v] w fun e w' => ∃ v1 v2, e = .returned ({ p with opts := v1, data := v2 } : Pkt).v ∧ IsB w0 v1 (lo.take 50) ∧ IsB w0 v2 (ld.take 300) ∧
      w' = (w.alloc ({ p with opts := v1, data := v2 } : Pkt).box).alloc ({ p with opts := v1, data := v2 } : Pkt).box := by
  obtain ⟨tos, id, df, mf, off, ttl, proto, src, dst, opts, data⟩ := p
  simp only [Pkt.v, Pkt.box] at *
  have Ho : ∀ w', Grow w w' → _ := fun w' g' => few_all opts lo 50 w0 w' ho (g.trans g') (by omega)
  have Hd : ∀ w', Grow w w' → _ := fun w' g' => few_all data ld 300 w0 w' hd (g.trans g') (by omega)
  have HO := Lib.hid Ho
  have HD := Lib.hid Hd
  clear Ho Hd
  obtain ⟨q, n, c, rfl⟩ := ho.isSlice
  obtain ⟨q', n', c', rfl⟩ := hd.isSlice
  clear ho hd
  have tok := trivial
  go_enter Try.func33, Try.ntmps33
  go_wp2_with (go_at_call 24; first | (have _t := tok; refine (HO.out _ (Grow.a2 _ _ _)).mono ?_; rintro e w' ⟨v1, rfl, hb1, rfl⟩; clear tok; obtain ⟨q1, n1, c1, rfl⟩ := hb1.isSlice) | (refine (HD.out _ (Grow.a2 _ _ _)).mono ?_; rintro e w' ⟨v2, rfl, hb2, rfl⟩; obtain ⟨q2, n2, c2, rfl⟩ := hb2.isSlice))
  go_returns
  exact ⟨_, _, rfl, hb1, hb2, rfl⟩

set_option maxHeartbeats 4000000 in
set_option maxRecDepth 100000 in
theorem flowOf_walk (p : Pkt) (lo ld : List UInt8) (w : World) (hp : p.ok) (ho : IsB w p.opts lo) (hd : IsB w p.data ld) :
    Calls Try.prog 6 #[p.v] w fun e w' => e = .returned (.bool true) ∧ Grow w w' := by
  have hoff : 0 ≤ p.off := by simp only [Pkt.ok] at hp; omega
  have h1 := fun w' (g : Grow w w') => fewP_any p lo ld w w' ho hd g
  have h2 := fun (q : Pkt) w' (hq : IsB w' q.data (ld.take 300)) => flowOf_any q (ld.take 300) w' hq
  have h3 := fun (q : Pkt) w' (hq : IsB w' q.data (ld.take 300)) (h : 0 ≤ q.off) => refFlow_any q (ld.take 300) w' hq h
  have hy : ∃ y : Value → Flw × Int, ∀ v1 v2, flowOf { p with opts := v1, data := v2 } (ld.take 300) = y v2 := ⟨fun v2 => flowOf { p with data := v2 } (ld.take 300), fun v1 v2 => rfl⟩
  obtain ⟨y, hy⟩ := hy
  obtain ⟨tos, id, df, mf, off, ttl, proto, src, dst, opts, data⟩ := p
  simp only [Pkt.v, Pkt.box, Flw.v, Flw.box] at *
  have H1 := Lib.hid h1
  have H2 := Lib.hid (fun o d w' hq => (h2 ⟨tos, id, df, mf, off, ttl, proto, src, dst, o, d⟩ w' hq))
  have H3 := Lib.hid (fun o d w' hq => (h3 ⟨tos, id, df, mf, off, ttl, proto, src, dst, o, d⟩ w' hq hoff))
  simp only [hy] at H2 H3
  have tok := trivial
  clear h1 h2 h3 hy hp ho hd hoff
  go_enter Try.func6, Try.ntmps6
  go_wp2_with (go_at_call 33; refine (H1.out _ (Grow.a1 _ _)).mono ?_; rintro e w' ⟨v1, v2, rfl, hb1, hb2, rfl⟩; obtain ⟨q1, n1, c1, rfl⟩ := hb1.isSlice; obtain ⟨q2, n2, c2, rfl⟩ := hb2.isSlice)
  go_wp2_with (go_at_call 34; refine (H2.out _ _ _ (hb2.grow (by repeat (first | exact Grow.refl _ | apply Grow.drew | apply Grow.alloc)))).mono ?_; rintro e w' ⟨rfl, rfl⟩)
  go_wp2_with (first | (go_at_call 36; refine (lives11_any _).mono ?_; rintro e w3 ⟨rfl, g3⟩) | (go_at_call 35; refine (H3.out _ _ _ (hb2.grow (by repeat (first | exact Grow.refl _ | apply Grow.drew | apply Grow.alloc)))).mono ?_; rintro e w2 ⟨rfl, g2⟩; have k0 := fun o => (g2.trans (Grow.a1 _ o)).cell (cell_box _ _ _ 0 (w.heap.size + 1 + 1 + 1 + 1 + 1 + 1) (by simp)); have k1 := fun o => (g2.trans (Grow.a1 _ o)).cell (cell_box _ _ _ 1 (w.heap.size + 1 + 1 + 1 + 1 + 1 + 1) (by simp)); have k2 := fun o => (g2.trans (Grow.a1 _ o)).cell (cell_box _ _ _ 2 (w.heap.size + 1 + 1 + 1 + 1 + 1 + 1) (by simp)); have k3 := fun o => (g2.trans (Grow.a1 _ o)).cell (cell_box _ _ _ 3 (w.heap.size + 1 + 1 + 1 + 1 + 1 + 1) (by simp)); have k4 := fun o => (g2.trans (Grow.a1 _ o)).cell (cell_box _ _ _ 4 (w.heap.size + 1 + 1 + 1 + 1 + 1 + 1) (by simp))))
  go_ret
  exact ⟨rfl, (Grow.trans (by repeat (first | exact Grow.refl _ | apply Grow.drew | apply Grow.alloc)) g2 |>.alloc _).trans g3⟩

end Go.Proofs.Ytmdaajlcikmnaaa
