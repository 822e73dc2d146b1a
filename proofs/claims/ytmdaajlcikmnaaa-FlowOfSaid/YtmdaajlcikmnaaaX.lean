/- ref11.Of, ref06.Few; FlowOf's walk. -/
import Derived.Test.YtmdaajlcikmnaaaV
import Derived.Test.YtmdaajlcikmnaaaN
import Derived.BigRegion
namespace Go.Proofs.Ytmdaajlcikmnaaa
open Go.RowKit

theorem withCells {P : Program} {C : Code} {Q : Exit → Act → World → Prop} {a : Act} {w W : World} (g : Grow w W) {A B : Addr} {x y : Value} (h1 : w.cell? A = some x) (h2 : w.cell? B = some y)
    (k : W.cell? A = some x → W.cell? B = some y → C.wp P Q a W) : C.wp P Q a W :=
  k (g.cell h1) (g.cell h2)

/-- Two bytes as a number of 16 bits, in the reference's words. -/
def prt (x y : UInt8) : Int := IntKind.u16.wrap (IntKind.u16.wrap (IntKind.u16.wrap (x.toNat : Int) * 256) + IntKind.u16.wrap (y.toNat : Int))
theorem prt_eq (x y : UInt8) (r : List UInt8) : num ((x :: y :: r).take 2) % 65536 = prt x y := by
  have hx := x.toNat_lt
  have hy := y.toNat_lt
  simp only [prt, IntKind.wrap_u16, num]
  simp
  omega
theorem port0 (l : List UInt8) (h : 4 ≤ l.length) : get16 l 0 = prt l[0] l[1] := by
  match l, h with
  | a :: b :: c :: d :: r, h =>
    have hb : thereB (a :: b :: c :: d :: r).length 0 2 = true := thereB_iff.2 (by simp; omega)
    rw [get16, if_pos hb]
    have := prt_eq a b (c :: d :: r)
    simpa using this
theorem port2 (l : List UInt8) (h : 4 ≤ l.length) : get16 l 2 = prt l[2] l[3] := by
  match l, h with
  | a :: b :: c :: d :: r, h =>
    have hb : thereB (a :: b :: c :: d :: r).length 2 2 = true := thereB_iff.2 (by simp; omega)
    rw [get16, if_pos hb]
    have := prt_eq c d r
    simpa using this

set_option maxHeartbeats 4000000 in
set_option maxRecDepth 100000 in
theorem refFlow_yes (p : Pkt) (l : List UInt8) (w : World) (hd : IsB w p.data l) (ho : 0 ≤ p.off) (hp : p.part = false) (h6 : p.proto = 6 ∨ p.proto = 17) (hl : 4 ≤ l.length) :
    Calls Try.prog 35 #[p.v] w fun e w' => e = .returned (.tuple #[(flowOf p l).1.v, .int .i64 (flowOf p l).2]) ∧ Grow w w' := by
  have hfin : Hid (flowOf p l = (⟨p.src, p.dst, prt l[0] l[1], prt l[2] l[3], p.proto⟩, 0)) := by
    have hb : thereB l.length 2 2 = true := thereB_iff.2 (by omega)
    show flowOf p l = _
    rw [flowOf, if_neg (by simp [hp]), if_neg (by omega), if_neg (by simp [hb]), port0 l hl, port2 l hl]
  generalize flowOf p l = y at hfin ⊢
  obtain ⟨tos, id, df, mf, off, ttl, proto, src, dst, opts, data⟩ := p
  simp only [Pkt.part, Bool.or_eq_false_iff, decide_eq_false_iff_not] at hp ho h6 hd hfin
  obtain ⟨rfl, hp2⟩ := hp
  obtain rfl : off = 0 := by omega
  obtain ⟨q, c, rfl⟩ := hd.opened
  obtain ⟨b, o, rfl, hc⟩ := hd.at_ (by omega)
  have c0 : w.cell? ⟨b, o, none⟩ = some (.int .u8 (l[0].toNat : Int)) := hc 0 (by omega)
  have c1 := hc 1 (by omega)
  have c2 := hc 2 (by omega)
  have c3 := hc 3 (by omega)
  clear hc
  simp only [Pkt.v]
  rcases h6 with rfl | rfl
  · go_enter Try.func35, Try.ntmps35
    go_wp2_with fail
    refine withCells (Grow.a3 _ _ _ _) c0 c1 ?_
    intro k0 k1
    have t0 : 0 < l.length := by omega
    have t1 : 1 < l.length := by omega
    go_region
    clear k0 k1
    go_wp2_with fail
    refine withCells (by repeat (first | exact Grow.refl _ | apply Grow.drew | apply Grow.alloc)) c2 c3 ?_
    intro k2 k3
    have t2 : 2 < l.length := by omega
    have t3 : 3 < l.length := by omega
    go_region
    clear k2 k3
    go_wp2_with fail
    go_returns
    refine ⟨?_, by repeat (first | exact Grow.refl _ | apply Grow.drew | apply Grow.alloc)⟩
    rw [hfin.out]
    rfl
  · go_enter Try.func35, Try.ntmps35
    go_wp2_with fail
    refine withCells (Grow.a3 _ _ _ _) c0 c1 ?_
    intro k0 k1
    have t0 : 0 < l.length := by omega
    have t1 : 1 < l.length := by omega
    go_region
    clear k0 k1
    go_wp2_with fail
    refine withCells (by repeat (first | exact Grow.refl _ | apply Grow.drew | apply Grow.alloc)) c2 c3 ?_
    intro k2 k3
    have t2 : 2 < l.length := by omega
    have t3 : 3 < l.length := by omega
    go_region
    clear k2 k3
    go_wp2_with fail
    go_returns
    refine ⟨?_, by repeat (first | exact Grow.refl _ | apply Grow.drew | apply Grow.alloc)⟩
    rw [hfin.out]
    rfl

set_option maxHeartbeats 4000000 in
set_option maxRecDepth 100000 in
theorem refFlow_any (p : Pkt) (l : List UInt8) (w : World) (hd : IsB w p.data l) (ho : 0 ≤ p.off) :
    Calls Try.prog 35 #[p.v] w fun e w' => e = .returned (.tuple #[(flowOf p l).1.v, .int .i64 (flowOf p l).2]) ∧ Grow w w' := by
  by_cases hy : p.part = false ∧ (p.proto = 6 ∨ p.proto = 17) ∧ 4 ≤ l.length
  · exact refFlow_yes p l w hd ho hy.1 hy.2.1 hy.2.2
  have key : Hid (flowOf p l = if p.part = true then (.zero, 11) else if p.proto ≠ 6 ∧ p.proto ≠ 17 then (.zero, 3) else (.zero, 4)) := by
    show flowOf p l = _
    rw [flowOf]
    by_cases h1 : p.part = true
    · simp [h1]
    · by_cases h2 : p.proto ≠ 6 ∧ p.proto ≠ 17
      · simp [h1, h2]
      · have hb : thereB l.length 2 2 = false := by
          rw [Bool.eq_false_iff]
          intro hb
          have := thereB_iff.1 hb
          exact hy ⟨by simpa using h1, by omega, by omega⟩
        rw [if_neg h1, if_neg h2, if_pos hb, if_neg h1, if_neg h2]
  generalize flowOf p l = y at key ⊢
  obtain ⟨tos, id, df, mf, off, ttl, proto, src, dst, opts, data⟩ := p
  simp only [Pkt.part, Bool.or_eq_false_iff, decide_eq_false_iff_not] at hy ho hd key
  obtain ⟨q, c, rfl⟩ := hd.opened
  have hl := hd.len
  simp only [maxLen, Nat.reducePow, Nat.reduceSub] at hl
  simp only [Pkt.v]
  cases mf
  · by_cases h0 : off = 0
    · subst h0
      by_cases h1 : proto = 6 ∨ proto = 17
      · have hl4 : l.length < 4 := by
          rcases Nat.lt_or_ge l.length 4 with h | h
          · exact h
          · exact absurd ⟨⟨rfl, by omega⟩, h1, h⟩ hy
        have hfin : Hid (y = (.zero, 4)) := by
          show y = _
          rw [key.out]
          rcases h1 with rfl | rfl <;> rfl
        clear hy key hl
        rcases h1 with rfl | rfl
        · go_enter Try.func35, Try.ntmps35
          go_wp2_with fail
          go_returns
          exact ⟨by rw [hfin.out]; rfl, Grow.a2 _ _ _⟩
        · go_enter Try.func35, Try.ntmps35
          go_wp2_with fail
          go_returns
          exact ⟨by rw [hfin.out]; rfl, Grow.a2 _ _ _⟩
      · have hfin : Hid (y = (.zero, 3)) := by
          show y = _
          rw [key.out]
          simp
          omega
        have h6 : (proto != 6) = true := by simp; omega
        have h17 : (proto != 17) = true := by simp; omega
        clear hy key h1 hl
        go_enter Try.func35, Try.ntmps35
        go_wp2_with fail
        go_returns
        exact ⟨by rw [hfin.out]; rfl, Grow.a2 _ _ _⟩
    · have hfin : Hid (y = (.zero, 11)) := by
        show y = _
        rw [key.out]
        exact if_pos (by simp; omega)
      have hz : (off != 0) = true := by simp; omega
      clear hy key hl
      go_enter Try.func35, Try.ntmps35
      go_wp2_with fail
      go_returns
      exact ⟨by rw [hfin.out]; rfl, Grow.a2 _ _ _⟩
  · have hfin : Hid (y = (.zero, 11)) := by
      show y = _
      rw [key.out]
      exact if_pos (by simp)
    clear hy key hl
    go_enter Try.func35, Try.ntmps35
    go_wp2_with fail
    go_returns
    exact ⟨by rw [hfin.out]; rfl, Grow.a2 _ _ _⟩

end Go.Proofs.Ytmdaajlcikmnaaa
