/- ref11.Compare. -/
import Derived.Test.YtmdaajlcikmnaaaZ
import Derived.Test.YtmdaajlcikmnaaaS
import Derived.Test.YtmdaajlcikmnaaaE
namespace Go.Proofs.Ytmdaajlcikmnaaa
open Go.RowKit

def Flw.nums (f : Flw) : List Int := [f.src, f.dst, f.sp, f.dp, f.proto]
def cmpN : List Int → List Int → Int
  | a :: s, b :: t => if a < b then -1 else if b < a then 1 else cmpN s t
  | _, _ => 0
theorem cmpN_drop (l m : List Int) (k : Nat) (h1 : k < l.length) (h2 : k < m.length) :
    cmpN (l.drop k) (m.drop k) = if l.getD k 0 < m.getD k 0 then -1 else if m.getD k 0 < l.getD k 0 then 1 else cmpN (l.drop (k + 1)) (m.drop (k + 1)) := by
  rw [List.drop_eq_getElem_cons h1, List.drop_eq_getElem_cons h2]
  simp [cmpN, List.getD, h1, h2]

def numBox (f : Flw) : Obj := .cells #[.int .u32 f.src, .int .u32 f.dst, .int .u32 f.sp, .int .u32 f.dp, .int .u32 f.proto] 22
theorem numBox_cell (f : Flw) (w : World) (b : Nat) (hb : b = w.heap.size) (k : Nat) (hk : k < 5) : (w.alloc (numBox f)).cell? ⟨b, k, none⟩ = some (.int .u32 (f.nums.getD k 0)) := by
  rw [numBox, cell_box _ _ _ _ _ hb]
  match k, hk with
  | 0, _ => rfl
  | 1, _ => rfl
  | 2, _ => rfl
  | 3, _ => rfl
  | 4, _ => rfl

set_option maxHeartbeats 4000000 in
set_option maxRecDepth 100000 in
theorem refCompare_any (f g : Flw) (w : World) (hf : f.ok) (hg : g.ok) :
    Calls Try.prog 64 #[f.v, g.v] w fun e w' => e = .returned (.int .i64 (cmpN f.nums g.nums)) ∧ Grow w w' := by
  obtain ⟨f1, f2, f3, f4, f5⟩ := hf
  obtain ⟨g1, g2, g3, g4, g5⟩ := hg
  have a1 := u32_in (n := f.sp) (by omega) (by omega)
  have a2 := u32_in (n := f.dp) (by omega) (by omega)
  have a3 := u32_in (n := f.proto) (by omega) (by omega)
  have b1 := u32_in (n := g.sp) (by omega) (by omega)
  have b2 := u32_in (n := g.dp) (by omega) (by omega)
  have b3 := u32_in (n := g.proto) (by omega) (by omega)
  clear f1 f2 f3 f4 f5 g1 g2 g3 g4 g5
  have HR : Hid (∀ k, k < 5 → cmpN (f.nums.drop k) (g.nums.drop k) = if f.nums.getD k 0 < g.nums.getD k 0 then -1 else if g.nums.getD k 0 < f.nums.getD k 0 then 1 else cmpN (f.nums.drop (k + 1)) (g.nums.drop (k + 1))) := fun k hk => cmpN_drop _ _ k hk hk
  have HE : Hid (cmpN (f.nums.drop 5) (g.nums.drop 5) = 0) := rfl
  have H0 : Hid (cmpN (f.nums.drop 0) (g.nums.drop 0) = cmpN f.nums g.nums) := rfl
  have HX : Hid (∀ k, k < 5 → ((((w.alloc f.box).alloc g.box).alloc (numBox f)).alloc (numBox g)).cell? ⟨w.heap.size + 1 + 1, k, none⟩ = some (.int .u32 (f.nums.getD k 0))) := fun k hk => (Grow.a1 _ _).cell (numBox_cell f _ _ (by simp) k hk)
  have HY : Hid (∀ k, k < 5 → ((((w.alloc f.box).alloc g.box).alloc (numBox f)).alloc (numBox g)).cell? ⟨w.heap.size + 1 + 1 + 1, k, none⟩ = some (.int .u32 (g.nums.getD k 0))) := fun k hk => numBox_cell g _ _ (by simp) k hk
  simp only [Flw.v]
  generalize cmpN f.nums g.nums = R at *
  go_enter Try.func64, Try.ntmps64
  go_wp2
  go_loopw [7] (fun i wr => ∃ k : Nat, k ≤ 5 ∧ i = .int .i64 k ∧ Hid (cmpN (f.nums.drop k) (g.nums.drop k) = R) ∧ Grow ((((w.alloc f.box).alloc g.box).alloc (numBox f)).alloc (numBox g)) wr) (fun i _ => 5 - (intOf i).toNat)
  case atStart => exact ⟨0, by omega, rfl, H0, Grow.refl _⟩
  case round =>
    obtain ⟨k, hk, rfl, ht, hgr⟩ := hrel
    by_cases hlt : k < 5
    · have c1 := hgr.cell (HX.out k hlt)
      have c2 := hgr.cell (HY.out k hlt)
      have hr := Lib.hid (HR.out k hlt)
      have hi1 : (0 : Int) ≤ (k : Int) := by omega
      have hi2 : (k : Int) < 5 := by omega
      generalize f.nums.getD k 0 = x at *
      generalize g.nums.getD k 0 = y at *
      go_wp2
      by_cases hxy : x < y
      · go_quiet (fail)
        go_wp2
        go_ret
        exact ⟨by rw [← ht.out, hr.out, if_pos hxy]; rfl, growN ((Grow.a4 w _ _ _ _).trans hgr) _⟩
      · go_quiet (fail)
        go_wp2
        by_cases hyx : x > y
        · go_quiet (fail)
          go_wp2
          go_ret
          exact ⟨by rw [← ht.out, hr.out, if_neg (by omega), if_pos (by omega)]; rfl, growN (growN ((Grow.a4 w _ _ _ _).trans hgr) _) _⟩
        · go_quiet (fail)
          go_wp2
          go_roundw
          case rel => exact ⟨k + 1, by omega, by go_num, by show _ = R; rw [← ht.out, hr.out, if_neg (by omega), if_neg (by omega)], growN hgr _⟩
          case measure => simp [intOf]; omega
    · go_wp2
      go_ret
      obtain rfl : k = 5 := by omega
      exact ⟨by rw [← ht.out, HE.out]; rfl, (Grow.a4 w _ _ _ _).trans hgr⟩

end Go.Proofs.Ytmdaajlcikmnaaa
