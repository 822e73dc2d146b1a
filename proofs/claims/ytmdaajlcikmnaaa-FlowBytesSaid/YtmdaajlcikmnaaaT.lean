/- flow.Back and the like: structs in, structs out. -/
import Derived.Test.YtmdaajlcikmnaaaS
import Derived.Handy
namespace Go.Proofs.Ytmdaajlcikmnaaa
open Go.RowKit

def Flw.back (f : Flw) : Flw := ⟨f.dst, f.src, f.dp, f.sp, f.proto⟩

set_option maxHeartbeats 1000000 in
set_option maxRecDepth 100000 in
theorem flowBack_any (f : Flw) (w : World) :
    Calls Try.prog 65 #[f.v] w fun e w' => e = .returned f.back.v ∧ Grow w w' := by
  simp only [Flw.v, Flw.back]
  go_enter Try.func65, Try.ntmps65
  go_wp2_with fail
  go_returns
  exact ⟨rfl, Grow.a2 _ _ _⟩

set_option maxHeartbeats 1000000 in
set_option maxRecDepth 100000 in
theorem refBack_any (f : Flw) (w : World) :
    Calls Try.prog 66 #[f.v] w fun e w' => e = .returned f.back.v ∧ Grow w w' := by
  simp only [Flw.v, Flw.back]
  go_enter Try.func66, Try.ntmps66
  go_wp2_with fail
  go_returns
  exact ⟨rfl, Grow.a2 _ _ _⟩

/-- A packet; its two rows of bytes as they stand in memory. -/
structure Pkt where
  tos : Int
  id : Int
  df : Bool
  mf : Bool
  off : Int
  ttl : Int
  proto : Int
  src : Int
  dst : Int
  opts : Value
  data : Value
def Pkt.v (p : Pkt) : Value := .agg #[.int .u8 p.tos, .int .u16 p.id, .bool p.df, .bool p.mf, .int .u16 p.off, .int .u8 p.ttl, .int .u8 p.proto, .int .u32 p.src, .int .u32 p.dst, p.opts, p.data]
def Pkt.ok (p : Pkt) : Prop := (0 ≤ p.tos ∧ p.tos ≤ 255) ∧ (0 ≤ p.id ∧ p.id ≤ 65535) ∧ (0 ≤ p.off ∧ p.off ≤ 65535) ∧ (0 ≤ p.ttl ∧ p.ttl ≤ 255) ∧ (0 ≤ p.proto ∧ p.proto ≤ 255) ∧ (0 ≤ p.src ∧ p.src ≤ 4294967295) ∧ (0 ≤ p.dst ∧ p.dst ≤ 4294967295)

def Pkt.part (p : Pkt) : Bool := p.mf || decide (p.off > 0)

set_option maxHeartbeats 1000000 in
set_option maxRecDepth 100000 in
theorem part_any (p : Pkt) (w : World) :
    Calls Try.prog 69 #[p.v] w fun e w' => e = .returned (.bool p.part) ∧ w' = w.alloc (.cells #[.int .u8 p.tos, .int .u16 p.id, .bool p.df, .bool p.mf, .int .u16 p.off, .int .u8 p.ttl, .int .u8 p.proto, .int .u32 p.src, .int .u32 p.dst, p.opts, p.data] 61) := by
  simp only [Pkt.v]
  cases hm : p.mf
  · go_enter Try.func69, Try.ntmps69
    go_wp2_with fail
    go_ret
    exact ⟨by simp [Pkt.part, hm], rfl⟩
  · go_enter Try.func69, Try.ntmps69
    go_wp2_with fail
    go_ret
    exact ⟨by simp [Pkt.part, hm], rfl⟩

def Pkt.box (p : Pkt) : Obj := .cells #[.int .u8 p.tos, .int .u16 p.id, .bool p.df, .bool p.mf, .int .u16 p.off, .int .u8 p.ttl, .int .u8 p.proto, .int .u32 p.src, .int .u32 p.dst, p.opts, p.data] 61
def Flw.box (f : Flw) : Obj := .cells #[.int .u32 f.src, .int .u32 f.dst, .int .u16 f.sp, .int .u16 f.dp, .int .u8 f.proto] 25
def Flw.zero : Flw := ⟨0, 0, 0, 0, 0⟩
def flowOf (p : Pkt) (l : List UInt8) : Flw × Int :=
  if p.part = true then (.zero, 11) else if p.proto ≠ 6 ∧ p.proto ≠ 17 then (.zero, 3) else if thereB l.length 2 2 = false then (.zero, 4)
  else (⟨p.src, p.dst, get16 l 0, get16 l 2, p.proto⟩, 0)

set_option maxHeartbeats 4000000 in
set_option maxRecDepth 100000 in
theorem flowOf_any (p : Pkt) (l : List UInt8) (w : World) (hd : IsB w p.data l) :
    Calls Try.prog 34 #[p.v] w fun e w' => e = .returned (.tuple #[(flowOf p l).1.v, .int .i64 (flowOf p l).2]) ∧ w' = ((w.alloc p.box).alloc (flowOf p l).1.box).alloc p.box := by
  have hfin : Hid (∀ x, flowOf p l = x → x = (if p.part = true then (.zero, 11) else if p.proto ≠ 6 ∧ p.proto ≠ 17 then (.zero, 3) else if thereB l.length 2 2 = false then (.zero, 4)
    else (⟨p.src, p.dst, get16 l 0, get16 l 2, p.proto⟩, 0))) := fun x h => by rw [← h]; rfl
  simp only [Pkt.v, Pkt.box]
  generalize flowOf p l = y at hfin ⊢
  go_enter Try.func34, Try.ntmps34
  go_wp2_with (first | (go_at_call 48; refine (get16_any _ l _ _ (hd.grow (Grow.a2 _ _ _)) (by omega)).mono ?_; rintro e w' ⟨rfl, rfl⟩) | (go_at_call 69; refine (part_any p _).mono ?_; rintro e w' ⟨rfl, rfl⟩))
  all_goals go_returns
  all_goals (have e := hfin.out _ rfl; rw [e])
  all_goals (simp_all [Flw.v, Flw.box, Flw.zero]; done)

end Go.Proofs.Ytmdaajlcikmnaaa
