/- A configuration, an entry: what is known of them. -/
import Derived.Test.YthjojkkapboonaaCC
namespace Go.Proofs.Ythjojkkapboonaa
set_option linter.unusedSimpArgs false
set_option linter.unusedVariables false
open Go.RowKit

structure CfgN where
  m0 : Nat → Int
  m1 : Nat → Int
  a0 : Int
  a1 : Int
  mtu : Int
abbrev cfgL (c : CfgN) : List AV := [u8A (c.m0 0), u8A (c.m0 1), u8A (c.m0 2), u8A (c.m0 3), u8A (c.m0 4), u8A (c.m0 5), u8A (c.m1 0), u8A (c.m1 1), u8A (c.m1 2), u8A (c.m1 3), u8A (c.m1 4), u8A (c.m1 5), u32A c.a0, u32A c.a1, .any, .any, .any, i64 c.mtu,
  .any, .any, .any, .any, .any, .any, .any, .any, .any, .any, .any, .any, .any, .any, .any, .any, .any, .any, .any, .any, .any, .any]
abbrev cfgA (c : CfgN) : AV := .agg (cfgL c)
structure CfgN.ok (c : CfgN) : Prop where
  m0 : macOk c.m0
  m1 : macOk c.m1
  a0 : 0 ≤ c.a0 ∧ c.a0 ≤ 4294967295
  a1 : 0 ≤ c.a1 ∧ c.a1 ≤ 4294967295
  mtu : -9223372036854775808 ≤ c.mtu ∧ c.mtu ≤ 9223372036854775807
structure EntN where
  f : FlowN
  port : Int
  shift : Int
abbrev entL (e : EntN) : List AV := [u32A e.f.src, u32A e.f.dst, u16A e.f.sp, u16A e.f.dp, u8A e.f.proto, .any, .any, .any, .any, .any, u16A e.port, u32A e.shift, .any]
abbrev entA (e : EntN) : AV := .agg (entL e)
structure EntN.ok (e : EntN) : Prop where
  f : e.f.ok
  port : 0 ≤ e.port ∧ e.port ≤ 65535
  shift : 0 ≤ e.shift ∧ e.shift ≤ 4294967295
end Go.Proofs.Ythjojkkapboonaa
