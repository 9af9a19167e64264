/- The plain words of layer 6: connect, connack. No condition. -/
import Derived.Test.YtlhkgalmiajinaaPropF
import Derived.Test.YtlhkgalmiajinaaPropG
import Derived.Test.YtlhkgalmiajinaaPub
namespace Go.Proofs.Ytlhkgalmiajinaa
open Go.RowKit

structure Cn where
  clean : Bool
  keep : Nat
  props : List Pr
  id : List UInt8
  hasWill : Bool
  wp : List Pr
  topic : List UInt8
  pay : List UInt8
  qos : Nat
  ret : Bool
  hasUser : Bool
  hasPass : Bool
  user : List UInt8
  pass : List UInt8
def noCn : Cn := ⟨false, 0, [], [], false, [], [], [], 0, false, false, false, [], []⟩
/-- A connect as a value; v, u: its properties, its will's. -/
def cnC (c : Cn) (v u : Value) : List Value := [.bool c.clean, .int .u32 (c.keep : Int), v, .string ⟨c.id.toArray⟩, .bool c.hasWill, u, .string ⟨c.topic.toArray⟩, .string ⟨c.pay.toArray⟩, .int .u8 (c.qos : Int), .bool c.ret, .bool c.hasUser, .bool c.hasPass, .string ⟨c.user.toArray⟩, .string ⟨c.pass.toArray⟩]
def bitN (b : Bool) (n : Nat) : Nat := if b = true then n else 0
def cnFlags (c : Cn) : Nat := bitN c.clean 2 + bitN c.hasWill 4 + bitN c.hasPass 64 + bitN c.hasUser 128 + (if c.hasWill = true then c.qos % 4 * 8 + bitN c.ret 32 else 0)
def mqtt : List UInt8 := [77, 81, 84, 84]
def cnWill (c : Cn) : List UInt8 := if c.hasWill = true then propsB c.wp ++ (dataB c.topic ++ dataB c.pay) else []
def cnUser (c : Cn) : List UInt8 := if c.hasUser = true then dataB c.user else []
def cnPass (c : Cn) : List UInt8 := if c.hasPass = true then dataB c.pass else []
def cnText (c : Cn) : List UInt8 := [0, 4, 77, 81, 84, 84, 5] ++ ([b8 (cnFlags c)] ++ (two c.keep ++ (propsB c.props ++ (dataB c.id ++ (cnWill c ++ (cnUser c ++ cnPass c))))))
/-- Flags that may not be. -/
def cnBad (f : Nat) : Bool := decide (f % 2 = 1) || decide (f / 8 % 4 = 3) || (decide (f / 4 % 2 = 0) && decide (0 < f / 8 % 8))
def willP (h : Bool) (r : Rd) : List Pr × Rd := if h = true then takeP r 1 true else ([], r)
def willT (h : Bool) (r : Rd) : List UInt8 × Rd := if h = true then r.str else ([], r)
def dataT (h : Bool) (r : Rd) : List UInt8 × Rd := if h = true then r.data else ([], r)
structure CnR where
  c : Cn
  r : Rd
/-- What is read behind the flags f, r being what is left. -/
def cnTail (f : Nat) (r : Rd) : CnR :=
  let k := r.num 2
  let p := takeP k.2 1 false
  let i := p.2.str
  let wl := willP (decide (f / 4 % 2 = 1)) i.2
  let t := willT (decide (f / 4 % 2 = 1)) wl.2
  let y := dataT (decide (f / 4 % 2 = 1)) t.2
  let u := willT (decide (f / 128 % 2 = 1)) y.2
  let s := dataT (decide (f / 64 % 2 = 1)) u.2
  ⟨⟨decide (f / 2 % 2 = 1), k.1, p.1, i.1, decide (f / 4 % 2 = 1), wl.1, t.1, y.1, f / 8 % 4, decide (f / 32 % 2 = 1), decide (f / 128 % 2 = 1), decide (f / 64 % 2 = 1), u.1, s.1⟩, s.2⟩
def cnFail (f : Nat) (r : Rd) : Rd := if cnBad f = true then r.fail 2 else r
def cnFrom (r : Rd) : Cn × Int :=
  let t := cnTail (r.num 1).1 (cnFail (r.num 1).1 (r.num 1).2)
  if t.r.ends = 0 then (t.c, 0) else (noCn, t.r.ends)
/-- A connect of a body. -/
def cnParse (s : List UInt8) : Cn × Int :=
  let n := Rd.str ⟨s, 0⟩
  if n.2.e = 0 ∧ n.1 ≠ mqtt then (noCn, 14)
  else
    let v := n.2.num 1
    if v.2.e = 0 ∧ v.1 ≠ 5 then (noCn, 14) else cnFrom v.2
structure Ck where
  present : Bool
  code : Nat
  props : List Pr
def noCk : Ck := ⟨false, 0, []⟩
def ckC (a : Ck) (v : Value) : List Value := [.bool a.present, .int .u8 (a.code : Int), v]
def ckText (a : Ck) : List UInt8 := [b8 (bitN a.present 1), b8 a.code] ++ propsB a.props
def ckFail (f c : Nat) (r : Rd) : Rd := if 1 < f ∨ r.e = 0 ∧ mayC 2 c = false then r.fail 2 else r
def ckProto (f c : Nat) (r : Rd) : Rd := if r.e = 0 ∧ f = 1 ∧ c ≠ 0 then r.fail 3 else r
def ckFrom (f c : Nat) (r : Rd) : Ck × Int :=
  let p := takeP (ckFail f c r) 2 false
  let q := ckProto f c p.2
  if q.ends = 0 then (⟨decide (f = 1), c, p.1⟩, 0) else (noCk, q.ends)
/-- A connack of a body. -/
def ckParse (s : List UInt8) : Ck × Int :=
  let f := Rd.num ⟨s, 0⟩ 1
  let c := f.2.num 1
  ckFrom f.1 c.1 c.2
end Go.Proofs.Ytlhkgalmiajinaa
