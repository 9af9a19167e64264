/- The plain words of layers 4, 6 and 7: codes, publish, its answers. No condition. -/
import Derived.Test.YtlhkgalmiajinaaPropF
import Derived.Test.YtlhkgalmiajinaaPropH
import Derived.Test.YtlhkgalmiajinaaPlainA
namespace Go.Proofs.Ytlhkgalmiajinaa

/-- The codes that a kind of packet may say. -/
def codesB (k : Int) : List UInt8 :=
  if k = 2 then [0, 128, 129, 130, 131, 132, 133, 134, 135, 136, 137, 138, 140, 144, 149, 151, 153, 154, 155, 156, 157, 159]
  else if k = 4 ∨ k = 5 then [0, 16, 128, 131, 135, 144, 145, 151, 153]
  else if k = 6 ∨ k = 7 then [0, 146]
  else if k = 9 then [0, 1, 2, 128, 131, 135, 143, 145, 151, 158, 161, 162]
  else if k = 11 then [0, 17, 128, 131, 135, 143, 145]
  else if k = 14 then [0, 4, 128, 129, 130, 131, 135, 137, 139, 141, 142, 143, 144, 147, 148, 149, 150, 151, 152, 153, 154, 155, 156, 157, 158, 159, 160, 161, 162]
  else if k = 15 then [0, 24, 25] else []
def mayC (k : Int) (c : Nat) : Bool := (codesB k).contains (b8 c)
structure Pb where
  dup : Bool
  ret : Bool
  qos : Nat
  id : Nat
  props : List Pr
  topic : List UInt8
  pay : List UInt8
def noPb : Pb := ⟨false, false, 0, 0, [], [], []⟩
def propsB (l : List Pr) : List UInt8 := var (putsB l).length ++ putsB l
def pbFlags (p : Pb) : Nat := p.qos % 4 * 2 + (if p.dup = true then 8 else 0) + (if p.ret = true then 1 else 0)
def pbText (p : Pb) : List UInt8 := dataB p.topic ++ ((if 0 < p.qos then two p.id else []) ++ (propsB p.props ++ p.pay))
def Rd.ident (r : Rd) : Nat × Rd := ((r.num 2).1, if (r.num 2).1 = 0 then (r.num 2).2.fail 3 else (r.num 2).2)
def pbId (q : Nat) (r : Rd) : Nat × Rd := if 0 < q then r.ident else (0, r)
def pbRest (q : Nat) (s : List UInt8) : List Pr × Rd := takeP (pbId q (Rd.str ⟨s, 0⟩).2).2 3 false
def pbEnd (r : Rd) : Rd := (r.raw r.s.length).2
def pbE (q : Nat) (s : List UInt8) : Int := (pbEnd (pbRest q s).2).ends
/-- A publish of flags and a body. -/
def pbParse (f : Nat) (s : List UInt8) : Pb × Int :=
  if pbE (f / 2 % 4) s = 0 then (⟨decide (f / 8 % 2 = 1), decide (f % 2 = 1), f / 2 % 4, (pbId (f / 2 % 4) (Rd.str ⟨s, 0⟩).2).1, (pbRest (f / 2 % 4) s).1, (Rd.str ⟨s, 0⟩).1, (pbRest (f / 2 % 4) s).2.s⟩, 0)
  else (noPb, pbE (f / 2 % 4) s)
structure Ak where
  kind : Int
  id : Nat
  code : Nat
  props : List Pr
def noAk : Ak := ⟨0, 0, 0, []⟩
def akText (a : Ak) : List UInt8 := two a.id ++ ((if a.code ≠ 0 ∨ a.props ≠ [] then [b8 a.code] else []) ++ (if a.props ≠ [] then propsB a.props else []))
def akCode (r : Rd) : Nat × Rd := if r.s = [] then (0, r) else r.num 1
def akMay (k : Int) (r : Nat × Rd) : Rd := if mayC k r.1 = true then r.2 else r.2.fail 2
def akProps (k : Int) (r : Rd) : List Pr × Rd := if r.s = [] then ([], r) else takeP r k false
def akE (k : Int) (s : List UInt8) : Int := (akProps k (akMay k (akCode (Rd.ident ⟨s, 0⟩).2))).2.ends
/-- An answer of a kind and a body. -/
def akParse (k : Int) (s : List UInt8) : Ak × Int :=
  if k < 4 ∨ 7 < k then (noAk, 5)
  else if akE k s = 0 then (⟨k, (Rd.ident ⟨s, 0⟩).1, (akCode (Rd.ident ⟨s, 0⟩).2).1, (akProps k (akMay k (akCode (Rd.ident ⟨s, 0⟩).2))).1⟩, 0)
  else (noAk, akE k s)
end Go.Proofs.Ytlhkgalmiajinaa
