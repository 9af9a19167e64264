/- Variable byte integers: how great, how much is left. No condition. -/
import Derived.Test.YtlhkgalmiajinaaWord
import Derived.Test.YtlhkgalmiajinaaPlainA
import Derived.Deep.RegionWith
import Derived.Deep.RegionHeld3
import Derived.Deep.DeepCutAuto
import Derived.BigQuiet
namespace Go.Proofs.Ytlhkgalmiajinaa
open Go.RowKit
theorem varGo_lt : ∀ (j u v : Nat) (r : Rd), v < u → (Rd.varGo u v j r).1 < 128 ^ (j + 1) * u := by
  intro j
  induction j with
  | zero =>
    intro u v r h
    rw [Rd.varGo]
    split
    · show 0 < _; omega
    split
    · split
      · show 0 < _; omega
      · rename_i h1 _
        have := Nat.mul_le_mul_right u (Nat.le_of_lt_succ h1)
        show v + _ * u < _; omega
    · show 0 < _; omega
  | succ j ih =>
    intro u v r h
    have hp : 0 < 128 ^ (j + 1) := Nat.pow_pos (by decide)
    have e : 128 ^ (j + 1 + 1) * u = 128 ^ (j + 1) * (u * 128) := by rw [Nat.pow_succ, Nat.mul_assoc, Nat.mul_comm 128 u]
    have h0 : u * 128 ≤ 128 ^ (j + 1) * (u * 128) := Nat.le_mul_of_pos_left _ hp
    rw [Rd.varGo, e]
    split
    · show 0 < _; omega
    split
    · split
      · show 0 < _; omega
      · rename_i h1 _
        have := Nat.mul_le_mul_right u (Nat.le_of_lt_succ h1)
        show v + _ * u < _; omega
    · refine ih _ _ _ ?_
      have : (Rd.num r 1).1 % 128 ≤ 127 := by omega
      have := Nat.mul_le_mul_right u this
      omega
theorem var_lt (r : Rd) : (Rd.var r).1 < 268435456 := varGo_lt 3 1 0 r (by decide)
theorem varGo_left2 (j : Nat) : ∀ (u v : Nat) (r : Rd), (Rd.varGo u v j r).2.s.length ≤ r.s.length := by
  induction j with
  | zero =>
    intro u v r
    have h := Rd.raw_left r 1
    rw [Rd.varGo]
    split
    · exact h
    split
    · split <;> exact h
    · exact h
  | succ j ih =>
    intro u v r
    have h := Rd.raw_left r 1
    rw [Rd.varGo]
    split
    · exact h
    split
    · split <;> exact h
    · exact Nat.le_trans (ih _ _ _) h

end Go.Proofs.Ytlhkgalmiajinaa
