/- What Cut of the law package of layer 1 comes to. Conditions: strings that may be. -/
import Derived.Test.YthioageiebchlaaProg
import Derived.Test.YthioageiebchlaaBase
namespace Go.Proofs.Ythioageiebchlaa
open Go.RowKit
set_option linter.unusedVariables false
set_option linter.unusedSimpArgs false

set_option linter.unusedVariables false in
theorem cut_any (s : List UInt8) (n : Int) (w : World) (hs : s.length ≤ 9223372036854775807) (hn : 0 ≤ n) :
    Calls Try.prog 13 #[.string ⟨s.toArray⟩, .int .i64 n] w fun e w' => e = .returned (.string ⟨(s.take n.toNat).toArray⟩) ∧ w = w' := by
  by_cases h : n < (s.length : Int)
  · go_enter Try.func13, Try.ntmps13
    go_wp2
    go_ret
    rw [ex_take]
    exact ⟨rfl, rfl⟩
  · go_enter Try.func13, Try.ntmps13
    go_wp2
    go_ret
    rw [List.take_of_length_le (by omega)]
    exact ⟨rfl, rfl⟩
end Go.Proofs.Ythioageiebchlaa
