/- What the law package of layer 2 uses: 'awake' answers true. No condition. -/
import Derived.Test.YtpbdngcngnkfmaaLawA
import Derived.Test.YtpbdngcngnkfmaaWord
namespace Go.Proofs.Ytpbdngcngnkfmaa
open Go.RowKit

set_option maxHeartbeats 1000000 in
theorem awake2_any (w : World) :
    Calls Try.prog 15 #[] w fun e w' => e = .returned (.bool true) ∧ Fr [] w w' := by
  go_enter Try.func15, Try.ntmps15
  go_wp2_with fail
  refine (sign_any [195, 169, 120] w (by decide)).mono ?_
  rintro _ w1 ⟨rfl, hff⟩
  rw [show sign [195, 169, 120] = (233, 2) from by decide]
  go_wp2_with fail
  refine (sign_any [192, 128] w1 (by decide)).mono ?_
  rintro _ w2 ⟨rfl, hf_⟩
  rw [show sign [192, 128] = (0, 0) from by decide]
  replace hff := hff.trans hf_ (by simp)
  clear hf_
  go_wp2_with fail
  refine (good_any [97, 195, 169] w2 (by decide)).mono ?_
  rintro _ w3 ⟨rfl, hf_⟩
  rw [show good [97, 195, 169] = true from by decide]
  replace hff := hff.trans hf_ (by simp)
  clear hf_
  go_wp2_with fail
  refine (good_any [97, 0] w3 (by decide)).mono ?_
  rintro _ w4 ⟨rfl, hf_⟩
  rw [show good [97, 0] = false from by decide]
  replace hff := hff.trans hf_ (by simp)
  clear hf_
  go_wp2
  go_ret
  exact ⟨rfl, hff⟩
end Go.Proofs.Ytpbdngcngnkfmaa
