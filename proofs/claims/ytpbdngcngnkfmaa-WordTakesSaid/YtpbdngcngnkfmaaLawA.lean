/- What the law package of layer 1 uses: 'awake' answers true, 'Cut' cuts. Conditions: strings that may be. -/
import Derived.Test.YtpbdngcngnkfmaaProg
import Derived.Test.YtpbdngcngnkfmaaBase
import Derived.Test.YtpbdngcngnkfmaaPure
import Derived.Test.YtpbdngcngnkfmaaIn
import Derived.Test.YtpbdngcngnkfmaaOut
namespace Go.Proofs.Ytpbdngcngnkfmaa
open Go.RowKit

set_option linter.unusedVariables false in
theorem cut_any (s : List UInt8) (n : Int) (w : World) (hs : s.length ≤ 9223372036854775807) (hn : 0 ≤ n) :
    Calls Try.prog 14 #[.string ⟨s.toArray⟩, .int .i64 n] w fun e w' => e = .returned (.string ⟨(s.take n.toNat).toArray⟩) ∧ w = w' := by
  by_cases h : n < (s.length : Int)
  · go_enter Try.func14, Try.ntmps14
    go_wp2
    go_ret
    rw [ex_take]
    exact ⟨rfl, rfl⟩
  · go_enter Try.func14, Try.ntmps14
    go_wp2
    go_ret
    rw [List.take_of_length_le (by omega)]
    exact ⟨rfl, rfl⟩
set_option maxHeartbeats 1000000 in
theorem awake1_any (w : World) :
    Calls Try.prog 22 #[] w fun e w' => e = .returned (.bool true) ∧ Fr [] w w' := by
  have hn := OutAt.new w
  have hf0 : Fr [] w (w.alloc (.cells #[.slice none 0 0] 36)) := (Fr.refl _ _).alloc _
  go_enter Try.func22, Try.ntmps22
  go_wp2_with fail
  refine (outvar_any _ _ [] 321 _ hn (by decide) (by decide) (by simp)).mono ?_
  rintro e w1 ⟨rfl, o1, h1, ho1, hf1⟩
  go_wp2_with fail
  refine (outdata_any _ o1 _ [97, 98] _ h1 (by decide) (by decide)).mono ?_
  rintro e w2 ⟨rfl, o2, h2, ho2, hf2⟩
  have hs0 := hf0.size
  have hs1 := hf1.size
  have hff : Fr [] w w2 := (hf0.trans hf1 (by simp; omega)).trans hf2 (by simp at *; omega)
  rw [show ([] ++ var (321 : Int).toNat ++ dataB [97, 98]) = [193, 2, 0, 2, 97, 98] from by decide] at h2
  clear hn hf0 h1 ho1 hf1 hf2 hs0 hs1 ho2
  go_wp2_with fail
  refine (over_any [128, 0] w2).mono ?_
  rintro e w3 ⟨rfl, hi, hf3⟩
  have hl2 := h2.lt
  have h3 := h2.fr hf3 (by simp) (by simp)
  have hff := hff.trans hf3 (by simp)
  clear h2 hf3
  go_wp2_with fail
  refine (outtext_any _ _ _ w3 h3).mono ?_
  rintro e w4 ⟨rfl, rfl⟩
  go_wp2_with fail
  refine (invar_any _ _ w3 hi (by decide)).mono ?_
  rintro e w4 ⟨rfl, hi4, hf4⟩
  rw [show Rd.var ⟨[128, 0], 0⟩ = (0, ⟨[], 2⟩) from by rfl] at hi4 ⊢
  have hff := hff.trans hf4 (by simp at *; omega)
  go_wp2_with fail
  refine (err_any _ _ w4 hi4).mono ?_
  rintro e w5 ⟨rfl, rfl⟩
  go_wp2_with fail
  refine (size_any 128 w4 (by decide) (by decide)).mono ?_
  rintro e w5 ⟨rfl, hf5⟩
  rw [show (var (128 : Int).toNat).length = 2 from by decide]
  have hff := hff.trans hf5 (by simp)
  go_wp2
  go_ret
  exact ⟨rfl, hff⟩
end Go.Proofs.Ytpbdngcngnkfmaa
