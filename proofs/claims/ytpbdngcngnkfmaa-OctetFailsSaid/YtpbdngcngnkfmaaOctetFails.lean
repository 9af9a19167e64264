/- The walk of the law OctetFails. -/
import Derived.Test.YtpbdngcngnkfmaaLawA
import Derived.Test.YtpbdngcngnkfmaaPlainA
namespace Go.Proofs.Ytpbdngcngnkfmaa
open Go.RowKit

set_option maxHeartbeats 1000000 in
theorem octetFails_walk (a0 : ByteArray) (a1 : Int) (w0 : a0.size ≤ maxLen) (w1 : (Lit.int .i64 a1).wf = true) (w : World) :
    Calls Try.prog 9 #[.string a0, .int .i64 a1] w fun e w' => e = .returned (.bool true) ∧ Fr [] w w' := by
  obtain ⟨s, rfl, hs⟩ := str_list a0
  obtain ⟨g1, g2⟩ := wf_i64 w1
  rw [← hs] at w0
  unfold maxLen at w0
  clear hs w1
  go_enter Try.func9, Try.ntmps9
  go_wp2_with fail
  refine (cut_any s 50 w (by omega) (by decide)).mono ?_
  rintro _ w1 ⟨rfl, rfl⟩
  rw [show (50 : Int).toNat = 50 from rfl]
  have hl : (s.take 50).length ≤ 50 := List.length_take_le _ _
  generalize s.take 50 = l at *
  go_wp2_with fail
  refine (awake1_any w).mono ?_
  rintro _ w1 ⟨rfl, hf1⟩
  go_wp2_with fail
  refine (over_any l w1).mono ?_
  rintro _ w2 ⟨rfl, hi2, hf2⟩
  have hb0 := hf1.size
  have hff := hf1.trans hf2 (by simp)
  clear hf1 hf2
  obtain ⟨E, hE, hE1⟩ : ∃ E : Int, wrap64 (1 + (wrap64 (a1.tmod 9 + 9)).tmod 9) = E ∧ E ≠ 0 := by
    refine ⟨_, rfl, ?_⟩
    have h1 : -9 < a1.tmod 9 ∧ a1.tmod 9 < 9 := by
      rw [tmod_eq_if]; split <;> omega
    rw [show wrap64 (a1.tmod 9 + 9) = a1.tmod 9 + 9 from IntWalk.wrap64_in _ (by omega), Int.tmod_eq_emod_of_nonneg (by omega), IntWalk.wrap64_in _ (by omega)]
    omega
  go_wp2_with fail
  rw [hE]
  have HE := Lib.hid hE
  clear hE
  refine (fail_any _ _ E w2 hi2).mono ?_
  rintro _ w3 ⟨rfl, hi3, hf3⟩
  rw [show Rd.fail ⟨l, 0⟩ E = ⟨l, E⟩ from rfl] at hi3
  have hff := hff.trans hf3 (by simp; omega)
  clear hf3 hi2
  go_wp2_with fail
  refine (fail_any _ _ 15 w3 hi3).mono ?_
  rintro _ w4 ⟨rfl, hi4, hf4⟩
  rw [show Rd.fail ⟨l, E⟩ 15 = ⟨l, E⟩ from by rw [Rd.fail, if_neg hE1]] at hi4
  have hff := hff.trans hf4 (by simp; omega)
  clear hf4 hi3
  go_wp2_with fail
  refine (raw_any _ _ 1 w4 hi4 (by show l.length ≤ _; omega)).mono ?_
  rintro _ w5 ⟨rfl, hi5, hf5⟩
  rw [Rd.raw_bad ⟨l, E⟩ _ hE1] at hi5 ⊢
  have hff := hff.trans hf5 (by simp; omega)
  clear hf5 hi4
  go_wp2_with fail
  refine (infour_any _ _ w5 hi5 (by show l.length ≤ _; omega)).mono ?_
  rintro _ w6 ⟨rfl, hi6, hf6⟩
  rw [show Rd.num ⟨l, E⟩ 4 = (0, ⟨l, E⟩) from by rw [Rd.num, Rd.raw_bad ⟨l, E⟩ _ hE1]; rfl] at hi6 ⊢
  have hff := hff.trans hf6 (by simp; omega)
  clear hf6 hi5
  go_wp2_with fail
  refine (rest_any _ _ w6 hi6 (by show l.length ≤ _; omega)).mono ?_
  rintro _ w7 ⟨rfl, hi7, hf7⟩
  rw [Rd.raw_bad ⟨l, E⟩ _ hE1] at hi7 ⊢
  have hff := hff.trans hf7 (by simp; omega)
  clear hf7 hi6
  go_wp2_with fail
  refine (err_any _ _ w7 hi7).mono ?_
  rintro _ w8 ⟨rfl, rfl⟩
  go_wp2
  go_ret
  exact ⟨rfl, hff⟩
end Go.Proofs.Ytpbdngcngnkfmaa
