/- The reference's Good of layer 2. -/
import Derived.Test.YtlhkgalmiajinaaRefC
import Derived.Test.YtlhkgalmiajinaaPlainC
namespace Go.Proofs.Ytlhkgalmiajinaa
open Go.RowKit

set_option maxRecDepth 100000 in
set_option maxHeartbeats 2000000 in
theorem rgood_any (s : List UInt8) (w : World) (hs : s.length ≤ 9223372036854775807) :
    Calls Try.prog 104 #[.string ⟨s.toArray⟩] w fun e w' => e = .returned (.bool (good s)) ∧ Fr [] w w' := by
  by_cases hb : (65535 : Int) < s.length
  · go_enter Try.func104, Try.ntmps104
    go_wp2
    go_ret
    exact ⟨ret_bool (by rw [good]; simp; omega), Fr.refl _ _⟩
  have Hg := Lib.hid (good_small s (by omega))
  have hst := Fr.refl [] w
  go_enter Try.func104, Try.ntmps104
  go_wp2
  go_loopw [3, 4] (fun a i wr => ∃ A I : Nat, a = .int .i64 (A : Int) ∧ i = .int .i64 (I : Int) ∧ I ≤ A ∧ A ≤ s.length ∧ good.goodN (s.drop A).length (s.drop A) = good.goodN s.length s ∧ Fr [] w wr) (fun a _ _ => s.length - (intOf a).toNat)
  case atStart => exact ⟨0, 0, rfl, rfl, Nat.le_refl _, Nat.zero_le _, rfl, hst⟩
  case round =>
    obtain ⟨A, I, rfl, rfl, hIA, hA, hG, hfr⟩ := hrel
    have HG := Lib.hid hG
    clear hG hst
    by_cases hlt : (A : Int) < (s.length : Int)
    · have hne : s.drop A ≠ [] := by intro h; have := congrArg List.length h; simp at this; omega
      have HS := Lib.hid (goodN_step (s.drop A) hne)
      have hle := (sign_le (s.drop A)).1
      rw [List.length_drop] at hle
      clear hne
      go_wp2_with fail
      rw [ex_drop _ _ _ (Nat.le_refl _)]
      refine (rsign_any (s.drop A) _ (by rw [List.length_drop]; omega)).mono ?_
      rintro _ w1 ⟨rfl, hf_⟩
      replace hfr := hfr.trans hf_ (by simp)
      clear hf_
      obtain ⟨⟨v, n⟩, hvn⟩ : ∃ x, sign (s.drop A) = x := ⟨_, rfl⟩
      rw [hvn] at HS hle ⊢
      simp only [List.drop_drop] at hle HS ⊢
      clear hvn
      by_cases hn0 : n = 0
      · subst hn0
        go_wp2
        go_ret
        exact ⟨ret_bool (by rw [Hg.out, ← HG.out, HS.out]; rfl), hfr⟩
      · have hn1 : ((n : Int) == 0) = false := by simpa using hn0
        have hn2 : (n == 0) = false := by simpa using hn0
        by_cases hv0 : v = 0
        · subst hv0
          clear hn0 hn2
          go_wp2
          go_ret
          exact ⟨ret_bool (by rw [Hg.out, ← HG.out, HS.out]; simp), hfr⟩
        · have hv1 : ((v : Int) == 0) = false := by simpa using hv0
          have hv2 : (v == 0) = false := by simpa using hv0
          have HS2 := Lib.hid HS.out
          rw [hn2, hv2] at HS2
          have Hn := Lib.hid (show 0 < n by omega)
          clear hn2 hv2 hn0 hv0
          go_wp2
          go_roundw
          case rel => exact ⟨A + n, I + 1, by go_num, by go_num, by have := Hn.out; omega, by omega, by rw [← HG.out, HS2.out]; rfl, hfr⟩
          case measure => have := Hn.out; simp [intOf]; omega
    · obtain rfl : A = s.length := by omega
      go_wp2
      go_ret
      exact ⟨ret_bool (by rw [Hg.out, ← HG.out, List.drop_length]; rfl), hfr⟩
end Go.Proofs.Ytlhkgalmiajinaa
