/- The walk of the law WordReads. -/
import Derived.Test.YtpbdngcngnkfmaaLawB
import Derived.Test.YtpbdngcngnkfmaaRefD
namespace Go.Proofs.Ytpbdngcngnkfmaa
open Go.RowKit

theorem signsN_step (l : List UInt8) (hne : l ≠ []) : signsN l.length l = if (sign l).2 = 0 then 0 else 1 + signsN (l.drop (sign l).2).length (l.drop (sign l).2) := by
  have more : ∀ k (l : List UInt8), signsN (l.length + k) l = signsN l.length l := by
    intro k
    induction k with
    | zero => intro l; rfl
    | succ k ih => intro l; rw [← Nat.add_assoc, signsN_more _ _ (by omega), ih]
  obtain ⟨j, hj⟩ : ∃ j, l.length = j + 1 := ⟨l.length - 1, by have := List.length_pos_iff.2 hne; omega⟩
  rw [hj, signsN]
  split
  · rfl
  · rename_i h
    have hle : (l.drop (sign l).2).length ≤ j := by simp; omega
    obtain ⟨k, hk⟩ : ∃ k, j = (l.drop (sign l).2).length + k := ⟨j - (l.drop (sign l).2).length, by omega⟩
    rw [hk, more]
set_option maxRecDepth 100000 in
set_option maxHeartbeats 4000000 in
theorem wordReads_walk (a0 : ByteArray) (w0 : a0.size ≤ maxLen) (w : World) :
    Calls Try.prog 5 #[.string a0] w fun e w' => e = .returned (.bool true) ∧ Fr [] w w' := by
  obtain ⟨s, rfl, hs⟩ := str_list a0
  rw [← hs] at w0
  unfold maxLen at w0
  clear hs
  have hla : (s.take 100).length ≤ 100 := List.length_take_le _ _
  obtain ⟨l, ha⟩ : ∃ a, s.take 100 = a := ⟨_, rfl⟩
  rw [ha] at hla
  have Ha := Lib.hid ha
  have hfr := Fr.refl [] w
  have hv := sign_val l
  obtain ⟨⟨v0, n0⟩, hvn⟩ : ∃ x, sign l = x := ⟨_, rfl⟩
  rw [hvn] at hv
  simp only at hv
  have HV := Lib.hid hvn
  clear ha hvn
  go_enter Try.func5, Try.ntmps5
  go_wp2_with fail
  refine (cut_any s 100 w (by omega) (by decide)).mono ?_
  rintro _ w1 ⟨rfl, rfl⟩
  rw [show (100 : Int).toNat = 100 from rfl]
  rw [Ha.out]
  go_wp2_with fail
  refine (sign_any l _ (by omega)).mono ?_
  rintro _ w1 ⟨rfl, hf_⟩
  replace hfr := hfr.trans hf_ (by simp)
  clear hf_
  rw [HV.out]
  go_wp2_with fail
  refine (rsign_any l _ (by omega)).mono ?_
  rintro _ w2 ⟨rfl, hf_⟩
  replace hfr := hfr.trans hf_ (by simp)
  clear hf_
  rw [HV.out]
  go_wp2
  go_loopw [7, 8] (fun c a wr => ∃ K A : Nat, c = .int .i64 (K : Int) ∧ a = .int .i64 (A : Int) ∧ K ≤ A ∧ A ≤ l.length ∧ K + signsN (l.drop A).length (l.drop A) = signsN l.length l ∧ Fr [] w wr) (fun _ a _ => l.length - (intOf a).toNat)
  case atStart => exact ⟨0, 0, rfl, rfl, Nat.le_refl _, Nat.zero_le _, by rw [List.drop_zero]; omega, hfr⟩
  case round =>
    rename_i wr
    clear hfr
    obtain ⟨K, A, rfl, rfl, hKA, hA, hG, hfr⟩ := hrel
    have HG := Lib.hid hG
    clear hG
    by_cases hlt : (A : Int) < (l.length : Int)
    · have hne : l.drop A ≠ [] := by intro h; have := congrArg List.length h; simp at this; omega
      have HS := Lib.hid (signsN_step (l.drop A) hne)
      have hle := (sign_le (l.drop A)).1
      rw [List.length_drop] at hle
      clear hne
      go_wp2_with fail
      rw [ex_drop _ _ _ (Nat.le_refl _)]
      refine (rsign_any (l.drop A) _ (by rw [List.length_drop]; omega)).mono ?_
      rintro _ w3 ⟨rfl, hf_⟩
      replace hfr := hfr.trans hf_ (by simp)
      clear hf_
      obtain ⟨⟨v, n⟩, hvn⟩ : ∃ x, sign (l.drop A) = x := ⟨_, rfl⟩
      rw [hvn] at HS hle ⊢
      simp only [List.drop_drop] at hle HS ⊢
      clear hvn
      by_cases hn0 : n = 0
      · subst hn0
        have HK : Hid (signsN l.length l = K) := Lib.hid (by rw [← HG.out, HS.out]; rfl)
        go_wp2_with fail
        refine (awake2_any _).mono ?_
        rintro _ y1 ⟨rfl, hf_⟩
        replace hfr := hfr.trans hf_ (by simp)
        clear hf_
        go_wp2_with fail
        refine (signs_any l _ (by omega)).mono ?_
        rintro _ y2 ⟨rfl, hf_⟩
        replace hfr := hfr.trans hf_ (by simp)
        clear hf_
        rw [HK.out]
        go_wp2_with fail
        refine (good_any l _ (by omega)).mono ?_
        rintro _ y3 ⟨rfl, hf_⟩
        replace hfr := hfr.trans hf_ (by simp)
        clear hf_
        go_wp2_with fail
        refine (rgood_any l _ (by omega)).mono ?_
        rintro _ y4 ⟨rfl, hf_⟩
        replace hfr := hfr.trans hf_ (by simp)
        clear hf_
        go_wp2
        go_ret
        exact ⟨rfl, hfr⟩
      · have hn1 : ((n : Int) == 0) = false := by simpa using hn0
        have HS2 := Lib.hid (HS.out.trans (if_neg hn0))
        have Hn := Lib.hid (show 0 < n by omega)
        clear hn0
        go_wp2
        go_roundw
        case rel => exact ⟨K + 1, A + n, by go_num, by go_num, by have := Hn.out; omega, by omega, by rw [← HG.out, HS2.out]; omega, hfr⟩
        case measure => have := Hn.out; simp [intOf]; omega
    · obtain rfl : A = l.length := by omega
      have HK : Hid (signsN l.length l = K) := Lib.hid (by rw [← HG.out, List.drop_length]; rfl)
      go_wp2_with fail
      refine (awake2_any _).mono ?_
      rintro _ y1 ⟨rfl, hf_⟩
      replace hfr := hfr.trans hf_ (by simp)
      clear hf_
      go_wp2_with fail
      refine (signs_any l _ (by omega)).mono ?_
      rintro _ y2 ⟨rfl, hf_⟩
      replace hfr := hfr.trans hf_ (by simp)
      clear hf_
      rw [HK.out]
      go_wp2_with fail
      refine (good_any l _ (by omega)).mono ?_
      rintro _ y3 ⟨rfl, hf_⟩
      replace hfr := hfr.trans hf_ (by simp)
      clear hf_
      go_wp2_with fail
      refine (rgood_any l _ (by omega)).mono ?_
      rintro _ y4 ⟨rfl, hf_⟩
      replace hfr := hfr.trans hf_ (by simp)
      clear hf_
      go_wp2
      go_ret
      exact ⟨rfl, hfr⟩
end Go.Proofs.Ytpbdngcngnkfmaa
