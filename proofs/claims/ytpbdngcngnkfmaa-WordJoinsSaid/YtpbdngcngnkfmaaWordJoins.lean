/- The walk of the law WordJoins. -/
import Derived.Test.YtpbdngcngnkfmaaLawB
import Derived.Test.YtpbdngcngnkfmaaPlainC
namespace Go.Proofs.Ytpbdngcngnkfmaa
open Go.RowKit

set_option maxRecDepth 100000 in
set_option maxHeartbeats 4000000 in
theorem wordJoins_walk (a0 : ByteArray) (a1 : ByteArray) (w0 : a0.size ≤ maxLen) (w1 : a1.size ≤ maxLen) (w : World) :
    Calls Try.prog 4 #[.string a0, .string a1] w fun e w' => e = .returned (.bool true) ∧ Fr [] w w' := by
  obtain ⟨s, rfl, hs⟩ := str_list a0
  obtain ⟨t, rfl, ht⟩ := str_list a1
  rw [← hs] at w0
  rw [← ht] at w1
  unfold maxLen at w0 w1
  clear hs ht
  have hla : (s.take 100).length ≤ 100 := List.length_take_le _ _
  have hlb : (t.take 100).length ≤ 100 := List.length_take_le _ _
  obtain ⟨a, ha⟩ : ∃ a, s.take 100 = a := ⟨_, rfl⟩
  obtain ⟨b, hb⟩ : ∃ b, t.take 100 = b := ⟨_, rfl⟩
  rw [ha] at hla
  rw [hb] at hlb
  have Ha := Lib.hid ha
  have Hb := Lib.hid hb
  clear ha hb
  by_cases hg0 : good a = true
  · have hg1 := hg0
    rw [good_small a (by omega)] at hg1
    have HJ : Hid (good (a ++ b) = good b) := Lib.hid (by rw [good_small (a ++ b) (by simp; omega), good_small b (by omega)]; exact good_join _ a b (Nat.le_refl _) hg1)
    have hg := hg0
    by_cases he : a = []
    · have He := Lib.hid he
      clear he hg0 hg1
      go_enter Try.func4, Try.ntmps4
      go_wp2_with fail
      refine (cut_any s 100 w (by omega) (by decide)).mono ?_
      rintro _ w1 ⟨rfl, rfl⟩
      rw [show (100 : Int).toNat = 100 from rfl]
      go_wp2_with fail
      refine (cut_any t 100 w (by omega) (by decide)).mono ?_
      rintro _ w1 ⟨rfl, rfl⟩
      rw [show (100 : Int).toNat = 100 from rfl]
      rw [Ha.out, Hb.out]
      go_wp2_with fail
      refine (awake2_any w).mono ?_
      rintro _ w1 ⟨rfl, hff⟩
      go_wp2_with fail
      refine (good_any a _ (by omega)).mono ?_
      rintro _ w2 ⟨rfl, hf_⟩
      replace hff := hff.trans hf_ (by simp)
      clear hf_
      rw [hg]
      go_wp2_with fail
      rw [ByteArray.mk_append_mk]
      go_wp2_with fail
      refine (good_any (a ++ b) _ (by rw [List.length_append]; omega)).mono ?_
      rintro _ w3 ⟨rfl, hf_⟩
      replace hff := hff.trans hf_ (by simp)
      clear hf_
      rw [HJ.out]
      go_wp2_with fail
      refine (good_any b _ (by omega)).mono ?_
      rintro _ w4 ⟨rfl, hf_⟩
      replace hff := hff.trans hf_ (by simp)
      clear hf_
      go_wp2_with fail
      refine (sign_any a _ (by omega)).mono ?_
      rintro _ w5 ⟨rfl, hf_⟩
      replace hff := hff.trans hf_ (by simp)
      clear hf_
      go_wp2_with fail
      refine (good_any a _ (by omega)).mono ?_
      rintro _ w6 ⟨rfl, hf_⟩
      replace hff := hff.trans hf_ (by simp)
      clear hf_
      rw [hg]
      clear hg
      obtain rfl := He.out
      go_wp2
      go_ret
      exact ⟨rfl, hff⟩
    · have HC := Lib.hid (good_cut a he hg1)
      have hle := (sign_le a).1
      clear hg0 hg1
      have HE := Lib.hid he
      clear he
      have hnil : a.isEmpty = false := by simpa using HE.out
      go_enter Try.func4, Try.ntmps4
      go_wp2_with fail
      refine (cut_any s 100 w (by omega) (by decide)).mono ?_
      rintro _ w1 ⟨rfl, rfl⟩
      rw [show (100 : Int).toNat = 100 from rfl]
      go_wp2_with fail
      refine (cut_any t 100 w (by omega) (by decide)).mono ?_
      rintro _ w1 ⟨rfl, rfl⟩
      rw [show (100 : Int).toNat = 100 from rfl]
      rw [Ha.out, Hb.out]
      go_wp2_with fail
      refine (awake2_any w).mono ?_
      rintro _ w1 ⟨rfl, hff⟩
      go_wp2_with fail
      refine (good_any a _ (by omega)).mono ?_
      rintro _ w2 ⟨rfl, hf_⟩
      replace hff := hff.trans hf_ (by simp)
      clear hf_
      rw [hg]
      go_wp2_with fail
      rw [ByteArray.mk_append_mk]
      go_wp2_with fail
      refine (good_any (a ++ b) _ (by rw [List.length_append]; omega)).mono ?_
      rintro _ w3 ⟨rfl, hf_⟩
      replace hff := hff.trans hf_ (by simp)
      clear hf_
      rw [HJ.out]
      go_wp2_with fail
      refine (good_any b _ (by omega)).mono ?_
      rintro _ w4 ⟨rfl, hf_⟩
      replace hff := hff.trans hf_ (by simp)
      clear hf_
      go_wp2_with fail
      refine (sign_any a _ (by omega)).mono ?_
      rintro _ w5 ⟨rfl, hf_⟩
      replace hff := hff.trans hf_ (by simp)
      clear hf_
      go_wp2_with fail
      refine (good_any a _ (by omega)).mono ?_
      rintro _ w6 ⟨rfl, hf_⟩
      replace hff := hff.trans hf_ (by simp)
      clear hf_
      rw [hg]
      clear hg
      go_wp2_with fail
      rw [ex_drop _ _ _ (Nat.le_refl _)]
      go_wp2_with fail
      refine (good_any (a.drop (sign a).2) _ (by rw [List.length_drop]; omega)).mono ?_
      rintro _ w7 ⟨rfl, hf_⟩
      replace hff := hff.trans hf_ (by simp)
      clear hf_
      rw [good_small _ (by rw [List.length_drop]; omega), HC.out.1]
      go_wp2_with fail
      rw [ex_take]
      go_wp2_with fail
      refine (good_any (a.take (sign a).2) _ (by rw [List.length_take]; omega)).mono ?_
      rintro _ w8 ⟨rfl, hf_⟩
      replace hff := hff.trans hf_ (by simp)
      clear hf_
      rw [good_small _ (by rw [List.length_take]; omega), HC.out.2]
      go_wp2
      go_ret
      exact ⟨rfl, hff⟩
  · have hg : good a = false := by simpa using hg0
    clear hg0
    go_enter Try.func4, Try.ntmps4
    go_wp2_with fail
    refine (cut_any s 100 w (by omega) (by decide)).mono ?_
    rintro _ w1 ⟨rfl, rfl⟩
    rw [show (100 : Int).toNat = 100 from rfl]
    go_wp2_with fail
    refine (cut_any t 100 w (by omega) (by decide)).mono ?_
    rintro _ w1 ⟨rfl, rfl⟩
    rw [show (100 : Int).toNat = 100 from rfl]
    rw [Ha.out, Hb.out]
    go_wp2_with fail
    refine (awake2_any w).mono ?_
    rintro _ w1 ⟨rfl, hff⟩
    go_wp2_with fail
    refine (good_any a _ (by omega)).mono ?_
    rintro _ w2 ⟨rfl, hf_⟩
    replace hff := hff.trans hf_ (by simp)
    clear hf_
    rw [hg]
    go_wp2_with fail
    refine (sign_any a _ (by omega)).mono ?_
    rintro _ w5 ⟨rfl, hf_⟩
    replace hff := hff.trans hf_ (by simp)
    clear hf_
    go_wp2_with fail
    refine (good_any a _ (by omega)).mono ?_
    rintro _ w6 ⟨rfl, hf_⟩
    replace hff := hff.trans hf_ (by simp)
    clear hf_
    rw [hg]
    go_wp2
    go_ret
    exact ⟨rfl, hff⟩
end Go.Proofs.Ytpbdngcngnkfmaa
