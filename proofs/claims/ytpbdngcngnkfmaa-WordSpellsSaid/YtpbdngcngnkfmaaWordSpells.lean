/- The walk of the law WordSpells. -/
import Derived.Test.YtpbdngcngnkfmaaLawB
import Derived.Test.YtpbdngcngnkfmaaPlainC
import Derived.Test.YtpbdngcngnkfmaaRefB
namespace Go.Proofs.Ytpbdngcngnkfmaa
open Go.RowKit

set_option maxRecDepth 100000 in
set_option maxHeartbeats 4000000 in
theorem wordSpells_walk (a0 : Int) (a1 : ByteArray) (w0 : (Lit.int .i64 a0).wf = true) (w1 : a1.size ≤ maxLen) (w : World) :
    Calls Try.prog 3 #[.int .i64 a0, .string a1] w fun e w' => e = .returned (.bool true) ∧ Fr [] w w' := by
  obtain ⟨s, rfl, hs⟩ := str_list a1
  obtain ⟨g0, g1⟩ := wf_i64 w0
  rw [← hs] at w1
  unfold maxLen at w1
  clear hs w0
  by_cases h0 : a0 < 0
  · skip
    go_enter Try.func3, Try.ntmps3
    go_wp2_with fail
    refine (cut_any s 20 w (by omega) (by decide)).mono ?_
    rintro _ w1 ⟨rfl, rfl⟩
    rw [show (20 : Int).toNat = 20 from rfl]
    have hk : (s.take 20).length ≤ 20 := List.length_take_le _ _
    go_wp2_with fail
    refine (awake2_any w).mono ?_
    rintro _ w1 ⟨rfl, hff⟩
    go_wp2_with fail
    refine (awake2_any _).mono ?_
    rintro _ w2 ⟨rfl, hf_⟩
    replace hff := hff.trans hf_ (by simp)
    go_wp2
    go_ret
    exact ⟨rfl, hff⟩
  by_cases h1 : 2097151 < a0
  · skip
    go_enter Try.func3, Try.ntmps3
    go_wp2_with fail
    refine (cut_any s 20 w (by omega) (by decide)).mono ?_
    rintro _ w1 ⟨rfl, rfl⟩
    rw [show (20 : Int).toNat = 20 from rfl]
    have hk : (s.take 20).length ≤ 20 := List.length_take_le _ _
    go_wp2_with fail
    refine (awake2_any w).mono ?_
    rintro _ w1 ⟨rfl, hff⟩
    go_wp2_with fail
    refine (awake2_any _).mono ?_
    rintro _ w2 ⟨rfl, hf_⟩
    replace hff := hff.trans hf_ (by simp)
    go_wp2
    go_ret
    exact ⟨rfl, hff⟩
  obtain ⟨v, rfl⟩ := Int.eq_ofNat_of_zero_le (show 0 ≤ a0 by omega)
  have hsl := spell_pos v
  have k0 : decide ((v : Int) < 0) = false := decide_eq_false h0
  have k1 : decide (2097151 < (v : Int)) = false := decide_eq_false h1
  have HB := Lib.hid (show v ≤ 2097151 by omega)
  have HV := Lib.hid (show (v : Int) ≤ 9223372036854775807 from g1)
  by_cases ho : ((v : Int) ≤ 1114111 ∧ (v : Int) < 55296)
  · have Hs := Lib.hid (spell_sign v (by unfold okr; omega) (s.take 20))
    have Hc := Lib.hid (spell_cut v (by omega))
    have d1 : decide ((v : Int) ≤ 1114111) = true := decide_eq_true ho.1
    have d2 : (decide ((v : Int) < 55296) = true) := by simp; omega
    clear ho h0 h1
    go_enter Try.func3, Try.ntmps3
    go_wp2_with fail
    refine (cut_any s 20 w (by omega) (by decide)).mono ?_
    rintro _ w1 ⟨rfl, rfl⟩
    rw [show (20 : Int).toNat = 20 from rfl]
    have hk : (s.take 20).length ≤ 20 := List.length_take_le _ _
    go_wp2_with fail
    refine (awake2_any w).mono ?_
    rintro _ w1 ⟨rfl, hff⟩
    go_wp2_with fail
    refine (spell_any v _ (by have := HB.out; omega)).mono ?_
    rintro _ w2 ⟨rfl, hf_⟩
    replace hff := hff.trans hf_ (by simp)
    clear hf_
    go_wp2_with fail
    rw [ByteArray.mk_append_mk]
    refine (sign_any _ _ (by rw [List.length_append]; omega)).mono ?_
    rintro _ w3 ⟨rfl, hf_⟩
    replace hff := hff.trans hf_ (by simp)
    clear hf_
    rw [Hs.out]
    go_wp2_with fail
    rw [ex_take]
    refine (sign_any _ _ (by rw [List.length_take]; omega)).mono ?_
    rintro _ w4 ⟨rfl, hf_⟩
    replace hff := hff.trans hf_ (by simp)
    clear hf_
    rw [Hc.out]
    go_wp2
    go_ret
    exact ⟨rfl, hff⟩
  by_cases hp : ((v : Int) ≤ 1114111 ∧ 57343 < (v : Int))
  · have Hs := Lib.hid (spell_sign v (by unfold okr; omega) (s.take 20))
    have Hc := Lib.hid (spell_cut v (by omega))
    have d1 : decide ((v : Int) ≤ 1114111) = true := decide_eq_true hp.1
    have d2 : (decide ((v : Int) < 55296) = false ∧ decide (57343 < (v : Int)) = true) := by simp; omega
    clear hp h0 h1
    go_enter Try.func3, Try.ntmps3
    go_wp2_with fail
    refine (cut_any s 20 w (by omega) (by decide)).mono ?_
    rintro _ w1 ⟨rfl, rfl⟩
    rw [show (20 : Int).toNat = 20 from rfl]
    have hk : (s.take 20).length ≤ 20 := List.length_take_le _ _
    go_wp2_with fail
    refine (awake2_any w).mono ?_
    rintro _ w1 ⟨rfl, hff⟩
    go_wp2_with fail
    refine (spell_any v _ (by have := HB.out; omega)).mono ?_
    rintro _ w2 ⟨rfl, hf_⟩
    replace hff := hff.trans hf_ (by simp)
    clear hf_
    go_wp2_with fail
    rw [ByteArray.mk_append_mk]
    refine (sign_any _ _ (by rw [List.length_append]; omega)).mono ?_
    rintro _ w3 ⟨rfl, hf_⟩
    replace hff := hff.trans hf_ (by simp)
    clear hf_
    rw [Hs.out]
    go_wp2_with fail
    rw [ex_take]
    refine (sign_any _ _ (by rw [List.length_take]; omega)).mono ?_
    rintro _ w4 ⟨rfl, hf_⟩
    replace hff := hff.trans hf_ (by simp)
    clear hf_
    rw [Hc.out]
    go_wp2
    go_ret
    exact ⟨rfl, hff⟩
  have hno : ¬ okr v := by unfold okr; omega
  have Hs := Lib.hid (spell_bad v (by omega) hno (s.take 20))
  clear hno
  by_cases hq : ((v : Int) ≤ 1114111)
  · have d1 : (decide ((v : Int) ≤ 1114111) = true ∧ decide ((v : Int) < 55296) = false ∧ decide (57343 < (v : Int)) = false) := by simp; omega
    clear hq h0 h1 ho hp
    go_enter Try.func3, Try.ntmps3
    go_wp2_with fail
    refine (cut_any s 20 w (by omega) (by decide)).mono ?_
    rintro _ w1 ⟨rfl, rfl⟩
    rw [show (20 : Int).toNat = 20 from rfl]
    have hk : (s.take 20).length ≤ 20 := List.length_take_le _ _
    go_wp2_with fail
    refine (awake2_any w).mono ?_
    rintro _ w1 ⟨rfl, hff⟩
    go_wp2_with fail
    refine (spell_any v _ (by have := HB.out; omega)).mono ?_
    rintro _ w2 ⟨rfl, hf_⟩
    replace hff := hff.trans hf_ (by simp)
    clear hf_
    go_wp2_with fail
    rw [ByteArray.mk_append_mk]
    refine (sign_any _ _ (by rw [List.length_append]; omega)).mono ?_
    rintro _ w3 ⟨rfl, hf_⟩
    replace hff := hff.trans hf_ (by simp)
    clear hf_
    rw [Hs.out]
    go_wp2
    go_ret
    exact ⟨rfl, hff⟩
  by_cases hr : (¬ (v : Int) ≤ 1114111)
  · have d1 : (decide ((v : Int) ≤ 1114111) = false) := by simp; omega
    clear hr h0 h1 ho hp
    go_enter Try.func3, Try.ntmps3
    go_wp2_with fail
    refine (cut_any s 20 w (by omega) (by decide)).mono ?_
    rintro _ w1 ⟨rfl, rfl⟩
    rw [show (20 : Int).toNat = 20 from rfl]
    have hk : (s.take 20).length ≤ 20 := List.length_take_le _ _
    go_wp2_with fail
    refine (awake2_any w).mono ?_
    rintro _ w1 ⟨rfl, hff⟩
    go_wp2_with fail
    refine (spell_any v _ (by have := HB.out; omega)).mono ?_
    rintro _ w2 ⟨rfl, hf_⟩
    replace hff := hff.trans hf_ (by simp)
    clear hf_
    go_wp2_with fail
    rw [ByteArray.mk_append_mk]
    refine (sign_any _ _ (by rw [List.length_append]; omega)).mono ?_
    rintro _ w3 ⟨rfl, hf_⟩
    replace hff := hff.trans hf_ (by simp)
    clear hf_
    rw [Hs.out]
    go_wp2
    go_ret
    exact ⟨rfl, hff⟩
  exact (hr hq).elim
end Go.Proofs.Ytpbdngcngnkfmaa
