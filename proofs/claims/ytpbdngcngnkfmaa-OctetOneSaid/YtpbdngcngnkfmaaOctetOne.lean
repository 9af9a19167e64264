/- The walk of the law OctetOne. -/
import Derived.Test.YtpbdngcngnkfmaaLawA
import Derived.Test.YtpbdngcngnkfmaaPlainA
namespace Go.Proofs.Ytpbdngcngnkfmaa
open Go.RowKit

set_option maxHeartbeats 1000000 in
theorem octetOne_walk (a0 : ByteArray) (w0 : a0.size ≤ maxLen) (w : World) :
    Calls Try.prog 8 #[.string a0] w fun e w' => e = .returned (.bool true) ∧ Fr [] w w' := by
  obtain ⟨s, rfl, hs⟩ := str_list a0
  rw [← hs] at w0
  unfold maxLen at w0
  clear hs
  go_enter Try.func8, Try.ntmps8
  go_wp2_with fail
  refine (cut_any s 9 w (by omega) (by decide)).mono ?_
  rintro _ w1 ⟨rfl, rfl⟩
  rw [show (9 : Int).toNat = 9 from rfl]
  have hl : (s.take 9).length ≤ 9 := List.length_take_le _ _
  generalize s.take 9 = l at *
  go_wp2_with fail
  refine (awake1_any w).mono ?_
  rintro _ w1 ⟨rfl, hf1⟩
  go_wp2_with fail
  refine (over_any l w1).mono ?_
  rintro _ w2 ⟨rfl, hi2, hf2⟩
  have hb0 := hf1.size
  have hff := hf1.trans hf2 (by simp)
  clear hf1 hf2
  go_wp2_with fail
  refine (invar_any _ _ w2 hi2 (by simp; omega)).mono ?_
  rintro _ w3 ⟨rfl, hi3, hf3⟩
  have hff := hff.trans hf3 (by simp; omega)
  clear hf3 hi2
  obtain ⟨⟨n, q⟩, hq⟩ : ∃ x, Rd.var ⟨l, 0⟩ = x := ⟨_, rfl⟩
  have hqe := var_err ⟨l, 0⟩
  have hone := var_one l n q hq
  rw [hq] at hi3 hqe ⊢
  simp only at hi3 hqe
  clear hq
  go_wp2_with fail
  refine (err_any _ _ w3 hi3).mono ?_
  rintro _ w4 ⟨rfl, rfl⟩
  by_cases he : q.e = 0
  · obtain ⟨h1, h2⟩ := hone he
    have e1 : (q.e != 0) = false := by simpa using he
    have Hq := Lib.hid he
    have H1 := Lib.hid h1
    have hql : q.s.length ≤ 9 := by rw [h1] at hl; simp at hl; omega
    clear hqe hone he h1
    have hv := var_len4 n
    go_wp2_with fail
    refine (outvar_any _ _ [] n _ (OutAt.new w3) (by omega) (by omega) (by simp)).mono ?_
    rintro _ w4 ⟨rfl, o4, h4, ho4, hf4⟩
    rw [Int.toNat_natCast, List.nil_append] at h4
    have hi3' := hi3.fr ((Fr.refl [] w3).alloc (.cells #[.slice none 0 0] 36)) (by simp)
    have hlt := hi3.facts.2.2.2.2
    have hi4 := hi3'.fr hf4 (by simp; omega)
    have hs3 := hff.size
    have hff4 : Fr [] w w4 := (hff.alloc _).trans hf4 (by simp; omega)
    clear hff hf4 hi3' hi3
    go_wp2_with fail
    refine (outtext_any _ _ _ w4 h4).mono ?_
    rintro _ w5 ⟨rfl, rfl⟩
    go_wp2_with fail
    refine (rest_any _ _ w4 hi4 (by omega)).mono ?_
    rintro _ w5 ⟨rfl, hi5, hf5⟩
    have h5 := h4.fr hf5 (by simp; omega) (by simp; have := hff4.size; rcases ho4 with rfl | h <;> (try simp at h) <;> omega)
    have hff5 := hff4.trans hf5 (by simp; omega)
    rw [Rd.raw_ok q _ Hq.out (Nat.le_refl _), List.take_length]
    have hcat : (ByteArray.mk (var n).toArray ++ ByteArray.mk q.s.toArray) = ByteArray.mk l.toArray := by rw [ByteArray.mk_append_mk, H1.out]
    go_wp2_with fail
    refine (size_any n w5 (by omega) (by omega)).mono ?_
    rintro _ w6 ⟨rfl, hf6⟩
    rw [Int.toNat_natCast]
    have h6 := h5.fr hf6 (by simp) (by simp)
    have hff6 := hff5.trans hf6 (by simp)
    go_wp2_with fail
    refine (outlen_any _ _ _ w6 h6).mono ?_
    rintro _ w7 ⟨rfl, rfl⟩
    have h2' : (n : Int) ≤ 268435455 := by omega
    go_wp2
    go_ret
    exact ⟨rfl, hff6⟩
  · have e1 : (q.e != 0) = true := by simpa using he
    have hn := hqe he
    subst hn
    go_wp2
    go_ret
    exact ⟨rfl, hff⟩
end Go.Proofs.Ytpbdngcngnkfmaa
