/- What the functions of package frame come to ('chk', 'nextR'). Conditions: numbers and strings within Go's. -/
import Derived.Test.YtlhkgalmiajinaaIn
import Derived.Test.YtlhkgalmiajinaaPure
namespace Go.Proofs.Ytlhkgalmiajinaa
open Go.RowKit

/-- May a first byte be? -/
def chk (k f : Int) : Bool := decide (1 ≤ k ∧ k ≤ 15 ∧ 0 ≤ f ∧ f ≤ 15) && (if k = 3 then decide (f / 2 % 4 ≠ 3 ∧ (f / 2 % 4 ≠ 0 ∨ f < 8)) else if k = 6 ∨ k = 8 ∨ k = 10 then decide (f = 2) else decide (f = 0))
def chkE (k f : Int) : Int := if chk k f = true then 0 else 2
theorem chkE_no (k f : Int) (h : chk k f = false) : chkE k f = 2 := by simp [chkE, h]
theorem chkE_ok (k f : Int) (h : chk k f = true) : chkE k f = 0 := by simp [chkE, h]
theorem and8 (f : Int) (h0 : 0 ≤ f) (h1 : f ≤ 15) : bits .and .i64 f 8 = if f < 8 then 0 else 8 := by
  obtain ⟨n, rfl⟩ := Int.eq_ofNat_of_zero_le h0
  have : n ≤ 15 := by omega
  match n, this with
  | 0, _ | 1, _ | 2, _ | 3, _ | 4, _ | 5, _ | 6, _ | 7, _ | 8, _ | 9, _ | 10, _ | 11, _ | 12, _ | 13, _ | 14, _ | 15, _ => decide +kernel
set_option maxHeartbeats 1000000 in
theorem check6_any (f : Int) (w : World) :
    Calls Try.prog 37 #[.int .i64 6, .int .i64 f] w fun e w' => e = .returned (.int .i64 (chkE 6 f)) ∧ w = w' := by
  by_cases h : f = 2
  · subst h
    go_enter Try.func37, Try.ntmps37
    go_wp2
    go_ret
    exact ⟨rfl, rfl⟩
  · have h1 : (f != 2) = true := by simpa using h
    have Hc : Hid (chkE 6 f = 2) := Lib.hid (chkE_no _ _ (by simp [chk, h]))
    go_enter Try.func37, Try.ntmps37
    go_wp2
    go_ret
    rw [Hc.out]
    exact ⟨rfl, rfl⟩
set_option maxHeartbeats 1000000 in
theorem check8_any (f : Int) (w : World) :
    Calls Try.prog 37 #[.int .i64 8, .int .i64 f] w fun e w' => e = .returned (.int .i64 (chkE 8 f)) ∧ w = w' := by
  by_cases h : f = 2
  · subst h
    go_enter Try.func37, Try.ntmps37
    go_wp2
    go_ret
    exact ⟨rfl, rfl⟩
  · have h1 : (f != 2) = true := by simpa using h
    have Hc : Hid (chkE 8 f = 2) := Lib.hid (chkE_no _ _ (by simp [chk, h]))
    go_enter Try.func37, Try.ntmps37
    go_wp2
    go_ret
    rw [Hc.out]
    exact ⟨rfl, rfl⟩
set_option maxHeartbeats 1000000 in
theorem check10_any (f : Int) (w : World) :
    Calls Try.prog 37 #[.int .i64 10, .int .i64 f] w fun e w' => e = .returned (.int .i64 (chkE 10 f)) ∧ w = w' := by
  by_cases h : f = 2
  · subst h
    go_enter Try.func37, Try.ntmps37
    go_wp2
    go_ret
    exact ⟨rfl, rfl⟩
  · have h1 : (f != 2) = true := by simpa using h
    have Hc : Hid (chkE 10 f = 2) := Lib.hid (chkE_no _ _ (by simp [chk, h]))
    go_enter Try.func37, Try.ntmps37
    go_wp2
    go_ret
    rw [Hc.out]
    exact ⟨rfl, rfl⟩
set_option maxHeartbeats 2000000 in
theorem check3_any (f : Int) (w : World) (g0 : -9223372036854775808 ≤ f) (g1 : f ≤ 9223372036854775807) :
    Calls Try.prog 37 #[.int .i64 3, .int .i64 f] w fun e w' => e = .returned (.int .i64 (chkE 3 f)) ∧ w = w' := by
  by_cases h0 : f < 0
  · have Hc : Hid (chkE 3 f = 2) := Lib.hid (chkE_no _ _ (by simp [chk]; omega))
    go_enter Try.func37, Try.ntmps37
    go_wp2
    go_ret
    rw [Hc.out]
    exact ⟨rfl, rfl⟩
  by_cases h1 : 15 < f
  · have Hc : Hid (chkE 3 f = 2) := Lib.hid (chkE_no _ _ (by simp [chk]; omega))
    go_enter Try.func37, Try.ntmps37
    go_wp2
    go_ret
    rw [Hc.out]
    exact ⟨rfl, rfl⟩
  have e1 := and_i64 2 (f / 2) 3 (by decide) (by decide) (by omega) (by omega)
  have e2 := and8 f (by omega) (by omega)
  by_cases a1 : (f / 2 % 4 = 3)
  · have Hc : Hid (chkE 3 f = 2) := Lib.hid (chkE_no _ _ (by simp [chk]; omega))
    have a2 : (f / 2 % 4 == 3) = true := by simpa using a1
    clear e2
    go_enter Try.func37, Try.ntmps37
    go_wp2
    go_ret
    rw [Hc.out]
    exact ⟨rfl, rfl⟩
  have a2 : (f / 2 % 4 == 3) = false := by simpa using a1
  by_cases b1 : f / 2 % 4 = 0
  · have b2 : (f / 2 % 4 == 0) = true := by simpa using b1
    by_cases c1 : f < 8
    · have Hc : Hid (chkE 3 f = 0) := Lib.hid (chkE_ok _ _ (by simp [chk]; omega))
      rw [if_pos c1] at e2
      go_enter Try.func37, Try.ntmps37
      go_wp2
      go_ret
      rw [Hc.out]
      exact ⟨rfl, rfl⟩
    · have Hc : Hid (chkE 3 f = 2) := Lib.hid (chkE_no _ _ (by simp [chk]; omega))
      rw [if_neg c1] at e2
      go_enter Try.func37, Try.ntmps37
      go_wp2
      go_ret
      rw [Hc.out]
      exact ⟨rfl, rfl⟩
  · have b2 : (f / 2 % 4 == 0) = false := by simpa using b1
    have Hc : Hid (chkE 3 f = 0) := Lib.hid (chkE_ok _ _ (by simp [chk]; omega))
    clear e2
    go_enter Try.func37, Try.ntmps37
    go_wp2
    go_ret
    rw [Hc.out]
    exact ⟨rfl, rfl⟩
set_option maxHeartbeats 2000000 in
theorem check_any (k f : Int) (w : World) (g0 : -9223372036854775808 ≤ f) (g1 : f ≤ 9223372036854775807) :
    Calls Try.prog 37 #[.int .i64 k, .int .i64 f] w fun e w' => e = .returned (.int .i64 (chkE k f)) ∧ w = w' := by
  by_cases k3 : k = 3
  · subst k3; exact check3_any f w g0 g1
  by_cases k6 : k = 6
  · subst k6; exact check6_any f w
  by_cases k8 : k = 8
  · subst k8; exact check8_any f w
  by_cases k10 : k = 10
  · subst k10; exact check10_any f w
  have h3 : (k == 3) = false := by simpa using k3
  have h6 : (k == 6) = false := by simpa using k6
  have h8 : (k == 8) = false := by simpa using k8
  have h10 : (k == 10) = false := by simpa using k10
  by_cases h0 : k < 1
  · have Hc : Hid (chkE k f = 2) := Lib.hid (chkE_no _ _ (by simp [chk]; omega))
    clear k3 k6 k8 k10
    go_enter Try.func37, Try.ntmps37
    go_wp2
    go_ret
    rw [Hc.out]
    exact ⟨rfl, rfl⟩
  by_cases h1 : 15 < k
  · have Hc : Hid (chkE k f = 2) := Lib.hid (chkE_no _ _ (by simp [chk]; omega))
    clear k3 k6 k8 k10
    go_enter Try.func37, Try.ntmps37
    go_wp2
    go_ret
    rw [Hc.out]
    exact ⟨rfl, rfl⟩
  by_cases hf : f = 0
  · have Hc : Hid (chkE k f = 0) := Lib.hid (chkE_ok _ _ (by simp [chk, k3, k6, k8, k10]; omega))
    subst hf
    clear k3 k6 k8 k10
    go_enter Try.func37, Try.ntmps37
    go_wp2
    go_ret
    rw [Hc.out]
    exact ⟨rfl, rfl⟩
  · have Hc : Hid (chkE k f = 2) := Lib.hid (chkE_no _ _ (by simp [chk, k3, k6, k8, k10]; omega))
    have hf1 : (f != 0) = true := by simpa using hf
    clear k3 k6 k8 k10
    go_enter Try.func37, Try.ntmps37
    go_wp2
    go_ret
    rw [Hc.out]
    exact ⟨rfl, rfl⟩

end Go.Proofs.Ytlhkgalmiajinaa
