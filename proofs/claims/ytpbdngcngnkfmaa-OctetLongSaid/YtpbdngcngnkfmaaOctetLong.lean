/- The walk of the law OctetLong. -/
import Derived.Test.YtpbdngcngnkfmaaLawA
import Derived.Test.YtpbdngcngnkfmaaPlainA
namespace Go.Proofs.Ytpbdngcngnkfmaa
open Go.RowKit

set_option maxHeartbeats 1000000 in
theorem octetLong_walk (a0 : Int) (a1 : Int) (w0 : (Lit.int .u32 a0).wf = true) (w1 : (Lit.int .u32 a1).wf = true) (w : World) :
    Calls Try.prog 6 #[.int .u32 a0, .int .u32 a1] w fun e w' => e = .returned (.bool true) ∧ Fr [] w w' := by
  obtain ⟨h0, h0'⟩ := wf_u32 w0
  obtain ⟨h1, h1'⟩ := wf_u32 w1
  clear w0 w1
  obtain ⟨A, hA, hA1⟩ : ∃ A : Nat, (if (268435455 : Int) < a0 then 268435455 else a0) = (A : Int) ∧ A ≤ 268435455 := ⟨(if (268435455 : Int) < a0 then 268435455 else a0).toNat, by split <;> omega, by split <;> omega⟩
  obtain ⟨B, hB, hB1⟩ : ∃ B : Nat, (if (268435455 : Int) < a1 then 268435455 else a1) = (B : Int) ∧ B ≤ 268435455 := ⟨(if (268435455 : Int) < a1 then 268435455 else a1).toNat, by split <;> omega, by split <;> omega⟩
  obtain ⟨X, hX, hX1⟩ : ∃ X : Nat, (if B < A then (B : Int) else A) = (X : Int) ∧ X = min A B := ⟨min A B, by split <;> omega, rfl⟩
  obtain ⟨Y, hY, hY1⟩ : ∃ Y : Nat, (if A < B then (B : Int) else A) = (Y : Int) ∧ Y = max A B := ⟨max A B, by split <;> omega, rfl⟩
  have hX2 : X ≤ 268435455 := by omega
  have hY2 : Y ≤ 268435455 := by omega
  have HX := Lib.hid hX1
  have HY := Lib.hid hY1
  clear hX1 hY1
  go_enter Try.func6, Try.ntmps6
  go_wp2_with fail
  refine (awake1_any w).mono ?_
  rintro e w1 ⟨rfl, hf1⟩
  go_wp2_with fail
  have hv := OutAt.new w1
  have hw := OutAt.new (w1.alloc (.cells #[.slice none 0 0] 36))
  have hv2 := hv.fr ((Fr.refl [] _).alloc (.cells #[.slice none 0 0] 36)) (by simp) (by simp)
  have hf2 : Fr [] w ((w1.alloc (.cells #[.slice none 0 0] 36)).alloc (.cells #[.slice none 0 0] 36)) := (hf1.alloc _).alloc _
  have hs0 : w.heap.size ≤ w1.heap.size := hf1.size
  clear hf1 hv
  rw [World.size_alloc] at hw
  refine (outvar_any _ _ [] X _ hv2 (by omega) (by omega) (by simp)).mono ?_
  rintro e w2 ⟨rfl, o2, h2, ho2, hf3⟩
  have hw2 := hw.fr hf3 (by simp) (by simp)
  go_wp2_with fail
  refine (outtext_any _ _ _ w2 h2).mono ?_
  rintro e w3 ⟨rfl, rfl⟩
  go_wp2_with fail
  refine (outvar_any _ _ [] Y _ hw2 (by omega) (by omega) (by simp)).mono ?_
  rintro e w3 ⟨rfl, o3, h3, ho3, hf4⟩
  go_wp2_with fail
  refine (outtext_any _ _ _ w3 h3).mono ?_
  rintro e w4 ⟨rfl, rfl⟩
  have hsz := hf3.size
  have hff : Fr [] w w3 := (hf2.trans hf3 (by simp; omega)).trans hf4 (by simp at *; omega)
  simp only [Int.toNat_natCast, List.nil_append]
  have e1 : (var X).length ≤ (var Y).length := var_mono X Y (by have := HX.out; have := HY.out; omega)
  have e2 : (((var Y).length : Nat) : Int) ≤ 4 := by have := var_len4 Y; omega
  have e3 : (var X == var Y) = ((A : Int) == (B : Int)) := by
    rw [Bool.eq_iff_iff]
    simp only [beq_iff_eq, Int.natCast_inj]
    have := HX.out
    have := HY.out
    constructor
    · intro h; have := var_inj hX2 hY2 h; omega
    · intro h; have : X = Y := by omega
      rw [this]
  clear h2 h3 hf2 hf3 hf4 hw hv2 hw2
  generalize var X = lx at *
  generalize var Y = ly at *
  go_wp2
  go_ret
  exact ⟨rfl, hff⟩
end Go.Proofs.Ytpbdngcngnkfmaa
