/- What Kind, where, letter, in, May, says of the reference of layer 3 come to. No condition. -/
import Derived.Test.YtlhkgalmiajinaaPropE
import Derived.Test.YtlhkgalmiajinaaWord
namespace Go.Proofs.Ytlhkgalmiajinaa
open Go.RowKit

/-- The packets of an identifier, a letter each. -/
def whereS (id : Int) : List UInt8 := if id = 1 then [80, 119] else if id = 2 then [80, 119] else if id = 3 then [80, 119] else if id = 8 then [80, 119] else if id = 9 then [80, 119] else if id = 11 then [80, 115] else if id = 17 then [67, 99, 100] else if id = 18 then [99] else if id = 19 then [99] else if id = 21 then [67, 99, 97] else if id = 22 then [67, 99, 97] else if id = 23 then [67] else if id = 25 then [67] else if id = 24 then [119] else if id = 26 then [99] else if id = 28 then [99, 100] else if id = 31 then [99, 52, 53, 54, 55, 116, 118, 100, 97] else if id = 33 then [67, 99] else if id = 34 then [67, 99] else if id = 35 then [80] else if id = 36 then [99] else if id = 37 then [99] else if id = 40 then [99] else if id = 41 then [99] else if id = 42 then [99] else if id = 38 then [67, 99, 80, 119, 52, 53, 54, 55, 115, 116, 117, 118, 100, 97] else if id = 39 then [67, 99] else []
def letterC (kind : Int) (isWill : Bool) : UInt8 := if isWill = true then 119 else if kind < 1 ∨ 15 < kind ∨ kind = 12 ∨ kind = 13 then 45 else [46, 67, 99, 80, 52, 53, 54, 55, 115, 116, 117, 118, 46, 46, 100, 97].getD kind.toNat 0
theorem rkind1_any (w : World) : Calls Try.prog 91 #[.int .i64 1] w fun e w' => e = .returned (.int .i64 (ruleOf 1).kind) ∧ w = w' := by
  go_enter Try.func91, Try.ntmps91
  go_wp2
  go_ret
  exact ⟨rfl, rfl⟩
theorem where1_any (w : World) : Calls Try.prog 121 #[.int .i64 1] w fun e w' => e = .returned (.string ⟨(whereS 1).toArray⟩) ∧ w = w' := by
  go_enter Try.func121, Try.ntmps121
  go_wp2
  go_ret
  exact ⟨rfl, rfl⟩
theorem rkind2_any (w : World) : Calls Try.prog 91 #[.int .i64 2] w fun e w' => e = .returned (.int .i64 (ruleOf 2).kind) ∧ w = w' := by
  go_enter Try.func91, Try.ntmps91
  go_wp2
  go_ret
  exact ⟨rfl, rfl⟩
theorem where2_any (w : World) : Calls Try.prog 121 #[.int .i64 2] w fun e w' => e = .returned (.string ⟨(whereS 2).toArray⟩) ∧ w = w' := by
  go_enter Try.func121, Try.ntmps121
  go_wp2
  go_ret
  exact ⟨rfl, rfl⟩
theorem rkind3_any (w : World) : Calls Try.prog 91 #[.int .i64 3] w fun e w' => e = .returned (.int .i64 (ruleOf 3).kind) ∧ w = w' := by
  go_enter Try.func91, Try.ntmps91
  go_wp2
  go_ret
  exact ⟨rfl, rfl⟩
theorem where3_any (w : World) : Calls Try.prog 121 #[.int .i64 3] w fun e w' => e = .returned (.string ⟨(whereS 3).toArray⟩) ∧ w = w' := by
  go_enter Try.func121, Try.ntmps121
  go_wp2
  go_ret
  exact ⟨rfl, rfl⟩
theorem rkind8_any (w : World) : Calls Try.prog 91 #[.int .i64 8] w fun e w' => e = .returned (.int .i64 (ruleOf 8).kind) ∧ w = w' := by
  go_enter Try.func91, Try.ntmps91
  go_wp2
  go_ret
  exact ⟨rfl, rfl⟩
theorem where8_any (w : World) : Calls Try.prog 121 #[.int .i64 8] w fun e w' => e = .returned (.string ⟨(whereS 8).toArray⟩) ∧ w = w' := by
  go_enter Try.func121, Try.ntmps121
  go_wp2
  go_ret
  exact ⟨rfl, rfl⟩
theorem rkind9_any (w : World) : Calls Try.prog 91 #[.int .i64 9] w fun e w' => e = .returned (.int .i64 (ruleOf 9).kind) ∧ w = w' := by
  go_enter Try.func91, Try.ntmps91
  go_wp2
  go_ret
  exact ⟨rfl, rfl⟩
theorem where9_any (w : World) : Calls Try.prog 121 #[.int .i64 9] w fun e w' => e = .returned (.string ⟨(whereS 9).toArray⟩) ∧ w = w' := by
  go_enter Try.func121, Try.ntmps121
  go_wp2
  go_ret
  exact ⟨rfl, rfl⟩
theorem rkind11_any (w : World) : Calls Try.prog 91 #[.int .i64 11] w fun e w' => e = .returned (.int .i64 (ruleOf 11).kind) ∧ w = w' := by
  go_enter Try.func91, Try.ntmps91
  go_wp2
  go_ret
  exact ⟨rfl, rfl⟩
theorem where11_any (w : World) : Calls Try.prog 121 #[.int .i64 11] w fun e w' => e = .returned (.string ⟨(whereS 11).toArray⟩) ∧ w = w' := by
  go_enter Try.func121, Try.ntmps121
  go_wp2
  go_ret
  exact ⟨rfl, rfl⟩
theorem rkind17_any (w : World) : Calls Try.prog 91 #[.int .i64 17] w fun e w' => e = .returned (.int .i64 (ruleOf 17).kind) ∧ w = w' := by
  go_enter Try.func91, Try.ntmps91
  go_wp2
  go_ret
  exact ⟨rfl, rfl⟩
theorem where17_any (w : World) : Calls Try.prog 121 #[.int .i64 17] w fun e w' => e = .returned (.string ⟨(whereS 17).toArray⟩) ∧ w = w' := by
  go_enter Try.func121, Try.ntmps121
  go_wp2
  go_ret
  exact ⟨rfl, rfl⟩
theorem rkind18_any (w : World) : Calls Try.prog 91 #[.int .i64 18] w fun e w' => e = .returned (.int .i64 (ruleOf 18).kind) ∧ w = w' := by
  go_enter Try.func91, Try.ntmps91
  go_wp2
  go_ret
  exact ⟨rfl, rfl⟩
theorem where18_any (w : World) : Calls Try.prog 121 #[.int .i64 18] w fun e w' => e = .returned (.string ⟨(whereS 18).toArray⟩) ∧ w = w' := by
  go_enter Try.func121, Try.ntmps121
  go_wp2
  go_ret
  exact ⟨rfl, rfl⟩
theorem rkind19_any (w : World) : Calls Try.prog 91 #[.int .i64 19] w fun e w' => e = .returned (.int .i64 (ruleOf 19).kind) ∧ w = w' := by
  go_enter Try.func91, Try.ntmps91
  go_wp2
  go_ret
  exact ⟨rfl, rfl⟩
theorem where19_any (w : World) : Calls Try.prog 121 #[.int .i64 19] w fun e w' => e = .returned (.string ⟨(whereS 19).toArray⟩) ∧ w = w' := by
  go_enter Try.func121, Try.ntmps121
  go_wp2
  go_ret
  exact ⟨rfl, rfl⟩
theorem rkind21_any (w : World) : Calls Try.prog 91 #[.int .i64 21] w fun e w' => e = .returned (.int .i64 (ruleOf 21).kind) ∧ w = w' := by
  go_enter Try.func91, Try.ntmps91
  go_wp2
  go_ret
  exact ⟨rfl, rfl⟩
theorem where21_any (w : World) : Calls Try.prog 121 #[.int .i64 21] w fun e w' => e = .returned (.string ⟨(whereS 21).toArray⟩) ∧ w = w' := by
  go_enter Try.func121, Try.ntmps121
  go_wp2
  go_ret
  exact ⟨rfl, rfl⟩
theorem rkind22_any (w : World) : Calls Try.prog 91 #[.int .i64 22] w fun e w' => e = .returned (.int .i64 (ruleOf 22).kind) ∧ w = w' := by
  go_enter Try.func91, Try.ntmps91
  go_wp2
  go_ret
  exact ⟨rfl, rfl⟩
theorem where22_any (w : World) : Calls Try.prog 121 #[.int .i64 22] w fun e w' => e = .returned (.string ⟨(whereS 22).toArray⟩) ∧ w = w' := by
  go_enter Try.func121, Try.ntmps121
  go_wp2
  go_ret
  exact ⟨rfl, rfl⟩
theorem rkind23_any (w : World) : Calls Try.prog 91 #[.int .i64 23] w fun e w' => e = .returned (.int .i64 (ruleOf 23).kind) ∧ w = w' := by
  go_enter Try.func91, Try.ntmps91
  go_wp2
  go_ret
  exact ⟨rfl, rfl⟩
theorem where23_any (w : World) : Calls Try.prog 121 #[.int .i64 23] w fun e w' => e = .returned (.string ⟨(whereS 23).toArray⟩) ∧ w = w' := by
  go_enter Try.func121, Try.ntmps121
  go_wp2
  go_ret
  exact ⟨rfl, rfl⟩
theorem rkind25_any (w : World) : Calls Try.prog 91 #[.int .i64 25] w fun e w' => e = .returned (.int .i64 (ruleOf 25).kind) ∧ w = w' := by
  go_enter Try.func91, Try.ntmps91
  go_wp2
  go_ret
  exact ⟨rfl, rfl⟩
theorem where25_any (w : World) : Calls Try.prog 121 #[.int .i64 25] w fun e w' => e = .returned (.string ⟨(whereS 25).toArray⟩) ∧ w = w' := by
  go_enter Try.func121, Try.ntmps121
  go_wp2
  go_ret
  exact ⟨rfl, rfl⟩
theorem rkind24_any (w : World) : Calls Try.prog 91 #[.int .i64 24] w fun e w' => e = .returned (.int .i64 (ruleOf 24).kind) ∧ w = w' := by
  go_enter Try.func91, Try.ntmps91
  go_wp2
  go_ret
  exact ⟨rfl, rfl⟩
theorem where24_any (w : World) : Calls Try.prog 121 #[.int .i64 24] w fun e w' => e = .returned (.string ⟨(whereS 24).toArray⟩) ∧ w = w' := by
  go_enter Try.func121, Try.ntmps121
  go_wp2
  go_ret
  exact ⟨rfl, rfl⟩
theorem rkind26_any (w : World) : Calls Try.prog 91 #[.int .i64 26] w fun e w' => e = .returned (.int .i64 (ruleOf 26).kind) ∧ w = w' := by
  go_enter Try.func91, Try.ntmps91
  go_wp2
  go_ret
  exact ⟨rfl, rfl⟩
theorem where26_any (w : World) : Calls Try.prog 121 #[.int .i64 26] w fun e w' => e = .returned (.string ⟨(whereS 26).toArray⟩) ∧ w = w' := by
  go_enter Try.func121, Try.ntmps121
  go_wp2
  go_ret
  exact ⟨rfl, rfl⟩
theorem rkind28_any (w : World) : Calls Try.prog 91 #[.int .i64 28] w fun e w' => e = .returned (.int .i64 (ruleOf 28).kind) ∧ w = w' := by
  go_enter Try.func91, Try.ntmps91
  go_wp2
  go_ret
  exact ⟨rfl, rfl⟩
theorem where28_any (w : World) : Calls Try.prog 121 #[.int .i64 28] w fun e w' => e = .returned (.string ⟨(whereS 28).toArray⟩) ∧ w = w' := by
  go_enter Try.func121, Try.ntmps121
  go_wp2
  go_ret
  exact ⟨rfl, rfl⟩
theorem rkind31_any (w : World) : Calls Try.prog 91 #[.int .i64 31] w fun e w' => e = .returned (.int .i64 (ruleOf 31).kind) ∧ w = w' := by
  go_enter Try.func91, Try.ntmps91
  go_wp2
  go_ret
  exact ⟨rfl, rfl⟩
theorem where31_any (w : World) : Calls Try.prog 121 #[.int .i64 31] w fun e w' => e = .returned (.string ⟨(whereS 31).toArray⟩) ∧ w = w' := by
  go_enter Try.func121, Try.ntmps121
  go_wp2
  go_ret
  exact ⟨rfl, rfl⟩
theorem rkind33_any (w : World) : Calls Try.prog 91 #[.int .i64 33] w fun e w' => e = .returned (.int .i64 (ruleOf 33).kind) ∧ w = w' := by
  go_enter Try.func91, Try.ntmps91
  go_wp2
  go_ret
  exact ⟨rfl, rfl⟩
theorem where33_any (w : World) : Calls Try.prog 121 #[.int .i64 33] w fun e w' => e = .returned (.string ⟨(whereS 33).toArray⟩) ∧ w = w' := by
  go_enter Try.func121, Try.ntmps121
  go_wp2
  go_ret
  exact ⟨rfl, rfl⟩
theorem rkind34_any (w : World) : Calls Try.prog 91 #[.int .i64 34] w fun e w' => e = .returned (.int .i64 (ruleOf 34).kind) ∧ w = w' := by
  go_enter Try.func91, Try.ntmps91
  go_wp2
  go_ret
  exact ⟨rfl, rfl⟩
theorem where34_any (w : World) : Calls Try.prog 121 #[.int .i64 34] w fun e w' => e = .returned (.string ⟨(whereS 34).toArray⟩) ∧ w = w' := by
  go_enter Try.func121, Try.ntmps121
  go_wp2
  go_ret
  exact ⟨rfl, rfl⟩
theorem rkind35_any (w : World) : Calls Try.prog 91 #[.int .i64 35] w fun e w' => e = .returned (.int .i64 (ruleOf 35).kind) ∧ w = w' := by
  go_enter Try.func91, Try.ntmps91
  go_wp2
  go_ret
  exact ⟨rfl, rfl⟩
theorem where35_any (w : World) : Calls Try.prog 121 #[.int .i64 35] w fun e w' => e = .returned (.string ⟨(whereS 35).toArray⟩) ∧ w = w' := by
  go_enter Try.func121, Try.ntmps121
  go_wp2
  go_ret
  exact ⟨rfl, rfl⟩
theorem rkind36_any (w : World) : Calls Try.prog 91 #[.int .i64 36] w fun e w' => e = .returned (.int .i64 (ruleOf 36).kind) ∧ w = w' := by
  go_enter Try.func91, Try.ntmps91
  go_wp2
  go_ret
  exact ⟨rfl, rfl⟩
theorem where36_any (w : World) : Calls Try.prog 121 #[.int .i64 36] w fun e w' => e = .returned (.string ⟨(whereS 36).toArray⟩) ∧ w = w' := by
  go_enter Try.func121, Try.ntmps121
  go_wp2
  go_ret
  exact ⟨rfl, rfl⟩
theorem rkind37_any (w : World) : Calls Try.prog 91 #[.int .i64 37] w fun e w' => e = .returned (.int .i64 (ruleOf 37).kind) ∧ w = w' := by
  go_enter Try.func91, Try.ntmps91
  go_wp2
  go_ret
  exact ⟨rfl, rfl⟩
theorem where37_any (w : World) : Calls Try.prog 121 #[.int .i64 37] w fun e w' => e = .returned (.string ⟨(whereS 37).toArray⟩) ∧ w = w' := by
  go_enter Try.func121, Try.ntmps121
  go_wp2
  go_ret
  exact ⟨rfl, rfl⟩
theorem rkind40_any (w : World) : Calls Try.prog 91 #[.int .i64 40] w fun e w' => e = .returned (.int .i64 (ruleOf 40).kind) ∧ w = w' := by
  go_enter Try.func91, Try.ntmps91
  go_wp2
  go_ret
  exact ⟨rfl, rfl⟩
theorem where40_any (w : World) : Calls Try.prog 121 #[.int .i64 40] w fun e w' => e = .returned (.string ⟨(whereS 40).toArray⟩) ∧ w = w' := by
  go_enter Try.func121, Try.ntmps121
  go_wp2
  go_ret
  exact ⟨rfl, rfl⟩
theorem rkind41_any (w : World) : Calls Try.prog 91 #[.int .i64 41] w fun e w' => e = .returned (.int .i64 (ruleOf 41).kind) ∧ w = w' := by
  go_enter Try.func91, Try.ntmps91
  go_wp2
  go_ret
  exact ⟨rfl, rfl⟩
theorem where41_any (w : World) : Calls Try.prog 121 #[.int .i64 41] w fun e w' => e = .returned (.string ⟨(whereS 41).toArray⟩) ∧ w = w' := by
  go_enter Try.func121, Try.ntmps121
  go_wp2
  go_ret
  exact ⟨rfl, rfl⟩
theorem rkind42_any (w : World) : Calls Try.prog 91 #[.int .i64 42] w fun e w' => e = .returned (.int .i64 (ruleOf 42).kind) ∧ w = w' := by
  go_enter Try.func91, Try.ntmps91
  go_wp2
  go_ret
  exact ⟨rfl, rfl⟩
theorem where42_any (w : World) : Calls Try.prog 121 #[.int .i64 42] w fun e w' => e = .returned (.string ⟨(whereS 42).toArray⟩) ∧ w = w' := by
  go_enter Try.func121, Try.ntmps121
  go_wp2
  go_ret
  exact ⟨rfl, rfl⟩
theorem rkind38_any (w : World) : Calls Try.prog 91 #[.int .i64 38] w fun e w' => e = .returned (.int .i64 (ruleOf 38).kind) ∧ w = w' := by
  go_enter Try.func91, Try.ntmps91
  go_wp2
  go_ret
  exact ⟨rfl, rfl⟩
theorem where38_any (w : World) : Calls Try.prog 121 #[.int .i64 38] w fun e w' => e = .returned (.string ⟨(whereS 38).toArray⟩) ∧ w = w' := by
  go_enter Try.func121, Try.ntmps121
  go_wp2
  go_ret
  exact ⟨rfl, rfl⟩
theorem rkind39_any (w : World) : Calls Try.prog 91 #[.int .i64 39] w fun e w' => e = .returned (.int .i64 (ruleOf 39).kind) ∧ w = w' := by
  go_enter Try.func91, Try.ntmps91
  go_wp2
  go_ret
  exact ⟨rfl, rfl⟩
theorem where39_any (w : World) : Calls Try.prog 121 #[.int .i64 39] w fun e w' => e = .returned (.string ⟨(whereS 39).toArray⟩) ∧ w = w' := by
  go_enter Try.func121, Try.ntmps121
  go_wp2
  go_ret
  exact ⟨rfl, rfl⟩
set_option maxHeartbeats 1000000 in
set_option maxRecDepth 100000 in
theorem rkind0_any (id : Int) (w : World) (h1 : ¬ id = 1) (h2 : ¬ id = 2) (h3 : ¬ id = 3) (h8 : ¬ id = 8) (h9 : ¬ id = 9) (h11 : ¬ id = 11) (h17 : ¬ id = 17) (h18 : ¬ id = 18) (h19 : ¬ id = 19) (h21 : ¬ id = 21) (h22 : ¬ id = 22) (h23 : ¬ id = 23) (h25 : ¬ id = 25) (h24 : ¬ id = 24) (h26 : ¬ id = 26) (h28 : ¬ id = 28) (h31 : ¬ id = 31) (h33 : ¬ id = 33) (h34 : ¬ id = 34) (h35 : ¬ id = 35) (h36 : ¬ id = 36) (h37 : ¬ id = 37) (h40 : ¬ id = 40) (h41 : ¬ id = 41) (h42 : ¬ id = 42) (h38 : ¬ id = 38) (h39 : ¬ id = 39) : Calls Try.prog 91 #[.int .i64 id] w fun e w' => e = .returned (.int .i64 (ruleOf id).kind) ∧ w = w' := by
  have e : Hid ((ruleOf id).kind = 0) := Lib.hid (by
    unfold ruleOf
    rw [if_neg h1, if_neg h2, if_neg h3, if_neg h8, if_neg h9, if_neg h11, if_neg h17, if_neg h18, if_neg h19, if_neg h21, if_neg h22, if_neg h23, if_neg h25, if_neg h24, if_neg h26, if_neg h28, if_neg h31, if_neg h33, if_neg h34, if_neg h35, if_neg h36, if_neg h37, if_neg h40, if_neg h41, if_neg h42, if_neg h38, if_neg h39])
  have n1 : (id == 1) = false := by simpa using h1
  have n2 : (id == 2) = false := by simpa using h2
  have n3 : (id == 3) = false := by simpa using h3
  have n8 : (id == 8) = false := by simpa using h8
  have n9 : (id == 9) = false := by simpa using h9
  have n11 : (id == 11) = false := by simpa using h11
  have n17 : (id == 17) = false := by simpa using h17
  have n18 : (id == 18) = false := by simpa using h18
  have n19 : (id == 19) = false := by simpa using h19
  have n21 : (id == 21) = false := by simpa using h21
  have n22 : (id == 22) = false := by simpa using h22
  have n23 : (id == 23) = false := by simpa using h23
  have n25 : (id == 25) = false := by simpa using h25
  have n24 : (id == 24) = false := by simpa using h24
  have n26 : (id == 26) = false := by simpa using h26
  have n28 : (id == 28) = false := by simpa using h28
  have n31 : (id == 31) = false := by simpa using h31
  have n33 : (id == 33) = false := by simpa using h33
  have n34 : (id == 34) = false := by simpa using h34
  have n35 : (id == 35) = false := by simpa using h35
  have n36 : (id == 36) = false := by simpa using h36
  have n37 : (id == 37) = false := by simpa using h37
  have n40 : (id == 40) = false := by simpa using h40
  have n41 : (id == 41) = false := by simpa using h41
  have n42 : (id == 42) = false := by simpa using h42
  have n38 : (id == 38) = false := by simpa using h38
  have n39 : (id == 39) = false := by simpa using h39
  clear h1 h2 h3 h8 h9 h11 h17 h18 h19 h21 h22 h23 h25 h24 h26 h28 h31 h33 h34 h35 h36 h37 h40 h41 h42 h38 h39
  go_enter Try.func91, Try.ntmps91
  go_wp2
  go_ret
  rw [e.out]
  exact ⟨rfl, rfl⟩
theorem rkind_any (id : Int) (w : World) : Calls Try.prog 91 #[.int .i64 id] w fun e w' => e = .returned (.int .i64 (ruleOf id).kind) ∧ w = w' := by
  by_cases h1 : id = 1
  · subst h1; exact rkind1_any w
  by_cases h2 : id = 2
  · subst h2; exact rkind2_any w
  by_cases h3 : id = 3
  · subst h3; exact rkind3_any w
  by_cases h8 : id = 8
  · subst h8; exact rkind8_any w
  by_cases h9 : id = 9
  · subst h9; exact rkind9_any w
  by_cases h11 : id = 11
  · subst h11; exact rkind11_any w
  by_cases h17 : id = 17
  · subst h17; exact rkind17_any w
  by_cases h18 : id = 18
  · subst h18; exact rkind18_any w
  by_cases h19 : id = 19
  · subst h19; exact rkind19_any w
  by_cases h21 : id = 21
  · subst h21; exact rkind21_any w
  by_cases h22 : id = 22
  · subst h22; exact rkind22_any w
  by_cases h23 : id = 23
  · subst h23; exact rkind23_any w
  by_cases h25 : id = 25
  · subst h25; exact rkind25_any w
  by_cases h24 : id = 24
  · subst h24; exact rkind24_any w
  by_cases h26 : id = 26
  · subst h26; exact rkind26_any w
  by_cases h28 : id = 28
  · subst h28; exact rkind28_any w
  by_cases h31 : id = 31
  · subst h31; exact rkind31_any w
  by_cases h33 : id = 33
  · subst h33; exact rkind33_any w
  by_cases h34 : id = 34
  · subst h34; exact rkind34_any w
  by_cases h35 : id = 35
  · subst h35; exact rkind35_any w
  by_cases h36 : id = 36
  · subst h36; exact rkind36_any w
  by_cases h37 : id = 37
  · subst h37; exact rkind37_any w
  by_cases h40 : id = 40
  · subst h40; exact rkind40_any w
  by_cases h41 : id = 41
  · subst h41; exact rkind41_any w
  by_cases h42 : id = 42
  · subst h42; exact rkind42_any w
  by_cases h38 : id = 38
  · subst h38; exact rkind38_any w
  by_cases h39 : id = 39
  · subst h39; exact rkind39_any w
  exact rkind0_any id w h1 h2 h3 h8 h9 h11 h17 h18 h19 h21 h22 h23 h25 h24 h26 h28 h31 h33 h34 h35 h36 h37 h40 h41 h42 h38 h39
set_option maxHeartbeats 1000000 in
set_option maxRecDepth 100000 in
theorem where0_any (id : Int) (w : World) (h1 : ¬ id = 1) (h2 : ¬ id = 2) (h3 : ¬ id = 3) (h8 : ¬ id = 8) (h9 : ¬ id = 9) (h11 : ¬ id = 11) (h17 : ¬ id = 17) (h18 : ¬ id = 18) (h19 : ¬ id = 19) (h21 : ¬ id = 21) (h22 : ¬ id = 22) (h23 : ¬ id = 23) (h25 : ¬ id = 25) (h24 : ¬ id = 24) (h26 : ¬ id = 26) (h28 : ¬ id = 28) (h31 : ¬ id = 31) (h33 : ¬ id = 33) (h34 : ¬ id = 34) (h35 : ¬ id = 35) (h36 : ¬ id = 36) (h37 : ¬ id = 37) (h40 : ¬ id = 40) (h41 : ¬ id = 41) (h42 : ¬ id = 42) (h38 : ¬ id = 38) (h39 : ¬ id = 39) : Calls Try.prog 121 #[.int .i64 id] w fun e w' => e = .returned (.string ⟨(whereS id).toArray⟩) ∧ w = w' := by
  have e : Hid (whereS id = []) := Lib.hid (by
    unfold whereS
    rw [if_neg h1, if_neg h2, if_neg h3, if_neg h8, if_neg h9, if_neg h11, if_neg h17, if_neg h18, if_neg h19, if_neg h21, if_neg h22, if_neg h23, if_neg h25, if_neg h24, if_neg h26, if_neg h28, if_neg h31, if_neg h33, if_neg h34, if_neg h35, if_neg h36, if_neg h37, if_neg h40, if_neg h41, if_neg h42, if_neg h38, if_neg h39])
  have n1 : (id == 1) = false := by simpa using h1
  have n2 : (id == 2) = false := by simpa using h2
  have n3 : (id == 3) = false := by simpa using h3
  have n8 : (id == 8) = false := by simpa using h8
  have n9 : (id == 9) = false := by simpa using h9
  have n11 : (id == 11) = false := by simpa using h11
  have n17 : (id == 17) = false := by simpa using h17
  have n18 : (id == 18) = false := by simpa using h18
  have n19 : (id == 19) = false := by simpa using h19
  have n21 : (id == 21) = false := by simpa using h21
  have n22 : (id == 22) = false := by simpa using h22
  have n23 : (id == 23) = false := by simpa using h23
  have n25 : (id == 25) = false := by simpa using h25
  have n24 : (id == 24) = false := by simpa using h24
  have n26 : (id == 26) = false := by simpa using h26
  have n28 : (id == 28) = false := by simpa using h28
  have n31 : (id == 31) = false := by simpa using h31
  have n33 : (id == 33) = false := by simpa using h33
  have n34 : (id == 34) = false := by simpa using h34
  have n35 : (id == 35) = false := by simpa using h35
  have n36 : (id == 36) = false := by simpa using h36
  have n37 : (id == 37) = false := by simpa using h37
  have n40 : (id == 40) = false := by simpa using h40
  have n41 : (id == 41) = false := by simpa using h41
  have n42 : (id == 42) = false := by simpa using h42
  have n38 : (id == 38) = false := by simpa using h38
  have n39 : (id == 39) = false := by simpa using h39
  clear h1 h2 h3 h8 h9 h11 h17 h18 h19 h21 h22 h23 h25 h24 h26 h28 h31 h33 h34 h35 h36 h37 h40 h41 h42 h38 h39
  go_enter Try.func121, Try.ntmps121
  go_wp2
  go_ret
  rw [e.out]
  exact ⟨rfl, rfl⟩
theorem rwhere_any (id : Int) (w : World) : Calls Try.prog 121 #[.int .i64 id] w fun e w' => e = .returned (.string ⟨(whereS id).toArray⟩) ∧ w = w' := by
  by_cases h1 : id = 1
  · subst h1; exact where1_any w
  by_cases h2 : id = 2
  · subst h2; exact where2_any w
  by_cases h3 : id = 3
  · subst h3; exact where3_any w
  by_cases h8 : id = 8
  · subst h8; exact where8_any w
  by_cases h9 : id = 9
  · subst h9; exact where9_any w
  by_cases h11 : id = 11
  · subst h11; exact where11_any w
  by_cases h17 : id = 17
  · subst h17; exact where17_any w
  by_cases h18 : id = 18
  · subst h18; exact where18_any w
  by_cases h19 : id = 19
  · subst h19; exact where19_any w
  by_cases h21 : id = 21
  · subst h21; exact where21_any w
  by_cases h22 : id = 22
  · subst h22; exact where22_any w
  by_cases h23 : id = 23
  · subst h23; exact where23_any w
  by_cases h25 : id = 25
  · subst h25; exact where25_any w
  by_cases h24 : id = 24
  · subst h24; exact where24_any w
  by_cases h26 : id = 26
  · subst h26; exact where26_any w
  by_cases h28 : id = 28
  · subst h28; exact where28_any w
  by_cases h31 : id = 31
  · subst h31; exact where31_any w
  by_cases h33 : id = 33
  · subst h33; exact where33_any w
  by_cases h34 : id = 34
  · subst h34; exact where34_any w
  by_cases h35 : id = 35
  · subst h35; exact where35_any w
  by_cases h36 : id = 36
  · subst h36; exact where36_any w
  by_cases h37 : id = 37
  · subst h37; exact where37_any w
  by_cases h40 : id = 40
  · subst h40; exact where40_any w
  by_cases h41 : id = 41
  · subst h41; exact where41_any w
  by_cases h42 : id = 42
  · subst h42; exact where42_any w
  by_cases h38 : id = 38
  · subst h38; exact where38_any w
  by_cases h39 : id = 39
  · subst h39; exact where39_any w
  exact where0_any id w h1 h2 h3 h8 h9 h11 h17 h18 h19 h21 h22 h23 h25 h24 h26 h28 h31 h33 h34 h35 h36 h37 h40 h41 h42 h38 h39
end Go.Proofs.Ytlhkgalmiajinaa
