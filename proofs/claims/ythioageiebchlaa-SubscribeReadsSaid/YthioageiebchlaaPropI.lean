/- What Kind, where, letter, in, May, says of the reference of layer 3 come to. No condition. -/
import Derived.Test.YthioageiebchlaaPropE
import Derived.Test.YthioageiebchlaaWord
namespace Go.Proofs.Ythioageiebchlaa
open Go.RowKit

/-- The packets of an identifier, a letter each. -/
def whereS (id : Int) : List UInt8 := if id = 1 then [80, 119] else if id = 2 then [80, 119] else if id = 3 then [80, 119] else if id = 8 then [80, 119] else if id = 9 then [80, 119] else if id = 11 then [80, 115] else if id = 17 then [67, 99, 100] else if id = 18 then [99] else if id = 19 then [99] else if id = 21 then [67, 99, 97] else if id = 22 then [67, 99, 97] else if id = 23 then [67] else if id = 25 then [67] else if id = 24 then [119] else if id = 26 then [99] else if id = 28 then [99, 100] else if id = 31 then [99, 52, 53, 54, 55, 116, 118, 100, 97] else if id = 33 then [67, 99] else if id = 34 then [67, 99] else if id = 35 then [80] else if id = 36 then [99] else if id = 37 then [99] else if id = 40 then [99] else if id = 41 then [99] else if id = 42 then [99] else if id = 38 then [67, 99, 80, 119, 52, 53, 54, 55, 115, 116, 117, 118, 100, 97] else if id = 39 then [67, 99] else []
def letterC (kind : Int) (isWill : Bool) : UInt8 := if isWill = true then 119 else if kind < 1 ∨ 15 < kind ∨ kind = 12 ∨ kind = 13 then 45 else [46, 67, 99, 80, 52, 53, 54, 55, 115, 116, 117, 118, 46, 46, 100, 97].getD kind.toNat 0
theorem rkind1_any (w : World) : Calls Try.prog 67 #[.int .i64 1] w fun e w' => e = .returned (.int .i64 (ruleOf 1).kind) ∧ w = w' := by
  go_enter Try.func67, Try.ntmps67
  go_wp2
  go_ret
  exact ⟨rfl, rfl⟩
theorem where1_any (w : World) : Calls Try.prog 104 #[.int .i64 1] w fun e w' => e = .returned (.string ⟨(whereS 1).toArray⟩) ∧ w = w' := by
  go_enter Try.func104, Try.ntmps104
  go_wp2
  go_ret
  exact ⟨rfl, rfl⟩
theorem rkind2_any (w : World) : Calls Try.prog 67 #[.int .i64 2] w fun e w' => e = .returned (.int .i64 (ruleOf 2).kind) ∧ w = w' := by
  go_enter Try.func67, Try.ntmps67
  go_wp2
  go_ret
  exact ⟨rfl, rfl⟩
theorem where2_any (w : World) : Calls Try.prog 104 #[.int .i64 2] w fun e w' => e = .returned (.string ⟨(whereS 2).toArray⟩) ∧ w = w' := by
  go_enter Try.func104, Try.ntmps104
  go_wp2
  go_ret
  exact ⟨rfl, rfl⟩
theorem rkind3_any (w : World) : Calls Try.prog 67 #[.int .i64 3] w fun e w' => e = .returned (.int .i64 (ruleOf 3).kind) ∧ w = w' := by
  go_enter Try.func67, Try.ntmps67
  go_wp2
  go_ret
  exact ⟨rfl, rfl⟩
theorem where3_any (w : World) : Calls Try.prog 104 #[.int .i64 3] w fun e w' => e = .returned (.string ⟨(whereS 3).toArray⟩) ∧ w = w' := by
  go_enter Try.func104, Try.ntmps104
  go_wp2
  go_ret
  exact ⟨rfl, rfl⟩
theorem rkind8_any (w : World) : Calls Try.prog 67 #[.int .i64 8] w fun e w' => e = .returned (.int .i64 (ruleOf 8).kind) ∧ w = w' := by
  go_enter Try.func67, Try.ntmps67
  go_wp2
  go_ret
  exact ⟨rfl, rfl⟩
theorem where8_any (w : World) : Calls Try.prog 104 #[.int .i64 8] w fun e w' => e = .returned (.string ⟨(whereS 8).toArray⟩) ∧ w = w' := by
  go_enter Try.func104, Try.ntmps104
  go_wp2
  go_ret
  exact ⟨rfl, rfl⟩
theorem rkind9_any (w : World) : Calls Try.prog 67 #[.int .i64 9] w fun e w' => e = .returned (.int .i64 (ruleOf 9).kind) ∧ w = w' := by
  go_enter Try.func67, Try.ntmps67
  go_wp2
  go_ret
  exact ⟨rfl, rfl⟩
theorem where9_any (w : World) : Calls Try.prog 104 #[.int .i64 9] w fun e w' => e = .returned (.string ⟨(whereS 9).toArray⟩) ∧ w = w' := by
  go_enter Try.func104, Try.ntmps104
  go_wp2
  go_ret
  exact ⟨rfl, rfl⟩
theorem rkind11_any (w : World) : Calls Try.prog 67 #[.int .i64 11] w fun e w' => e = .returned (.int .i64 (ruleOf 11).kind) ∧ w = w' := by
  go_enter Try.func67, Try.ntmps67
  go_wp2
  go_ret
  exact ⟨rfl, rfl⟩
theorem where11_any (w : World) : Calls Try.prog 104 #[.int .i64 11] w fun e w' => e = .returned (.string ⟨(whereS 11).toArray⟩) ∧ w = w' := by
  go_enter Try.func104, Try.ntmps104
  go_wp2
  go_ret
  exact ⟨rfl, rfl⟩
theorem rkind17_any (w : World) : Calls Try.prog 67 #[.int .i64 17] w fun e w' => e = .returned (.int .i64 (ruleOf 17).kind) ∧ w = w' := by
  go_enter Try.func67, Try.ntmps67
  go_wp2
  go_ret
  exact ⟨rfl, rfl⟩
theorem where17_any (w : World) : Calls Try.prog 104 #[.int .i64 17] w fun e w' => e = .returned (.string ⟨(whereS 17).toArray⟩) ∧ w = w' := by
  go_enter Try.func104, Try.ntmps104
  go_wp2
  go_ret
  exact ⟨rfl, rfl⟩
theorem rkind18_any (w : World) : Calls Try.prog 67 #[.int .i64 18] w fun e w' => e = .returned (.int .i64 (ruleOf 18).kind) ∧ w = w' := by
  go_enter Try.func67, Try.ntmps67
  go_wp2
  go_ret
  exact ⟨rfl, rfl⟩
theorem where18_any (w : World) : Calls Try.prog 104 #[.int .i64 18] w fun e w' => e = .returned (.string ⟨(whereS 18).toArray⟩) ∧ w = w' := by
  go_enter Try.func104, Try.ntmps104
  go_wp2
  go_ret
  exact ⟨rfl, rfl⟩
theorem rkind19_any (w : World) : Calls Try.prog 67 #[.int .i64 19] w fun e w' => e = .returned (.int .i64 (ruleOf 19).kind) ∧ w = w' := by
  go_enter Try.func67, Try.ntmps67
  go_wp2
  go_ret
  exact ⟨rfl, rfl⟩
theorem where19_any (w : World) : Calls Try.prog 104 #[.int .i64 19] w fun e w' => e = .returned (.string ⟨(whereS 19).toArray⟩) ∧ w = w' := by
  go_enter Try.func104, Try.ntmps104
  go_wp2
  go_ret
  exact ⟨rfl, rfl⟩
theorem rkind21_any (w : World) : Calls Try.prog 67 #[.int .i64 21] w fun e w' => e = .returned (.int .i64 (ruleOf 21).kind) ∧ w = w' := by
  go_enter Try.func67, Try.ntmps67
  go_wp2
  go_ret
  exact ⟨rfl, rfl⟩
theorem where21_any (w : World) : Calls Try.prog 104 #[.int .i64 21] w fun e w' => e = .returned (.string ⟨(whereS 21).toArray⟩) ∧ w = w' := by
  go_enter Try.func104, Try.ntmps104
  go_wp2
  go_ret
  exact ⟨rfl, rfl⟩
theorem rkind22_any (w : World) : Calls Try.prog 67 #[.int .i64 22] w fun e w' => e = .returned (.int .i64 (ruleOf 22).kind) ∧ w = w' := by
  go_enter Try.func67, Try.ntmps67
  go_wp2
  go_ret
  exact ⟨rfl, rfl⟩
theorem where22_any (w : World) : Calls Try.prog 104 #[.int .i64 22] w fun e w' => e = .returned (.string ⟨(whereS 22).toArray⟩) ∧ w = w' := by
  go_enter Try.func104, Try.ntmps104
  go_wp2
  go_ret
  exact ⟨rfl, rfl⟩
theorem rkind23_any (w : World) : Calls Try.prog 67 #[.int .i64 23] w fun e w' => e = .returned (.int .i64 (ruleOf 23).kind) ∧ w = w' := by
  go_enter Try.func67, Try.ntmps67
  go_wp2
  go_ret
  exact ⟨rfl, rfl⟩
theorem where23_any (w : World) : Calls Try.prog 104 #[.int .i64 23] w fun e w' => e = .returned (.string ⟨(whereS 23).toArray⟩) ∧ w = w' := by
  go_enter Try.func104, Try.ntmps104
  go_wp2
  go_ret
  exact ⟨rfl, rfl⟩
theorem rkind25_any (w : World) : Calls Try.prog 67 #[.int .i64 25] w fun e w' => e = .returned (.int .i64 (ruleOf 25).kind) ∧ w = w' := by
  go_enter Try.func67, Try.ntmps67
  go_wp2
  go_ret
  exact ⟨rfl, rfl⟩
theorem where25_any (w : World) : Calls Try.prog 104 #[.int .i64 25] w fun e w' => e = .returned (.string ⟨(whereS 25).toArray⟩) ∧ w = w' := by
  go_enter Try.func104, Try.ntmps104
  go_wp2
  go_ret
  exact ⟨rfl, rfl⟩
theorem rkind24_any (w : World) : Calls Try.prog 67 #[.int .i64 24] w fun e w' => e = .returned (.int .i64 (ruleOf 24).kind) ∧ w = w' := by
  go_enter Try.func67, Try.ntmps67
  go_wp2
  go_ret
  exact ⟨rfl, rfl⟩
theorem where24_any (w : World) : Calls Try.prog 104 #[.int .i64 24] w fun e w' => e = .returned (.string ⟨(whereS 24).toArray⟩) ∧ w = w' := by
  go_enter Try.func104, Try.ntmps104
  go_wp2
  go_ret
  exact ⟨rfl, rfl⟩
theorem rkind26_any (w : World) : Calls Try.prog 67 #[.int .i64 26] w fun e w' => e = .returned (.int .i64 (ruleOf 26).kind) ∧ w = w' := by
  go_enter Try.func67, Try.ntmps67
  go_wp2
  go_ret
  exact ⟨rfl, rfl⟩
theorem where26_any (w : World) : Calls Try.prog 104 #[.int .i64 26] w fun e w' => e = .returned (.string ⟨(whereS 26).toArray⟩) ∧ w = w' := by
  go_enter Try.func104, Try.ntmps104
  go_wp2
  go_ret
  exact ⟨rfl, rfl⟩
theorem rkind28_any (w : World) : Calls Try.prog 67 #[.int .i64 28] w fun e w' => e = .returned (.int .i64 (ruleOf 28).kind) ∧ w = w' := by
  go_enter Try.func67, Try.ntmps67
  go_wp2
  go_ret
  exact ⟨rfl, rfl⟩
theorem where28_any (w : World) : Calls Try.prog 104 #[.int .i64 28] w fun e w' => e = .returned (.string ⟨(whereS 28).toArray⟩) ∧ w = w' := by
  go_enter Try.func104, Try.ntmps104
  go_wp2
  go_ret
  exact ⟨rfl, rfl⟩
theorem rkind31_any (w : World) : Calls Try.prog 67 #[.int .i64 31] w fun e w' => e = .returned (.int .i64 (ruleOf 31).kind) ∧ w = w' := by
  go_enter Try.func67, Try.ntmps67
  go_wp2
  go_ret
  exact ⟨rfl, rfl⟩
theorem where31_any (w : World) : Calls Try.prog 104 #[.int .i64 31] w fun e w' => e = .returned (.string ⟨(whereS 31).toArray⟩) ∧ w = w' := by
  go_enter Try.func104, Try.ntmps104
  go_wp2
  go_ret
  exact ⟨rfl, rfl⟩
theorem rkind33_any (w : World) : Calls Try.prog 67 #[.int .i64 33] w fun e w' => e = .returned (.int .i64 (ruleOf 33).kind) ∧ w = w' := by
  go_enter Try.func67, Try.ntmps67
  go_wp2
  go_ret
  exact ⟨rfl, rfl⟩
theorem where33_any (w : World) : Calls Try.prog 104 #[.int .i64 33] w fun e w' => e = .returned (.string ⟨(whereS 33).toArray⟩) ∧ w = w' := by
  go_enter Try.func104, Try.ntmps104
  go_wp2
  go_ret
  exact ⟨rfl, rfl⟩
theorem rkind34_any (w : World) : Calls Try.prog 67 #[.int .i64 34] w fun e w' => e = .returned (.int .i64 (ruleOf 34).kind) ∧ w = w' := by
  go_enter Try.func67, Try.ntmps67
  go_wp2
  go_ret
  exact ⟨rfl, rfl⟩
theorem where34_any (w : World) : Calls Try.prog 104 #[.int .i64 34] w fun e w' => e = .returned (.string ⟨(whereS 34).toArray⟩) ∧ w = w' := by
  go_enter Try.func104, Try.ntmps104
  go_wp2
  go_ret
  exact ⟨rfl, rfl⟩
theorem rkind35_any (w : World) : Calls Try.prog 67 #[.int .i64 35] w fun e w' => e = .returned (.int .i64 (ruleOf 35).kind) ∧ w = w' := by
  go_enter Try.func67, Try.ntmps67
  go_wp2
  go_ret
  exact ⟨rfl, rfl⟩
theorem where35_any (w : World) : Calls Try.prog 104 #[.int .i64 35] w fun e w' => e = .returned (.string ⟨(whereS 35).toArray⟩) ∧ w = w' := by
  go_enter Try.func104, Try.ntmps104
  go_wp2
  go_ret
  exact ⟨rfl, rfl⟩
theorem rkind36_any (w : World) : Calls Try.prog 67 #[.int .i64 36] w fun e w' => e = .returned (.int .i64 (ruleOf 36).kind) ∧ w = w' := by
  go_enter Try.func67, Try.ntmps67
  go_wp2
  go_ret
  exact ⟨rfl, rfl⟩
theorem where36_any (w : World) : Calls Try.prog 104 #[.int .i64 36] w fun e w' => e = .returned (.string ⟨(whereS 36).toArray⟩) ∧ w = w' := by
  go_enter Try.func104, Try.ntmps104
  go_wp2
  go_ret
  exact ⟨rfl, rfl⟩
theorem rkind37_any (w : World) : Calls Try.prog 67 #[.int .i64 37] w fun e w' => e = .returned (.int .i64 (ruleOf 37).kind) ∧ w = w' := by
  go_enter Try.func67, Try.ntmps67
  go_wp2
  go_ret
  exact ⟨rfl, rfl⟩
theorem where37_any (w : World) : Calls Try.prog 104 #[.int .i64 37] w fun e w' => e = .returned (.string ⟨(whereS 37).toArray⟩) ∧ w = w' := by
  go_enter Try.func104, Try.ntmps104
  go_wp2
  go_ret
  exact ⟨rfl, rfl⟩
theorem rkind40_any (w : World) : Calls Try.prog 67 #[.int .i64 40] w fun e w' => e = .returned (.int .i64 (ruleOf 40).kind) ∧ w = w' := by
  go_enter Try.func67, Try.ntmps67
  go_wp2
  go_ret
  exact ⟨rfl, rfl⟩
theorem where40_any (w : World) : Calls Try.prog 104 #[.int .i64 40] w fun e w' => e = .returned (.string ⟨(whereS 40).toArray⟩) ∧ w = w' := by
  go_enter Try.func104, Try.ntmps104
  go_wp2
  go_ret
  exact ⟨rfl, rfl⟩
theorem rkind41_any (w : World) : Calls Try.prog 67 #[.int .i64 41] w fun e w' => e = .returned (.int .i64 (ruleOf 41).kind) ∧ w = w' := by
  go_enter Try.func67, Try.ntmps67
  go_wp2
  go_ret
  exact ⟨rfl, rfl⟩
theorem where41_any (w : World) : Calls Try.prog 104 #[.int .i64 41] w fun e w' => e = .returned (.string ⟨(whereS 41).toArray⟩) ∧ w = w' := by
  go_enter Try.func104, Try.ntmps104
  go_wp2
  go_ret
  exact ⟨rfl, rfl⟩
theorem rkind42_any (w : World) : Calls Try.prog 67 #[.int .i64 42] w fun e w' => e = .returned (.int .i64 (ruleOf 42).kind) ∧ w = w' := by
  go_enter Try.func67, Try.ntmps67
  go_wp2
  go_ret
  exact ⟨rfl, rfl⟩
theorem where42_any (w : World) : Calls Try.prog 104 #[.int .i64 42] w fun e w' => e = .returned (.string ⟨(whereS 42).toArray⟩) ∧ w = w' := by
  go_enter Try.func104, Try.ntmps104
  go_wp2
  go_ret
  exact ⟨rfl, rfl⟩
theorem rkind38_any (w : World) : Calls Try.prog 67 #[.int .i64 38] w fun e w' => e = .returned (.int .i64 (ruleOf 38).kind) ∧ w = w' := by
  go_enter Try.func67, Try.ntmps67
  go_wp2
  go_ret
  exact ⟨rfl, rfl⟩
theorem where38_any (w : World) : Calls Try.prog 104 #[.int .i64 38] w fun e w' => e = .returned (.string ⟨(whereS 38).toArray⟩) ∧ w = w' := by
  go_enter Try.func104, Try.ntmps104
  go_wp2
  go_ret
  exact ⟨rfl, rfl⟩
theorem rkind39_any (w : World) : Calls Try.prog 67 #[.int .i64 39] w fun e w' => e = .returned (.int .i64 (ruleOf 39).kind) ∧ w = w' := by
  go_enter Try.func67, Try.ntmps67
  go_wp2
  go_ret
  exact ⟨rfl, rfl⟩
theorem where39_any (w : World) : Calls Try.prog 104 #[.int .i64 39] w fun e w' => e = .returned (.string ⟨(whereS 39).toArray⟩) ∧ w = w' := by
  go_enter Try.func104, Try.ntmps104
  go_wp2
  go_ret
  exact ⟨rfl, rfl⟩
set_option maxHeartbeats 1000000 in
set_option maxRecDepth 100000 in
theorem rkind0_any (id : Int) (w : World) (h1 : ¬ id = 1) (h2 : ¬ id = 2) (h3 : ¬ id = 3) (h8 : ¬ id = 8) (h9 : ¬ id = 9) (h11 : ¬ id = 11) (h17 : ¬ id = 17) (h18 : ¬ id = 18) (h19 : ¬ id = 19) (h21 : ¬ id = 21) (h22 : ¬ id = 22) (h23 : ¬ id = 23) (h25 : ¬ id = 25) (h24 : ¬ id = 24) (h26 : ¬ id = 26) (h28 : ¬ id = 28) (h31 : ¬ id = 31) (h33 : ¬ id = 33) (h34 : ¬ id = 34) (h35 : ¬ id = 35) (h36 : ¬ id = 36) (h37 : ¬ id = 37) (h40 : ¬ id = 40) (h41 : ¬ id = 41) (h42 : ¬ id = 42) (h38 : ¬ id = 38) (h39 : ¬ id = 39) : Calls Try.prog 67 #[.int .i64 id] w fun e w' => e = .returned (.int .i64 (ruleOf id).kind) ∧ w = w' := by
  have e : Hid ((ruleOf id).kind = 0) := Lib.hid (by
    unfold ruleOf
    rw [if_neg h1, if_neg h2, if_neg h3, if_neg h8, if_neg h9, if_neg h11, if_neg h17, if_neg h18, if_neg h19, if_neg h21, if_neg h22, if_neg h23, if_neg h25, if_neg h24, if_neg h26, if_neg h28, if_neg h31, if_neg h33, if_neg h34, if_neg h35, if_neg h36, if_neg h37, if_neg h40, if_neg h41, if_neg h42, if_neg h38, if_neg h39])
  have n1 : (id == 1) = false := by simpa using h1
  have n2 : (id == 2) = false := by simpa using h2
  have n3 : (id == 3) = false := by simpa using h3
  have n8 : (id == 8) = false := by simpa using h8
  have n9 : (id == 9) = false := by simpa using h9
  have n11 : (id == 11) = false := by simpa using h11
  have n17 : (id == 17) = false := by simpa using h17
  have n18 : (id == 18) = false := by simpa using h18
  have n19 : (id == 19) = false := by simpa using h19
  have n21 : (id == 21) = false := by simpa using h21
  have n22 : (id == 22) = false := by simpa using h22
  have n23 : (id == 23) = false := by simpa using h23
  have n25 : (id == 25) = false := by simpa using h25
  have n24 : (id == 24) = false := by simpa using h24
  have n26 : (id == 26) = false := by simpa using h26
  have n28 : (id == 28) = false := by simpa using h28
  have n31 : (id == 31) = false := by simpa using h31
  have n33 : (id == 33) = false := by simpa using h33
  have n34 : (id == 34) = false := by simpa using h34
  have n35 : (id == 35) = false := by simpa using h35
  have n36 : (id == 36) = false := by simpa using h36
  have n37 : (id == 37) = false := by simpa using h37
  have n40 : (id == 40) = false := by simpa using h40
  have n41 : (id == 41) = false := by simpa using h41
  have n42 : (id == 42) = false := by simpa using h42
  have n38 : (id == 38) = false := by simpa using h38
  have n39 : (id == 39) = false := by simpa using h39
  clear h1 h2 h3 h8 h9 h11 h17 h18 h19 h21 h22 h23 h25 h24 h26 h28 h31 h33 h34 h35 h36 h37 h40 h41 h42 h38 h39
  go_enter Try.func67, Try.ntmps67
  go_wp2
  go_ret
  rw [e.out]
  exact ⟨rfl, rfl⟩
theorem rkind_any (id : Int) (w : World) : Calls Try.prog 67 #[.int .i64 id] w fun e w' => e = .returned (.int .i64 (ruleOf id).kind) ∧ w = w' := by
  by_cases h1 : id = 1
  · subst h1; exact rkind1_any w
  by_cases h2 : id = 2
  · subst h2; exact rkind2_any w
  by_cases h3 : id = 3
  · subst h3; exact rkind3_any w
  by_cases h8 : id = 8
  · subst h8; exact rkind8_any w
  by_cases h9 : id = 9
  · subst h9; exact rkind9_any w
  by_cases h11 : id = 11
  · subst h11; exact rkind11_any w
  by_cases h17 : id = 17
  · subst h17; exact rkind17_any w
  by_cases h18 : id = 18
  · subst h18; exact rkind18_any w
  by_cases h19 : id = 19
  · subst h19; exact rkind19_any w
  by_cases h21 : id = 21
  · subst h21; exact rkind21_any w
  by_cases h22 : id = 22
  · subst h22; exact rkind22_any w
  by_cases h23 : id = 23
  · subst h23; exact rkind23_any w
  by_cases h25 : id = 25
  · subst h25; exact rkind25_any w
  by_cases h24 : id = 24
  · subst h24; exact rkind24_any w
  by_cases h26 : id = 26
  · subst h26; exact rkind26_any w
  by_cases h28 : id = 28
  · subst h28; exact rkind28_any w
  by_cases h31 : id = 31
  · subst h31; exact rkind31_any w
  by_cases h33 : id = 33
  · subst h33; exact rkind33_any w
  by_cases h34 : id = 34
  · subst h34; exact rkind34_any w
  by_cases h35 : id = 35
  · subst h35; exact rkind35_any w
  by_cases h36 : id = 36
  · subst h36; exact rkind36_any w
  by_cases h37 : id = 37
  · subst h37; exact rkind37_any w
  by_cases h40 : id = 40
  · subst h40; exact rkind40_any w
  by_cases h41 : id = 41
  · subst h41; exact rkind41_any w
  by_cases h42 : id = 42
  · subst h42; exact rkind42_any w
  by_cases h38 : id = 38
  · subst h38; exact rkind38_any w
  by_cases h39 : id = 39
  · subst h39; exact rkind39_any w
  exact rkind0_any id w h1 h2 h3 h8 h9 h11 h17 h18 h19 h21 h22 h23 h25 h24 h26 h28 h31 h33 h34 h35 h36 h37 h40 h41 h42 h38 h39
set_option maxHeartbeats 1000000 in
set_option maxRecDepth 100000 in
theorem where0_any (id : Int) (w : World) (h1 : ¬ id = 1) (h2 : ¬ id = 2) (h3 : ¬ id = 3) (h8 : ¬ id = 8) (h9 : ¬ id = 9) (h11 : ¬ id = 11) (h17 : ¬ id = 17) (h18 : ¬ id = 18) (h19 : ¬ id = 19) (h21 : ¬ id = 21) (h22 : ¬ id = 22) (h23 : ¬ id = 23) (h25 : ¬ id = 25) (h24 : ¬ id = 24) (h26 : ¬ id = 26) (h28 : ¬ id = 28) (h31 : ¬ id = 31) (h33 : ¬ id = 33) (h34 : ¬ id = 34) (h35 : ¬ id = 35) (h36 : ¬ id = 36) (h37 : ¬ id = 37) (h40 : ¬ id = 40) (h41 : ¬ id = 41) (h42 : ¬ id = 42) (h38 : ¬ id = 38) (h39 : ¬ id = 39) : Calls Try.prog 104 #[.int .i64 id] w fun e w' => e = .returned (.string ⟨(whereS id).toArray⟩) ∧ w = w' := by
  have e : Hid (whereS id = []) := Lib.hid (by
    unfold whereS
    rw [if_neg h1, if_neg h2, if_neg h3, if_neg h8, if_neg h9, if_neg h11, if_neg h17, if_neg h18, if_neg h19, if_neg h21, if_neg h22, if_neg h23, if_neg h25, if_neg h24, if_neg h26, if_neg h28, if_neg h31, if_neg h33, if_neg h34, if_neg h35, if_neg h36, if_neg h37, if_neg h40, if_neg h41, if_neg h42, if_neg h38, if_neg h39])
  have n1 : (id == 1) = false := by simpa using h1
  have n2 : (id == 2) = false := by simpa using h2
  have n3 : (id == 3) = false := by simpa using h3
  have n8 : (id == 8) = false := by simpa using h8
  have n9 : (id == 9) = false := by simpa using h9
  have n11 : (id == 11) = false := by simpa using h11
  have n17 : (id == 17) = false := by simpa using h17
  have n18 : (id == 18) = false := by simpa using h18
  have n19 : (id == 19) = false := by simpa using h19
  have n21 : (id == 21) = false := by simpa using h21
  have n22 : (id == 22) = false := by simpa using h22
  have n23 : (id == 23) = false := by simpa using h23
  have n25 : (id == 25) = false := by simpa using h25
  have n24 : (id == 24) = false := by simpa using h24
  have n26 : (id == 26) = false := by simpa using h26
  have n28 : (id == 28) = false := by simpa using h28
  have n31 : (id == 31) = false := by simpa using h31
  have n33 : (id == 33) = false := by simpa using h33
  have n34 : (id == 34) = false := by simpa using h34
  have n35 : (id == 35) = false := by simpa using h35
  have n36 : (id == 36) = false := by simpa using h36
  have n37 : (id == 37) = false := by simpa using h37
  have n40 : (id == 40) = false := by simpa using h40
  have n41 : (id == 41) = false := by simpa using h41
  have n42 : (id == 42) = false := by simpa using h42
  have n38 : (id == 38) = false := by simpa using h38
  have n39 : (id == 39) = false := by simpa using h39
  clear h1 h2 h3 h8 h9 h11 h17 h18 h19 h21 h22 h23 h25 h24 h26 h28 h31 h33 h34 h35 h36 h37 h40 h41 h42 h38 h39
  go_enter Try.func104, Try.ntmps104
  go_wp2
  go_ret
  rw [e.out]
  exact ⟨rfl, rfl⟩
theorem rwhere_any (id : Int) (w : World) : Calls Try.prog 104 #[.int .i64 id] w fun e w' => e = .returned (.string ⟨(whereS id).toArray⟩) ∧ w = w' := by
  by_cases h1 : id = 1
  · subst h1; exact where1_any w
  by_cases h2 : id = 2
  · subst h2; exact where2_any w
  by_cases h3 : id = 3
  · subst h3; exact where3_any w
  by_cases h8 : id = 8
  · subst h8; exact where8_any w
  by_cases h9 : id = 9
  · subst h9; exact where9_any w
  by_cases h11 : id = 11
  · subst h11; exact where11_any w
  by_cases h17 : id = 17
  · subst h17; exact where17_any w
  by_cases h18 : id = 18
  · subst h18; exact where18_any w
  by_cases h19 : id = 19
  · subst h19; exact where19_any w
  by_cases h21 : id = 21
  · subst h21; exact where21_any w
  by_cases h22 : id = 22
  · subst h22; exact where22_any w
  by_cases h23 : id = 23
  · subst h23; exact where23_any w
  by_cases h25 : id = 25
  · subst h25; exact where25_any w
  by_cases h24 : id = 24
  · subst h24; exact where24_any w
  by_cases h26 : id = 26
  · subst h26; exact where26_any w
  by_cases h28 : id = 28
  · subst h28; exact where28_any w
  by_cases h31 : id = 31
  · subst h31; exact where31_any w
  by_cases h33 : id = 33
  · subst h33; exact where33_any w
  by_cases h34 : id = 34
  · subst h34; exact where34_any w
  by_cases h35 : id = 35
  · subst h35; exact where35_any w
  by_cases h36 : id = 36
  · subst h36; exact where36_any w
  by_cases h37 : id = 37
  · subst h37; exact where37_any w
  by_cases h40 : id = 40
  · subst h40; exact where40_any w
  by_cases h41 : id = 41
  · subst h41; exact where41_any w
  by_cases h42 : id = 42
  · subst h42; exact where42_any w
  by_cases h38 : id = 38
  · subst h38; exact where38_any w
  by_cases h39 : id = 39
  · subst h39; exact where39_any w
  exact where0_any id w h1 h2 h3 h8 h9 h11 h17 h18 h19 h21 h22 h23 h25 h24 h26 h28 h31 h33 h34 h35 h36 h37 h40 h41 h42 h38 h39
end Go.Proofs.Ythioageiebchlaa
namespace Go.Proofs.Ythioageiebchlaa
open Go.RowKit

theorem wl_at (k : Nat) (h1 : 1 ≤ k) (h15 : k ≤ 15) (h12 : k ≠ 12) (h13 : k ≠ 13) : ((ByteArray.mk ([46, 67, 99, 80, 52, 53, 54, 55, 115, 116, 117, 118, 46, 46, 100, 97] : List UInt8).toArray).extract k (k + 1)) = ByteArray.mk [letterC (k : Int) false].toArray := by
  match k, h1, h15, h12, h13 with
  | 1, _, _, _, _ | 2, _, _, _, _ | 3, _, _, _, _ | 4, _, _, _, _ | 5, _, _, _, _ | 6, _, _, _, _ | 7, _, _, _, _ | 8, _, _, _, _ | 9, _, _, _, _ | 10, _, _, _, _ | 11, _, _, _, _ | 14, _, _, _, _ | 15, _, _, _, _ => decide +kernel
  | 12, _, _, h, _ => exact absurd rfl h
  | 13, _, _, _, h => exact absurd rfl h
set_option maxRecDepth 100000 in
set_option maxHeartbeats 1000000 in
theorem letter_any (kind : Int) (isWill : Bool) (w : World) : Calls Try.prog 105 #[.int .i64 kind, .bool isWill] w fun e w' => e = .returned (.string ⟨[letterC kind isWill].toArray⟩) ∧ w = w' := by
  cases isWill
  rotate_left
  · go_enter Try.func105, Try.ntmps105
    go_wp2
    go_ret
    exact ⟨rfl, rfl⟩
  by_cases h1 : kind < 1
  · have H : Hid (letterC kind false = 45) := Lib.hid (by rw [letterC, if_neg (by decide), if_pos (by omega)])
    try subst h1
    go_enter Try.func105, Try.ntmps105
    go_wp2
    all_goals
      go_ret
      rw [H.out]
      exact ⟨rfl, rfl⟩
  by_cases h2 : 15 < kind
  · have H : Hid (letterC kind false = 45) := Lib.hid (by rw [letterC, if_neg (by decide), if_pos (by omega)])
    try subst h2
    go_enter Try.func105, Try.ntmps105
    go_wp2
    all_goals
      go_ret
      rw [H.out]
      exact ⟨rfl, rfl⟩
  by_cases h3 : kind = 12
  · have H : Hid (letterC kind false = 45) := Lib.hid (by rw [letterC, if_neg (by decide), if_pos (by omega)])
    try subst h3
    go_enter Try.func105, Try.ntmps105
    go_wp2
    all_goals
      go_ret
      rw [H.out]
      exact ⟨rfl, rfl⟩
  by_cases h4 : kind = 13
  · have H : Hid (letterC kind false = 45) := Lib.hid (by rw [letterC, if_neg (by decide), if_pos (by omega)])
    try subst h4
    go_enter Try.func105, Try.ntmps105
    go_wp2
    all_goals
      go_ret
      rw [H.out]
      exact ⟨rfl, rfl⟩
  obtain ⟨k, rfl⟩ := Int.eq_ofNat_of_zero_le (show 0 ≤ kind by omega)
  have he := wl_at k (by omega) (by omega) (by omega) (by omega)
  have e12 : ((k : Int) == 12) = false := by simpa using h3
  have e13 : ((k : Int) == 13) = false := by simpa using h4
  have hk1 : (k : Int) ≤ k + 1 := by omega
  have hk16 : (k : Int) + 1 ≤ 16 := by omega
  have hsl := run_slice_str (P := Try.prog) 9 Try.underlying9 [46, 67, 99, 80, 52, 53, 54, 55, 115, 116, 117, 118, 46, 46, 100, 97] k 1 (by show k + 1 ≤ 16; omega)
  have HE := Lib.hid he
  clear h3 h4 he hsl
  go_enter Try.func105, Try.ntmps105
  go_wp2
  go_ret
  exact ⟨congrArg (fun z => Ending.returned (.string z)) HE.out, rfl⟩
def hasC (s : List UInt8) (c : UInt8) : Bool := s.contains c
theorem hasC_snoc (l : List UInt8) (d c : UInt8) : hasC (l ++ [d]) c = (hasC l c || c == d) := by
  simp [hasC]
  rfl
set_option maxRecDepth 100000 in
theorem in_any (s : List UInt8) (c : UInt8) (w : World) (hs : s.length ≤ 1000000) : Calls Try.prog 103 #[.string ⟨s.toArray⟩, .string ⟨[c].toArray⟩] w fun e w' => e = .returned (.bool (hasC s c)) ∧ w = w' := by
  go_enter Try.func103, Try.ntmps103
  go_wp2
  go_loop [5] (fun i => ∃ k : Nat, i = .int .i64 k ∧ k ≤ s.length ∧ Hid (hasC (s.take k) c = false)) (fun i => s.length - (intOf i).toNat)
  case atStart => exact ⟨0, rfl, by omega, Lib.hid rfl⟩
  case round =>
    obtain ⟨k, rfl, hk, HN⟩ := hrel
    by_cases hlt : k < s.length
    · have hsl0 := run_slice_str (P := Try.prog) 9 Try.underlying9 s k 1 (by omega)
      have hmem : Hid (s[k] = c → hasC s c = true) := Lib.hid (by rintro rfl; simp [hasC])
      have hst : Hid (s[k] ≠ c → hasC (s.take (k + 1)) c = false) := Lib.hid (fun h => by
        rw [List.take_succ_eq_append_getElem hlt, hasC_snoc, HN.out]
        simpa using fun e => h e.symm)
      have hsl : ∀ W, (Instr.slice 9 (.string ⟨s.toArray⟩) (some (.int .i64 (k : Int))) (some (.int .i64 ((k : Int) + 1))) none).run Try.prog W = .ok (.string ⟨[s[k]].toArray⟩) W := fun W => by
        have := hsl0 W
        rw [List.drop_eq_getElem_cons hlt] at this
        exact this
      clear hsl0
      generalize s[k] = d at *
      by_cases hd : d = c
      · have HM := Lib.hid (hmem.out hd)
        subst hd
        go_wp2
        go_ret
        rw [HM.out]
        exact ⟨rfl, rfl⟩
      · have HS := Lib.hid (hst.out hd)
        have hd1 : (d == c) = false := by simpa using hd
        go_wp2
        go_round
        case rel => exact ⟨k + 1, by go_num, by omega, HS⟩
        case measure => simp [intOf]; omega
    · obtain rfl : k = s.length := by omega
      rw [List.take_length] at HN
      go_wp2
      go_ret
      rw [HN.out]
      exact ⟨rfl, rfl⟩
def mayR (id kind : Int) (isWill : Bool) : Bool := hasC (whereS id) (letterC kind isWill)
theorem whereS_len (id : Int) : (whereS id).length ≤ 20 := by
  unfold whereS
  by_cases h1 : id = 1
  · rw [if_pos h1]; decide
  rw [if_neg h1]
  by_cases h2 : id = 2
  · rw [if_pos h2]; decide
  rw [if_neg h2]
  by_cases h3 : id = 3
  · rw [if_pos h3]; decide
  rw [if_neg h3]
  by_cases h8 : id = 8
  · rw [if_pos h8]; decide
  rw [if_neg h8]
  by_cases h9 : id = 9
  · rw [if_pos h9]; decide
  rw [if_neg h9]
  by_cases h11 : id = 11
  · rw [if_pos h11]; decide
  rw [if_neg h11]
  by_cases h17 : id = 17
  · rw [if_pos h17]; decide
  rw [if_neg h17]
  by_cases h18 : id = 18
  · rw [if_pos h18]; decide
  rw [if_neg h18]
  by_cases h19 : id = 19
  · rw [if_pos h19]; decide
  rw [if_neg h19]
  by_cases h21 : id = 21
  · rw [if_pos h21]; decide
  rw [if_neg h21]
  by_cases h22 : id = 22
  · rw [if_pos h22]; decide
  rw [if_neg h22]
  by_cases h23 : id = 23
  · rw [if_pos h23]; decide
  rw [if_neg h23]
  by_cases h25 : id = 25
  · rw [if_pos h25]; decide
  rw [if_neg h25]
  by_cases h24 : id = 24
  · rw [if_pos h24]; decide
  rw [if_neg h24]
  by_cases h26 : id = 26
  · rw [if_pos h26]; decide
  rw [if_neg h26]
  by_cases h28 : id = 28
  · rw [if_pos h28]; decide
  rw [if_neg h28]
  by_cases h31 : id = 31
  · rw [if_pos h31]; decide
  rw [if_neg h31]
  by_cases h33 : id = 33
  · rw [if_pos h33]; decide
  rw [if_neg h33]
  by_cases h34 : id = 34
  · rw [if_pos h34]; decide
  rw [if_neg h34]
  by_cases h35 : id = 35
  · rw [if_pos h35]; decide
  rw [if_neg h35]
  by_cases h36 : id = 36
  · rw [if_pos h36]; decide
  rw [if_neg h36]
  by_cases h37 : id = 37
  · rw [if_pos h37]; decide
  rw [if_neg h37]
  by_cases h40 : id = 40
  · rw [if_pos h40]; decide
  rw [if_neg h40]
  by_cases h41 : id = 41
  · rw [if_pos h41]; decide
  rw [if_neg h41]
  by_cases h42 : id = 42
  · rw [if_pos h42]; decide
  rw [if_neg h42]
  by_cases h38 : id = 38
  · rw [if_pos h38]; decide
  rw [if_neg h38]
  by_cases h39 : id = 39
  · rw [if_pos h39]; decide
  rw [if_neg h39]
  decide
theorem rmay_any (id kind : Int) (isWill : Bool) (w : World) : Calls Try.prog 93 #[.int .i64 id, .int .i64 kind, .bool isWill] w fun e w' => e = .returned (.bool (mayR id kind isWill)) ∧ w = w' := by
  have hl := whereS_len id
  go_enter Try.func93, Try.ntmps93
  go_wp2_with fail
  refine (rwhere_any id _).mono ?_
  rintro _ _ ⟨rfl, rfl⟩
  go_wp2_with fail
  refine (letter_any kind isWill _).mono ?_
  rintro _ _ ⟨rfl, rfl⟩
  go_wp2_with fail
  refine (in_any _ _ _ (by omega)).mono ?_
  rintro _ _ ⟨rfl, rfl⟩
  go_wp2
  go_ret
  exact ⟨rfl, rfl⟩
theorem hasC_dash (id : Int) : hasC (whereS id) 45 = false := by
  unfold whereS
  by_cases h1 : id = 1
  · rw [if_pos h1]; decide
  rw [if_neg h1]
  by_cases h2 : id = 2
  · rw [if_pos h2]; decide
  rw [if_neg h2]
  by_cases h3 : id = 3
  · rw [if_pos h3]; decide
  rw [if_neg h3]
  by_cases h8 : id = 8
  · rw [if_pos h8]; decide
  rw [if_neg h8]
  by_cases h9 : id = 9
  · rw [if_pos h9]; decide
  rw [if_neg h9]
  by_cases h11 : id = 11
  · rw [if_pos h11]; decide
  rw [if_neg h11]
  by_cases h17 : id = 17
  · rw [if_pos h17]; decide
  rw [if_neg h17]
  by_cases h18 : id = 18
  · rw [if_pos h18]; decide
  rw [if_neg h18]
  by_cases h19 : id = 19
  · rw [if_pos h19]; decide
  rw [if_neg h19]
  by_cases h21 : id = 21
  · rw [if_pos h21]; decide
  rw [if_neg h21]
  by_cases h22 : id = 22
  · rw [if_pos h22]; decide
  rw [if_neg h22]
  by_cases h23 : id = 23
  · rw [if_pos h23]; decide
  rw [if_neg h23]
  by_cases h25 : id = 25
  · rw [if_pos h25]; decide
  rw [if_neg h25]
  by_cases h24 : id = 24
  · rw [if_pos h24]; decide
  rw [if_neg h24]
  by_cases h26 : id = 26
  · rw [if_pos h26]; decide
  rw [if_neg h26]
  by_cases h28 : id = 28
  · rw [if_pos h28]; decide
  rw [if_neg h28]
  by_cases h31 : id = 31
  · rw [if_pos h31]; decide
  rw [if_neg h31]
  by_cases h33 : id = 33
  · rw [if_pos h33]; decide
  rw [if_neg h33]
  by_cases h34 : id = 34
  · rw [if_pos h34]; decide
  rw [if_neg h34]
  by_cases h35 : id = 35
  · rw [if_pos h35]; decide
  rw [if_neg h35]
  by_cases h36 : id = 36
  · rw [if_pos h36]; decide
  rw [if_neg h36]
  by_cases h37 : id = 37
  · rw [if_pos h37]; decide
  rw [if_neg h37]
  by_cases h40 : id = 40
  · rw [if_pos h40]; decide
  rw [if_neg h40]
  by_cases h41 : id = 41
  · rw [if_pos h41]; decide
  rw [if_neg h41]
  by_cases h42 : id = 42
  · rw [if_pos h42]; decide
  rw [if_neg h42]
  by_cases h38 : id = 38
  · rw [if_pos h38]; decide
  rw [if_neg h38]
  by_cases h39 : id = 39
  · rw [if_pos h39]; decide
  rw [if_neg h39]
  decide
theorem and_zero (x : Int) : bits .and .i64 x 0 = 0 := by unfold bits; simp [IntKind.wrap_i64]
theorem zero_and (x : Int) : bits .and .i64 0 x = 0 := by unfold bits; simp [IntKind.wrap_i64]
theorem may1_one : ∀ k : Fin 16, (mayR 1 (k.val : Int) false = mayB 1 (k.val : Int) false ∧ (mayB 1 (k.val : Int) false = true → manyB 1 (k.val : Int) false = decide (((1 : Int) = 38 ∨ (1 : Int) = 11 ∧ (k.val : Int) = 3)))) := by decide +kernel
theorem mayw1_one : mayR 1 0 true = mayB 1 0 true ∧ (mayB 1 0 true = true → manyB 1 0 true = decide ((1 : Int) = 38)) := by decide +kernel
theorem may2_one : ∀ k : Fin 16, (mayR 2 (k.val : Int) false = mayB 2 (k.val : Int) false ∧ (mayB 2 (k.val : Int) false = true → manyB 2 (k.val : Int) false = decide (((2 : Int) = 38 ∨ (2 : Int) = 11 ∧ (k.val : Int) = 3)))) := by decide +kernel
theorem mayw2_one : mayR 2 0 true = mayB 2 0 true ∧ (mayB 2 0 true = true → manyB 2 0 true = decide ((2 : Int) = 38)) := by decide +kernel
theorem may3_one : ∀ k : Fin 16, (mayR 3 (k.val : Int) false = mayB 3 (k.val : Int) false ∧ (mayB 3 (k.val : Int) false = true → manyB 3 (k.val : Int) false = decide (((3 : Int) = 38 ∨ (3 : Int) = 11 ∧ (k.val : Int) = 3)))) := by decide +kernel
theorem mayw3_one : mayR 3 0 true = mayB 3 0 true ∧ (mayB 3 0 true = true → manyB 3 0 true = decide ((3 : Int) = 38)) := by decide +kernel
theorem may8_one : ∀ k : Fin 16, (mayR 8 (k.val : Int) false = mayB 8 (k.val : Int) false ∧ (mayB 8 (k.val : Int) false = true → manyB 8 (k.val : Int) false = decide (((8 : Int) = 38 ∨ (8 : Int) = 11 ∧ (k.val : Int) = 3)))) := by decide +kernel
theorem mayw8_one : mayR 8 0 true = mayB 8 0 true ∧ (mayB 8 0 true = true → manyB 8 0 true = decide ((8 : Int) = 38)) := by decide +kernel
theorem may9_one : ∀ k : Fin 16, (mayR 9 (k.val : Int) false = mayB 9 (k.val : Int) false ∧ (mayB 9 (k.val : Int) false = true → manyB 9 (k.val : Int) false = decide (((9 : Int) = 38 ∨ (9 : Int) = 11 ∧ (k.val : Int) = 3)))) := by decide +kernel
theorem mayw9_one : mayR 9 0 true = mayB 9 0 true ∧ (mayB 9 0 true = true → manyB 9 0 true = decide ((9 : Int) = 38)) := by decide +kernel
theorem may11_one : ∀ k : Fin 16, (mayR 11 (k.val : Int) false = mayB 11 (k.val : Int) false ∧ (mayB 11 (k.val : Int) false = true → manyB 11 (k.val : Int) false = decide (((11 : Int) = 38 ∨ (11 : Int) = 11 ∧ (k.val : Int) = 3)))) := by decide +kernel
theorem mayw11_one : mayR 11 0 true = mayB 11 0 true ∧ (mayB 11 0 true = true → manyB 11 0 true = decide ((11 : Int) = 38)) := by decide +kernel
theorem may17_one : ∀ k : Fin 16, (mayR 17 (k.val : Int) false = mayB 17 (k.val : Int) false ∧ (mayB 17 (k.val : Int) false = true → manyB 17 (k.val : Int) false = decide (((17 : Int) = 38 ∨ (17 : Int) = 11 ∧ (k.val : Int) = 3)))) := by decide +kernel
theorem mayw17_one : mayR 17 0 true = mayB 17 0 true ∧ (mayB 17 0 true = true → manyB 17 0 true = decide ((17 : Int) = 38)) := by decide +kernel
theorem may18_one : ∀ k : Fin 16, (mayR 18 (k.val : Int) false = mayB 18 (k.val : Int) false ∧ (mayB 18 (k.val : Int) false = true → manyB 18 (k.val : Int) false = decide (((18 : Int) = 38 ∨ (18 : Int) = 11 ∧ (k.val : Int) = 3)))) := by decide +kernel
theorem mayw18_one : mayR 18 0 true = mayB 18 0 true ∧ (mayB 18 0 true = true → manyB 18 0 true = decide ((18 : Int) = 38)) := by decide +kernel
theorem may19_one : ∀ k : Fin 16, (mayR 19 (k.val : Int) false = mayB 19 (k.val : Int) false ∧ (mayB 19 (k.val : Int) false = true → manyB 19 (k.val : Int) false = decide (((19 : Int) = 38 ∨ (19 : Int) = 11 ∧ (k.val : Int) = 3)))) := by decide +kernel
theorem mayw19_one : mayR 19 0 true = mayB 19 0 true ∧ (mayB 19 0 true = true → manyB 19 0 true = decide ((19 : Int) = 38)) := by decide +kernel
theorem may21_one : ∀ k : Fin 16, (mayR 21 (k.val : Int) false = mayB 21 (k.val : Int) false ∧ (mayB 21 (k.val : Int) false = true → manyB 21 (k.val : Int) false = decide (((21 : Int) = 38 ∨ (21 : Int) = 11 ∧ (k.val : Int) = 3)))) := by decide +kernel
theorem mayw21_one : mayR 21 0 true = mayB 21 0 true ∧ (mayB 21 0 true = true → manyB 21 0 true = decide ((21 : Int) = 38)) := by decide +kernel
theorem may22_one : ∀ k : Fin 16, (mayR 22 (k.val : Int) false = mayB 22 (k.val : Int) false ∧ (mayB 22 (k.val : Int) false = true → manyB 22 (k.val : Int) false = decide (((22 : Int) = 38 ∨ (22 : Int) = 11 ∧ (k.val : Int) = 3)))) := by decide +kernel
theorem mayw22_one : mayR 22 0 true = mayB 22 0 true ∧ (mayB 22 0 true = true → manyB 22 0 true = decide ((22 : Int) = 38)) := by decide +kernel
theorem may23_one : ∀ k : Fin 16, (mayR 23 (k.val : Int) false = mayB 23 (k.val : Int) false ∧ (mayB 23 (k.val : Int) false = true → manyB 23 (k.val : Int) false = decide (((23 : Int) = 38 ∨ (23 : Int) = 11 ∧ (k.val : Int) = 3)))) := by decide +kernel
theorem mayw23_one : mayR 23 0 true = mayB 23 0 true ∧ (mayB 23 0 true = true → manyB 23 0 true = decide ((23 : Int) = 38)) := by decide +kernel
theorem may25_one : ∀ k : Fin 16, (mayR 25 (k.val : Int) false = mayB 25 (k.val : Int) false ∧ (mayB 25 (k.val : Int) false = true → manyB 25 (k.val : Int) false = decide (((25 : Int) = 38 ∨ (25 : Int) = 11 ∧ (k.val : Int) = 3)))) := by decide +kernel
theorem mayw25_one : mayR 25 0 true = mayB 25 0 true ∧ (mayB 25 0 true = true → manyB 25 0 true = decide ((25 : Int) = 38)) := by decide +kernel
theorem may24_one : ∀ k : Fin 16, (mayR 24 (k.val : Int) false = mayB 24 (k.val : Int) false ∧ (mayB 24 (k.val : Int) false = true → manyB 24 (k.val : Int) false = decide (((24 : Int) = 38 ∨ (24 : Int) = 11 ∧ (k.val : Int) = 3)))) := by decide +kernel
theorem mayw24_one : mayR 24 0 true = mayB 24 0 true ∧ (mayB 24 0 true = true → manyB 24 0 true = decide ((24 : Int) = 38)) := by decide +kernel
theorem may26_one : ∀ k : Fin 16, (mayR 26 (k.val : Int) false = mayB 26 (k.val : Int) false ∧ (mayB 26 (k.val : Int) false = true → manyB 26 (k.val : Int) false = decide (((26 : Int) = 38 ∨ (26 : Int) = 11 ∧ (k.val : Int) = 3)))) := by decide +kernel
theorem mayw26_one : mayR 26 0 true = mayB 26 0 true ∧ (mayB 26 0 true = true → manyB 26 0 true = decide ((26 : Int) = 38)) := by decide +kernel
theorem may28_one : ∀ k : Fin 16, (mayR 28 (k.val : Int) false = mayB 28 (k.val : Int) false ∧ (mayB 28 (k.val : Int) false = true → manyB 28 (k.val : Int) false = decide (((28 : Int) = 38 ∨ (28 : Int) = 11 ∧ (k.val : Int) = 3)))) := by decide +kernel
theorem mayw28_one : mayR 28 0 true = mayB 28 0 true ∧ (mayB 28 0 true = true → manyB 28 0 true = decide ((28 : Int) = 38)) := by decide +kernel
theorem may31_one : ∀ k : Fin 16, (mayR 31 (k.val : Int) false = mayB 31 (k.val : Int) false ∧ (mayB 31 (k.val : Int) false = true → manyB 31 (k.val : Int) false = decide (((31 : Int) = 38 ∨ (31 : Int) = 11 ∧ (k.val : Int) = 3)))) := by decide +kernel
theorem mayw31_one : mayR 31 0 true = mayB 31 0 true ∧ (mayB 31 0 true = true → manyB 31 0 true = decide ((31 : Int) = 38)) := by decide +kernel
theorem may33_one : ∀ k : Fin 16, (mayR 33 (k.val : Int) false = mayB 33 (k.val : Int) false ∧ (mayB 33 (k.val : Int) false = true → manyB 33 (k.val : Int) false = decide (((33 : Int) = 38 ∨ (33 : Int) = 11 ∧ (k.val : Int) = 3)))) := by decide +kernel
theorem mayw33_one : mayR 33 0 true = mayB 33 0 true ∧ (mayB 33 0 true = true → manyB 33 0 true = decide ((33 : Int) = 38)) := by decide +kernel
theorem may34_one : ∀ k : Fin 16, (mayR 34 (k.val : Int) false = mayB 34 (k.val : Int) false ∧ (mayB 34 (k.val : Int) false = true → manyB 34 (k.val : Int) false = decide (((34 : Int) = 38 ∨ (34 : Int) = 11 ∧ (k.val : Int) = 3)))) := by decide +kernel
theorem mayw34_one : mayR 34 0 true = mayB 34 0 true ∧ (mayB 34 0 true = true → manyB 34 0 true = decide ((34 : Int) = 38)) := by decide +kernel
theorem may35_one : ∀ k : Fin 16, (mayR 35 (k.val : Int) false = mayB 35 (k.val : Int) false ∧ (mayB 35 (k.val : Int) false = true → manyB 35 (k.val : Int) false = decide (((35 : Int) = 38 ∨ (35 : Int) = 11 ∧ (k.val : Int) = 3)))) := by decide +kernel
theorem mayw35_one : mayR 35 0 true = mayB 35 0 true ∧ (mayB 35 0 true = true → manyB 35 0 true = decide ((35 : Int) = 38)) := by decide +kernel
theorem may36_one : ∀ k : Fin 16, (mayR 36 (k.val : Int) false = mayB 36 (k.val : Int) false ∧ (mayB 36 (k.val : Int) false = true → manyB 36 (k.val : Int) false = decide (((36 : Int) = 38 ∨ (36 : Int) = 11 ∧ (k.val : Int) = 3)))) := by decide +kernel
theorem mayw36_one : mayR 36 0 true = mayB 36 0 true ∧ (mayB 36 0 true = true → manyB 36 0 true = decide ((36 : Int) = 38)) := by decide +kernel
theorem may37_one : ∀ k : Fin 16, (mayR 37 (k.val : Int) false = mayB 37 (k.val : Int) false ∧ (mayB 37 (k.val : Int) false = true → manyB 37 (k.val : Int) false = decide (((37 : Int) = 38 ∨ (37 : Int) = 11 ∧ (k.val : Int) = 3)))) := by decide +kernel
theorem mayw37_one : mayR 37 0 true = mayB 37 0 true ∧ (mayB 37 0 true = true → manyB 37 0 true = decide ((37 : Int) = 38)) := by decide +kernel
theorem may40_one : ∀ k : Fin 16, (mayR 40 (k.val : Int) false = mayB 40 (k.val : Int) false ∧ (mayB 40 (k.val : Int) false = true → manyB 40 (k.val : Int) false = decide (((40 : Int) = 38 ∨ (40 : Int) = 11 ∧ (k.val : Int) = 3)))) := by decide +kernel
theorem mayw40_one : mayR 40 0 true = mayB 40 0 true ∧ (mayB 40 0 true = true → manyB 40 0 true = decide ((40 : Int) = 38)) := by decide +kernel
theorem may41_one : ∀ k : Fin 16, (mayR 41 (k.val : Int) false = mayB 41 (k.val : Int) false ∧ (mayB 41 (k.val : Int) false = true → manyB 41 (k.val : Int) false = decide (((41 : Int) = 38 ∨ (41 : Int) = 11 ∧ (k.val : Int) = 3)))) := by decide +kernel
theorem mayw41_one : mayR 41 0 true = mayB 41 0 true ∧ (mayB 41 0 true = true → manyB 41 0 true = decide ((41 : Int) = 38)) := by decide +kernel
theorem may42_one : ∀ k : Fin 16, (mayR 42 (k.val : Int) false = mayB 42 (k.val : Int) false ∧ (mayB 42 (k.val : Int) false = true → manyB 42 (k.val : Int) false = decide (((42 : Int) = 38 ∨ (42 : Int) = 11 ∧ (k.val : Int) = 3)))) := by decide +kernel
theorem mayw42_one : mayR 42 0 true = mayB 42 0 true ∧ (mayB 42 0 true = true → manyB 42 0 true = decide ((42 : Int) = 38)) := by decide +kernel
theorem may38_one : ∀ k : Fin 16, (mayR 38 (k.val : Int) false = mayB 38 (k.val : Int) false ∧ (mayB 38 (k.val : Int) false = true → manyB 38 (k.val : Int) false = decide (((38 : Int) = 38 ∨ (38 : Int) = 11 ∧ (k.val : Int) = 3)))) := by decide +kernel
theorem mayw38_one : mayR 38 0 true = mayB 38 0 true ∧ (mayB 38 0 true = true → manyB 38 0 true = decide ((38 : Int) = 38)) := by decide +kernel
theorem may39_one : ∀ k : Fin 16, (mayR 39 (k.val : Int) false = mayB 39 (k.val : Int) false ∧ (mayB 39 (k.val : Int) false = true → manyB 39 (k.val : Int) false = decide (((39 : Int) = 38 ∨ (39 : Int) = 11 ∧ (k.val : Int) = 3)))) := by decide +kernel
theorem mayw39_one : mayR 39 0 true = mayB 39 0 true ∧ (mayB 39 0 true = true → manyB 39 0 true = decide ((39 : Int) = 38)) := by decide +kernel
theorem mayB_out (id kind : Int) (h : kind < 1 ∨ 15 < kind) : mayB id kind false = false := by
  unfold mayB
  rw [show setN kind false = 0 from by rw [setN, if_neg (by decide), if_pos h], and_zero]; rfl
theorem may_will (id k k' : Int) : mayB id k true = mayB id k' true ∧ mayR id k true = mayR id k' true ∧ manyB id k true = manyB id k' true := ⟨rfl, rfl, rfl⟩
theorem may_eq (id kind : Int) (isWill : Bool) : mayR id kind isWill = mayB id kind isWill ∧ (mayB id kind isWill = true → manyB id kind isWill = decide (id = 38 ∨ id = 11 ∧ kind = 3 ∧ isWill = false)) := by
  cases isWill
  · by_cases hk : kind < 1 ∨ 15 < kind
    · have h1 := mayB_out id kind hk
      refine ⟨?_, fun h => by rw [h1] at h; cases h⟩
      rw [h1, mayR, show letterC kind false = 45 from by rw [letterC, if_neg (by decide), if_pos (by omega)]]
      exact hasC_dash id
    · obtain ⟨k, rfl⟩ := Int.eq_ofNat_of_zero_le (show 0 ≤ kind by omega)
      have hk16 : k < 16 := by omega
      by_cases h1 : id = 1
      · subst h1
        have h := may1_one ⟨k, hk16⟩
        exact ⟨h.1, fun hm => by rw [h.2 hm]; simp⟩
      by_cases h2 : id = 2
      · subst h2
        have h := may2_one ⟨k, hk16⟩
        exact ⟨h.1, fun hm => by rw [h.2 hm]; simp⟩
      by_cases h3 : id = 3
      · subst h3
        have h := may3_one ⟨k, hk16⟩
        exact ⟨h.1, fun hm => by rw [h.2 hm]; simp⟩
      by_cases h8 : id = 8
      · subst h8
        have h := may8_one ⟨k, hk16⟩
        exact ⟨h.1, fun hm => by rw [h.2 hm]; simp⟩
      by_cases h9 : id = 9
      · subst h9
        have h := may9_one ⟨k, hk16⟩
        exact ⟨h.1, fun hm => by rw [h.2 hm]; simp⟩
      by_cases h11 : id = 11
      · subst h11
        have h := may11_one ⟨k, hk16⟩
        exact ⟨h.1, fun hm => by rw [h.2 hm]; simp⟩
      by_cases h17 : id = 17
      · subst h17
        have h := may17_one ⟨k, hk16⟩
        exact ⟨h.1, fun hm => by rw [h.2 hm]; simp⟩
      by_cases h18 : id = 18
      · subst h18
        have h := may18_one ⟨k, hk16⟩
        exact ⟨h.1, fun hm => by rw [h.2 hm]; simp⟩
      by_cases h19 : id = 19
      · subst h19
        have h := may19_one ⟨k, hk16⟩
        exact ⟨h.1, fun hm => by rw [h.2 hm]; simp⟩
      by_cases h21 : id = 21
      · subst h21
        have h := may21_one ⟨k, hk16⟩
        exact ⟨h.1, fun hm => by rw [h.2 hm]; simp⟩
      by_cases h22 : id = 22
      · subst h22
        have h := may22_one ⟨k, hk16⟩
        exact ⟨h.1, fun hm => by rw [h.2 hm]; simp⟩
      by_cases h23 : id = 23
      · subst h23
        have h := may23_one ⟨k, hk16⟩
        exact ⟨h.1, fun hm => by rw [h.2 hm]; simp⟩
      by_cases h25 : id = 25
      · subst h25
        have h := may25_one ⟨k, hk16⟩
        exact ⟨h.1, fun hm => by rw [h.2 hm]; simp⟩
      by_cases h24 : id = 24
      · subst h24
        have h := may24_one ⟨k, hk16⟩
        exact ⟨h.1, fun hm => by rw [h.2 hm]; simp⟩
      by_cases h26 : id = 26
      · subst h26
        have h := may26_one ⟨k, hk16⟩
        exact ⟨h.1, fun hm => by rw [h.2 hm]; simp⟩
      by_cases h28 : id = 28
      · subst h28
        have h := may28_one ⟨k, hk16⟩
        exact ⟨h.1, fun hm => by rw [h.2 hm]; simp⟩
      by_cases h31 : id = 31
      · subst h31
        have h := may31_one ⟨k, hk16⟩
        exact ⟨h.1, fun hm => by rw [h.2 hm]; simp⟩
      by_cases h33 : id = 33
      · subst h33
        have h := may33_one ⟨k, hk16⟩
        exact ⟨h.1, fun hm => by rw [h.2 hm]; simp⟩
      by_cases h34 : id = 34
      · subst h34
        have h := may34_one ⟨k, hk16⟩
        exact ⟨h.1, fun hm => by rw [h.2 hm]; simp⟩
      by_cases h35 : id = 35
      · subst h35
        have h := may35_one ⟨k, hk16⟩
        exact ⟨h.1, fun hm => by rw [h.2 hm]; simp⟩
      by_cases h36 : id = 36
      · subst h36
        have h := may36_one ⟨k, hk16⟩
        exact ⟨h.1, fun hm => by rw [h.2 hm]; simp⟩
      by_cases h37 : id = 37
      · subst h37
        have h := may37_one ⟨k, hk16⟩
        exact ⟨h.1, fun hm => by rw [h.2 hm]; simp⟩
      by_cases h40 : id = 40
      · subst h40
        have h := may40_one ⟨k, hk16⟩
        exact ⟨h.1, fun hm => by rw [h.2 hm]; simp⟩
      by_cases h41 : id = 41
      · subst h41
        have h := may41_one ⟨k, hk16⟩
        exact ⟨h.1, fun hm => by rw [h.2 hm]; simp⟩
      by_cases h42 : id = 42
      · subst h42
        have h := may42_one ⟨k, hk16⟩
        exact ⟨h.1, fun hm => by rw [h.2 hm]; simp⟩
      by_cases h38 : id = 38
      · subst h38
        have h := may38_one ⟨k, hk16⟩
        exact ⟨h.1, fun hm => by rw [h.2 hm]; simp⟩
      by_cases h39 : id = 39
      · subst h39
        have h := may39_one ⟨k, hk16⟩
        exact ⟨h.1, fun hm => by rw [h.2 hm]; simp⟩
      have e : ruleOf id = ⟨0, 0, 0, 0, 0⟩ := by
        unfold ruleOf
        rw [if_neg h1, if_neg h2, if_neg h3, if_neg h8, if_neg h9, if_neg h11, if_neg h17, if_neg h18, if_neg h19, if_neg h21, if_neg h22, if_neg h23, if_neg h25, if_neg h24, if_neg h26, if_neg h28, if_neg h31, if_neg h33, if_neg h34, if_neg h35, if_neg h36, if_neg h37, if_neg h40, if_neg h41, if_neg h42, if_neg h38, if_neg h39]
      have e2 : whereS id = [] := by
        unfold whereS
        rw [if_neg h1, if_neg h2, if_neg h3, if_neg h8, if_neg h9, if_neg h11, if_neg h17, if_neg h18, if_neg h19, if_neg h21, if_neg h22, if_neg h23, if_neg h25, if_neg h24, if_neg h26, if_neg h28, if_neg h31, if_neg h33, if_neg h34, if_neg h35, if_neg h36, if_neg h37, if_neg h40, if_neg h41, if_neg h42, if_neg h38, if_neg h39]
      have hb : mayB id k false = false := by unfold mayB; rw [e]; dsimp only; rw [zero_and]; rfl
      exact ⟨by rw [hb, mayR, e2]; rfl, fun h => by rw [hb] at h; cases h⟩
  · obtain ⟨a1, a2, a3⟩ := may_will id kind 0
    rw [a1, a2, a3]
    by_cases h1 : id = 1
    · subst h1
      exact ⟨mayw1_one.1, fun hm => by rw [mayw1_one.2 hm]; simp⟩
    by_cases h2 : id = 2
    · subst h2
      exact ⟨mayw2_one.1, fun hm => by rw [mayw2_one.2 hm]; simp⟩
    by_cases h3 : id = 3
    · subst h3
      exact ⟨mayw3_one.1, fun hm => by rw [mayw3_one.2 hm]; simp⟩
    by_cases h8 : id = 8
    · subst h8
      exact ⟨mayw8_one.1, fun hm => by rw [mayw8_one.2 hm]; simp⟩
    by_cases h9 : id = 9
    · subst h9
      exact ⟨mayw9_one.1, fun hm => by rw [mayw9_one.2 hm]; simp⟩
    by_cases h11 : id = 11
    · subst h11
      exact ⟨mayw11_one.1, fun hm => by rw [mayw11_one.2 hm]; simp⟩
    by_cases h17 : id = 17
    · subst h17
      exact ⟨mayw17_one.1, fun hm => by rw [mayw17_one.2 hm]; simp⟩
    by_cases h18 : id = 18
    · subst h18
      exact ⟨mayw18_one.1, fun hm => by rw [mayw18_one.2 hm]; simp⟩
    by_cases h19 : id = 19
    · subst h19
      exact ⟨mayw19_one.1, fun hm => by rw [mayw19_one.2 hm]; simp⟩
    by_cases h21 : id = 21
    · subst h21
      exact ⟨mayw21_one.1, fun hm => by rw [mayw21_one.2 hm]; simp⟩
    by_cases h22 : id = 22
    · subst h22
      exact ⟨mayw22_one.1, fun hm => by rw [mayw22_one.2 hm]; simp⟩
    by_cases h23 : id = 23
    · subst h23
      exact ⟨mayw23_one.1, fun hm => by rw [mayw23_one.2 hm]; simp⟩
    by_cases h25 : id = 25
    · subst h25
      exact ⟨mayw25_one.1, fun hm => by rw [mayw25_one.2 hm]; simp⟩
    by_cases h24 : id = 24
    · subst h24
      exact ⟨mayw24_one.1, fun hm => by rw [mayw24_one.2 hm]; simp⟩
    by_cases h26 : id = 26
    · subst h26
      exact ⟨mayw26_one.1, fun hm => by rw [mayw26_one.2 hm]; simp⟩
    by_cases h28 : id = 28
    · subst h28
      exact ⟨mayw28_one.1, fun hm => by rw [mayw28_one.2 hm]; simp⟩
    by_cases h31 : id = 31
    · subst h31
      exact ⟨mayw31_one.1, fun hm => by rw [mayw31_one.2 hm]; simp⟩
    by_cases h33 : id = 33
    · subst h33
      exact ⟨mayw33_one.1, fun hm => by rw [mayw33_one.2 hm]; simp⟩
    by_cases h34 : id = 34
    · subst h34
      exact ⟨mayw34_one.1, fun hm => by rw [mayw34_one.2 hm]; simp⟩
    by_cases h35 : id = 35
    · subst h35
      exact ⟨mayw35_one.1, fun hm => by rw [mayw35_one.2 hm]; simp⟩
    by_cases h36 : id = 36
    · subst h36
      exact ⟨mayw36_one.1, fun hm => by rw [mayw36_one.2 hm]; simp⟩
    by_cases h37 : id = 37
    · subst h37
      exact ⟨mayw37_one.1, fun hm => by rw [mayw37_one.2 hm]; simp⟩
    by_cases h40 : id = 40
    · subst h40
      exact ⟨mayw40_one.1, fun hm => by rw [mayw40_one.2 hm]; simp⟩
    by_cases h41 : id = 41
    · subst h41
      exact ⟨mayw41_one.1, fun hm => by rw [mayw41_one.2 hm]; simp⟩
    by_cases h42 : id = 42
    · subst h42
      exact ⟨mayw42_one.1, fun hm => by rw [mayw42_one.2 hm]; simp⟩
    by_cases h38 : id = 38
    · subst h38
      exact ⟨mayw38_one.1, fun hm => by rw [mayw38_one.2 hm]; simp⟩
    by_cases h39 : id = 39
    · subst h39
      exact ⟨mayw39_one.1, fun hm => by rw [mayw39_one.2 hm]; simp⟩
    have e : ruleOf id = ⟨0, 0, 0, 0, 0⟩ := by
      unfold ruleOf
      rw [if_neg h1, if_neg h2, if_neg h3, if_neg h8, if_neg h9, if_neg h11, if_neg h17, if_neg h18, if_neg h19, if_neg h21, if_neg h22, if_neg h23, if_neg h25, if_neg h24, if_neg h26, if_neg h28, if_neg h31, if_neg h33, if_neg h34, if_neg h35, if_neg h36, if_neg h37, if_neg h40, if_neg h41, if_neg h42, if_neg h38, if_neg h39]
    have e2 : whereS id = [] := by
      unfold whereS
      rw [if_neg h1, if_neg h2, if_neg h3, if_neg h8, if_neg h9, if_neg h11, if_neg h17, if_neg h18, if_neg h19, if_neg h21, if_neg h22, if_neg h23, if_neg h25, if_neg h24, if_neg h26, if_neg h28, if_neg h31, if_neg h33, if_neg h34, if_neg h35, if_neg h36, if_neg h37, if_neg h40, if_neg h41, if_neg h42, if_neg h38, if_neg h39]
    have hb : mayB id 0 true = false := by unfold mayB; rw [e]; dsimp only; rw [zero_and]; rfl
    exact ⟨by rw [hb, mayR, e2]; rfl, fun h => by rw [hb] at h; cases h⟩
end Go.Proofs.Ythioageiebchlaa
