/- What says, take of the reference of layer 3 come to. Conditions: strings that may be. -/
import Derived.Test.YthioageiebchlaaPropI
import Derived.Test.YthioageiebchlaaRefB
import Derived.Deep.DeepCutAuto
import Derived.BigQuiet
namespace Go.Proofs.Ythioageiebchlaa
open Go.RowKit

def sayOk (id : Int) (n : Nat) : Bool := if (ruleOf id).kind = 1 then decide (n ≤ 1) else if id = 11 ∨ id = 33 ∨ id = 39 then decide (1 ≤ n) else true
set_option maxRecDepth 100000 in
theorem says_any (id : Int) (n : Nat) (w : World) (hn : n < 4294967296) : Calls Try.prog 106 #[.int .i64 id, .int .u32 n] w fun e w' => e = .returned (.bool (sayOk id n)) ∧ w = w' := by
  by_cases h1 : (ruleOf id).kind = 1
  · have H := Lib.hid (show sayOk id n = decide (n ≤ 1) from if_pos h1)
    have hk := Lib.hid h1
    have hle : Hid (decide (n ≤ 1) = decide ((n : Int) ≤ 1)) := Lib.hid (by by_cases h : n ≤ 1 <;> simp [h] <;> omega)
    clear h1
    go_enter Try.func106, Try.ntmps106
    go_wp2_with fail
    refine (rkind_any id _).mono ?_
    rintro _ _ ⟨rfl, rfl⟩
    rw [hk.out]
    go_wp2
    go_ret
    rw [H.out, hle.out]
    exact ⟨rfl, rfl⟩
  · have t1 : ((ruleOf id).kind == 1) = false := by simpa using h1
    by_cases h2 : id = 11 ∨ id = 33 ∨ id = 39
    · have H := Lib.hid (show sayOk id n = decide (1 ≤ n) from (if_neg h1).trans (if_pos h2))
      have hle : Hid (decide (1 ≤ n) = decide ((1 : Int) ≤ (n : Int))) := Lib.hid (by by_cases h : 1 ≤ n <;> simp [h] <;> omega)
      clear h1
      rcases h2 with rfl | rfl | rfl
      all_goals
        go_enter Try.func106, Try.ntmps106
        go_wp2_with fail
        refine (rkind_any _ _).mono ?_
        rintro _ _ ⟨rfl, rfl⟩
        go_wp2
        go_ret
        rw [H.out, hle.out]
        exact ⟨rfl, rfl⟩
    · have H := Lib.hid (show sayOk id n = true from (if_neg h1).trans (if_neg h2))
      have a1 : (id == 11) = false := by simp; omega
      have a2 : (id == 33) = false := by simp; omega
      have a3 : (id == 39) = false := by simp; omega
      clear h1 h2
      go_enter Try.func106, Try.ntmps106
      go_wp2_with fail
      refine (rkind_any id _).mono ?_
      rintro _ _ ⟨rfl, rfl⟩
      go_wp2
      go_ret
      rw [H.out]
      exact ⟨rfl, rfl⟩
theorem says_chk (id : Int) (n : Nat) (h : (ruleOf id).kind = 1 ∨ ((ruleOf id).kind = 2 ∧ n < 65536) ∨ ((ruleOf id).kind = 3 ∧ n < 4294967296) ∨ ((ruleOf id).kind = 4 ∧ n ≤ 268435455)) : sayOk id n = true ↔ ¬ (n < (ruleOf id).least ∨ (ruleOf id).most < n) := by
  by_cases h1 : id = 1
  · subst h1
    simp [ruleOf] at h
    try simp [sayOk, ruleOf]
    try omega
  by_cases h2 : id = 2
  · subst h2
    simp [ruleOf] at h
    try simp [sayOk, ruleOf]
    try omega
  by_cases h3 : id = 3
  · subst h3
    simp [ruleOf] at h
    try simp [sayOk, ruleOf]
    try omega
  by_cases h8 : id = 8
  · subst h8
    simp [ruleOf] at h
    try simp [sayOk, ruleOf]
    try omega
  by_cases h9 : id = 9
  · subst h9
    simp [ruleOf] at h
    try simp [sayOk, ruleOf]
    try omega
  by_cases h11 : id = 11
  · subst h11
    simp [ruleOf] at h
    try simp [sayOk, ruleOf]
    try omega
  by_cases h17 : id = 17
  · subst h17
    simp [ruleOf] at h
    try simp [sayOk, ruleOf]
    try omega
  by_cases h18 : id = 18
  · subst h18
    simp [ruleOf] at h
    try simp [sayOk, ruleOf]
    try omega
  by_cases h19 : id = 19
  · subst h19
    simp [ruleOf] at h
    try simp [sayOk, ruleOf]
    try omega
  by_cases h21 : id = 21
  · subst h21
    simp [ruleOf] at h
    try simp [sayOk, ruleOf]
    try omega
  by_cases h22 : id = 22
  · subst h22
    simp [ruleOf] at h
    try simp [sayOk, ruleOf]
    try omega
  by_cases h23 : id = 23
  · subst h23
    simp [ruleOf] at h
    try simp [sayOk, ruleOf]
    try omega
  by_cases h25 : id = 25
  · subst h25
    simp [ruleOf] at h
    try simp [sayOk, ruleOf]
    try omega
  by_cases h24 : id = 24
  · subst h24
    simp [ruleOf] at h
    try simp [sayOk, ruleOf]
    try omega
  by_cases h26 : id = 26
  · subst h26
    simp [ruleOf] at h
    try simp [sayOk, ruleOf]
    try omega
  by_cases h28 : id = 28
  · subst h28
    simp [ruleOf] at h
    try simp [sayOk, ruleOf]
    try omega
  by_cases h31 : id = 31
  · subst h31
    simp [ruleOf] at h
    try simp [sayOk, ruleOf]
    try omega
  by_cases h33 : id = 33
  · subst h33
    simp [ruleOf] at h
    try simp [sayOk, ruleOf]
    try omega
  by_cases h34 : id = 34
  · subst h34
    simp [ruleOf] at h
    try simp [sayOk, ruleOf]
    try omega
  by_cases h35 : id = 35
  · subst h35
    simp [ruleOf] at h
    try simp [sayOk, ruleOf]
    try omega
  by_cases h36 : id = 36
  · subst h36
    simp [ruleOf] at h
    try simp [sayOk, ruleOf]
    try omega
  by_cases h37 : id = 37
  · subst h37
    simp [ruleOf] at h
    try simp [sayOk, ruleOf]
    try omega
  by_cases h40 : id = 40
  · subst h40
    simp [ruleOf] at h
    try simp [sayOk, ruleOf]
    try omega
  by_cases h41 : id = 41
  · subst h41
    simp [ruleOf] at h
    try simp [sayOk, ruleOf]
    try omega
  by_cases h42 : id = 42
  · subst h42
    simp [ruleOf] at h
    try simp [sayOk, ruleOf]
    try omega
  by_cases h38 : id = 38
  · subst h38
    simp [ruleOf] at h
    try simp [sayOk, ruleOf]
    try omega
  by_cases h39 : id = 39
  · subst h39
    simp [ruleOf] at h
    try simp [sayOk, ruleOf]
    try omega
  have e : ruleOf id = ⟨0, 0, 0, 0, 0⟩ := by
    unfold ruleOf
    rw [if_neg h1, if_neg h2, if_neg h3, if_neg h8, if_neg h9, if_neg h11, if_neg h17, if_neg h18, if_neg h19, if_neg h21, if_neg h22, if_neg h23, if_neg h25, if_neg h24, if_neg h26, if_neg h28, if_neg h31, if_neg h33, if_neg h34, if_neg h35, if_neg h36, if_neg h37, if_neg h40, if_neg h41, if_neg h42, if_neg h38, if_neg h39]
  rw [e] at h
  simp at h
/-- What 'take' hands back. -/
def RTakeTo (V : Pr × Rd) (w : World) (e : Ending) (w' : World) : Prop :=
  ∃ P : Pr, e = .returned (.tuple #[.agg #[.string ⟨V.2.s.toArray⟩, .int .i64 V.2.e], .agg #[.int .i64 P.id, .int .u32 P.n, .string ⟨P.s.toArray⟩, .string ⟨P.t.toArray⟩]]) ∧ (V.2.e = 0 → P = V.1) ∧ P.n < 4294967296 ∧ Fr [] w w'
end Go.Proofs.Ythioageiebchlaa
