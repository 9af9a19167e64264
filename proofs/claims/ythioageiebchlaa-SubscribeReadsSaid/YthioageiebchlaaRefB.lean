/- What the references of layer 2 come to: the same words as the program's. Conditions: numbers within their kinds, strings that may be. -/
import Derived.Test.YthioageiebchlaaRefA
import Derived.Test.YthioageiebchlaaWord
import Derived.Test.YthioageiebchlaaPlainB
import Derived.Deep.RegionWith
import Derived.Deep.RegionHeld3
import Derived.BigQuiet
namespace Go.Proofs.Ythioageiebchlaa
open Go.RowKit

set_option maxHeartbeats 1000000 in
theorem spell_any (v : Nat) (w : World) (hv : (v : Int) < 2097152) :
    Calls Try.prog 108 #[.int .i64 (v : Int)] w fun e w' => e = .returned (.string ⟨(spell v).toArray⟩) ∧ Fr [] w w' := by
  by_cases h1 : (v : Int) < 128
  · have hs : Hid (spell v = [b8 v]) := Lib.hid (by unfold spell; rw [if_pos (by omega)])
    have hc := conv1 (v : Int) (by omega)
    go_enter Try.func108, Try.ntmps108
    go_wp2
    go_ret
    rw [hs.out]
    exact ⟨rfl, (by repeat (first | exact Fr.refl _ _ | assumption | (with_reducible apply Fr.alloc) | (with_reducible apply Fr.drew) | (with_reducible apply Fr.drewN) | (with_reducible refine Fr.setCell ?_ (Or.inl (by (try simp) <;> omega)) _) | (refine Fr.trans ?_ (by assumption) (by simp))))⟩
  by_cases h2 : (v : Int) < 2048
  · have hs : Hid (spell v = [b8 (192 + v / 64), b8 (128 + v % 64)]) := Lib.hid (by unfold spell; rw [if_neg (by omega), if_pos (by omega)])
    have hc := conv2 (192 + (v : Int) / 64) (128 + (v : Int) % 64) (by omega) (by omega)
    go_enter Try.func108, Try.ntmps108
    go_wp2
    go_ret
    rw [hs.out]
    exact ⟨rfl, (by repeat (first | exact Fr.refl _ _ | assumption | (with_reducible apply Fr.alloc) | (with_reducible apply Fr.drew) | (with_reducible apply Fr.drewN) | (with_reducible refine Fr.setCell ?_ (Or.inl (by (try simp) <;> omega)) _) | (refine Fr.trans ?_ (by assumption) (by simp))))⟩
  by_cases h3 : (v : Int) < 65536
  · have hs : Hid (spell v = [b8 (224 + v / 4096), b8 (128 + v / 64 % 64), b8 (128 + v % 64)]) := Lib.hid (by unfold spell; rw [if_neg (by omega), if_neg (by omega), if_pos (by omega)])
    have hc := conv3 (224 + (v : Int) / 4096) (128 + (v : Int) / 64 % 64) (128 + (v : Int) % 64) (by omega) (by omega) (by omega)
    go_enter Try.func108, Try.ntmps108
    go_wp2
    go_ret
    rw [hs.out]
    exact ⟨rfl, (by repeat (first | exact Fr.refl _ _ | assumption | (with_reducible apply Fr.alloc) | (with_reducible apply Fr.drew) | (with_reducible apply Fr.drewN) | (with_reducible refine Fr.setCell ?_ (Or.inl (by (try simp) <;> omega)) _) | (refine Fr.trans ?_ (by assumption) (by simp))))⟩
  · have hs : Hid (spell v = [b8 (240 + v / 262144), b8 (128 + v / 4096 % 64), b8 (128 + v / 64 % 64), b8 (128 + v % 64)]) := Lib.hid (by unfold spell; rw [if_neg (by omega), if_neg (by omega), if_neg (by omega)])
    have hc := conv4 (240 + (v : Int) / 262144) (128 + (v : Int) / 4096 % 64) (128 + (v : Int) / 64 % 64) (128 + (v : Int) % 64) (by omega) (by omega) (by omega) (by omega)
    go_enter Try.func108, Try.ntmps108
    go_wp2
    go_ret
    rw [hs.out]
    exact ⟨rfl, (by repeat (first | exact Fr.refl _ _ | assumption | (with_reducible apply Fr.alloc) | (with_reducible apply Fr.drew) | (with_reducible apply Fr.drewN) | (with_reducible refine Fr.setCell ?_ (Or.inl (by (try simp) <;> omega)) _) | (refine Fr.trans ?_ (by assumption) (by simp))))⟩

theorem sval_lt (s : List UInt8) (n : Nat) (h1 : 1 ≤ n) (h4 : n ≤ 4) : rval n s < 2097152 := by
  have h0 := (s.getD 0 0).toNat_lt
  unfold rval
  split
  · omega
  · have hl : ((s.take n).drop 1).length ≤ 3 := by simp; omega
    have h := dv_lt ((s.take n).drop 1) ((s.getD 0 0).toNat % 2 ^ (7 - n))
    show dv _ _ < _
    match n, h1, h4 with
    | 2, _, _ =>
      have hl2 : ((s.take 2).drop 1).length ≤ 1 := by simp; omega
      have := Nat.mul_le_mul (show (s.getD 0 0).toNat % 2 ^ (7 - 2) + 1 ≤ 32 by omega) (Nat.pow_le_pow_right (n := 64) (by decide) hl2)
      omega
    | 3, _, _ =>
      have hl2 : ((s.take 3).drop 1).length ≤ 2 := by simp; omega
      have := Nat.mul_le_mul (show (s.getD 0 0).toNat % 2 ^ (7 - 3) + 1 ≤ 16 by omega) (Nat.pow_le_pow_right (n := 64) (by decide) hl2)
      omega
    | 4, _, _ =>
      have := Nat.mul_le_mul (show (s.getD 0 0).toNat % 2 ^ (7 - 4) + 1 ≤ 8 by omega) (Nat.pow_le_pow_right (n := 64) (by decide) hl)
      omega

set_option maxHeartbeats 1000000 in
set_option linter.unusedVariables false in
theorem value1_any (s : List UInt8) (w : World) (hs : s.length ≤ 9223372036854775807) (hl : 1 ≤ s.length) :
    Calls Try.prog 107 #[.string ⟨s.toArray⟩, .int .i64 1] w fun e w' => e = .returned (.int .i64 (rval 1 s : Int)) ∧ w = w' := by
  obtain ⟨x, hx⟩ : ∃ x, (s.getD 0 0).toNat = x := ⟨_, rfl⟩
  have hx0 := idx_nat s 0
  rw [hx] at hx0
  have hxl : x < 256 := by rw [← hx]; exact (s.getD 0 0).toNat_lt
  have Hx := Lib.hid hx
  clear hx
  go_enter Try.func107, Try.ntmps107
  go_wp2
  go_loop [5, 6] (fun v i => ∃ k V : Nat, 1 ≤ k ∧ k ≤ 1 ∧ i = .int .i64 k ∧ v = .int .i64 (V : Int) ∧ V = dv (x) ((s.take k).drop 1)) (fun _ i => 5 - (intOf i).toNat)
  case atStart => exact ⟨1, x, by omega, by omega, rfl, by go_num, by rw [show (s.take 1).drop 1 = [] from by simp]; rfl⟩
  case round =>
    obtain ⟨k, V, hk1, hk2, rfl, rfl, hV⟩ := hrel
    have hVb : V < 1000000000 := by
      have h := dv_lt ((s.take k).drop 1) (x)
      rw [← hV] at h
      have hlen : ((s.take k).drop 1).length ≤ 1 - 1 := by simp; omega
      have h2 := Nat.mul_le_mul (show x + 1 ≤ 256 by omega) (Nat.pow_le_pow_right (n := 64) (by decide) hlen)
      omega
    have HV := Lib.hid hV
    clear hV
    by_cases hlt : (k : Int) < 1
    · obtain ⟨y, hy⟩ : ∃ y, (s.getD k 0).toNat = y := ⟨_, rfl⟩
      have hyl : y < 256 := by rw [← hy]; exact (s.getD k 0).toNat_lt
      have hyk := idx_nat s k
      rw [hy] at hyk
      have Hy := Lib.hid hy
      clear hy
      go_wp2
      go_round
      case rel => exact ⟨k + 1, V * 64 + y % 64, by omega, by omega, by go_num, by go_num, by rw [dv_snoc _ s k hk1 (by omega), HV.out, Hy.out]⟩
      case measure => simp [intOf]; omega
    · obtain rfl : k = 1 := by omega
      go_wp2
      go_ret
      refine ⟨ret_int ?_, rfl⟩
      first
        | (rw [HV.out, show (List.take 1 s).drop 1 = [] from by simp]; exact congrArg Int.ofNat (show dv x [] = rval 1 s from Hx.out.symm))
        | (unfold rval sval; rw [HV.out, Hx.out]; rfl)
set_option maxHeartbeats 1000000 in
set_option linter.unusedVariables false in
theorem value2_any (s : List UInt8) (w : World) (hs : s.length ≤ 9223372036854775807) (hl : 2 ≤ s.length) :
    Calls Try.prog 107 #[.string ⟨s.toArray⟩, .int .i64 2] w fun e w' => e = .returned (.int .i64 (rval 2 s : Int)) ∧ w = w' := by
  obtain ⟨x, hx⟩ : ∃ x, (s.getD 0 0).toNat = x := ⟨_, rfl⟩
  have hx0 := idx_nat s 0
  rw [hx] at hx0
  have hxl : x < 256 := by rw [← hx]; exact (s.getD 0 0).toNat_lt
  have Hx := Lib.hid hx
  clear hx
  go_enter Try.func107, Try.ntmps107
  go_wp2
  go_loop [5, 6] (fun v i => ∃ k V : Nat, 1 ≤ k ∧ k ≤ 2 ∧ i = .int .i64 k ∧ v = .int .i64 (V : Int) ∧ V = dv (x % 32) ((s.take k).drop 1)) (fun _ i => 5 - (intOf i).toNat)
  case atStart => exact ⟨1, x % 32, by omega, by omega, rfl, by go_num, by rw [show (s.take 1).drop 1 = [] from by simp]; rfl⟩
  case round =>
    obtain ⟨k, V, hk1, hk2, rfl, rfl, hV⟩ := hrel
    have hVb : V < 1000000000 := by
      have h := dv_lt ((s.take k).drop 1) (x % 32)
      rw [← hV] at h
      have hlen : ((s.take k).drop 1).length ≤ 2 - 1 := by simp; omega
      have h2 := Nat.mul_le_mul (show x % 32 + 1 ≤ 256 by omega) (Nat.pow_le_pow_right (n := 64) (by decide) hlen)
      omega
    have HV := Lib.hid hV
    clear hV
    by_cases hlt : (k : Int) < 2
    · obtain ⟨y, hy⟩ : ∃ y, (s.getD k 0).toNat = y := ⟨_, rfl⟩
      have hyl : y < 256 := by rw [← hy]; exact (s.getD k 0).toNat_lt
      have hyk := idx_nat s k
      rw [hy] at hyk
      have Hy := Lib.hid hy
      clear hy
      go_wp2
      go_round
      case rel => exact ⟨k + 1, V * 64 + y % 64, by omega, by omega, by go_num, by go_num, by rw [dv_snoc _ s k hk1 (by omega), HV.out, Hy.out]⟩
      case measure => simp [intOf]; omega
    · obtain rfl : k = 2 := by omega
      go_wp2
      go_ret
      refine ⟨ret_int ?_, rfl⟩
      first
        | (rw [HV.out, show (List.take 1 s).drop 1 = [] from by simp]; exact congrArg Int.ofNat (show dv x [] = rval 1 s from Hx.out.symm))
        | (unfold rval sval; rw [HV.out, Hx.out]; rfl)
set_option maxHeartbeats 1000000 in
set_option linter.unusedVariables false in
theorem value3_any (s : List UInt8) (w : World) (hs : s.length ≤ 9223372036854775807) (hl : 3 ≤ s.length) :
    Calls Try.prog 107 #[.string ⟨s.toArray⟩, .int .i64 3] w fun e w' => e = .returned (.int .i64 (rval 3 s : Int)) ∧ w = w' := by
  obtain ⟨x, hx⟩ : ∃ x, (s.getD 0 0).toNat = x := ⟨_, rfl⟩
  have hx0 := idx_nat s 0
  rw [hx] at hx0
  have hxl : x < 256 := by rw [← hx]; exact (s.getD 0 0).toNat_lt
  have Hx := Lib.hid hx
  clear hx
  go_enter Try.func107, Try.ntmps107
  go_wp2
  go_loop [5, 6] (fun v i => ∃ k V : Nat, 1 ≤ k ∧ k ≤ 3 ∧ i = .int .i64 k ∧ v = .int .i64 (V : Int) ∧ V = dv (x % 16) ((s.take k).drop 1)) (fun _ i => 5 - (intOf i).toNat)
  case atStart => exact ⟨1, x % 16, by omega, by omega, rfl, by go_num, by rw [show (s.take 1).drop 1 = [] from by simp]; rfl⟩
  case round =>
    obtain ⟨k, V, hk1, hk2, rfl, rfl, hV⟩ := hrel
    have hVb : V < 1000000000 := by
      have h := dv_lt ((s.take k).drop 1) (x % 16)
      rw [← hV] at h
      have hlen : ((s.take k).drop 1).length ≤ 3 - 1 := by simp; omega
      have h2 := Nat.mul_le_mul (show x % 16 + 1 ≤ 256 by omega) (Nat.pow_le_pow_right (n := 64) (by decide) hlen)
      omega
    have HV := Lib.hid hV
    clear hV
    by_cases hlt : (k : Int) < 3
    · obtain ⟨y, hy⟩ : ∃ y, (s.getD k 0).toNat = y := ⟨_, rfl⟩
      have hyl : y < 256 := by rw [← hy]; exact (s.getD k 0).toNat_lt
      have hyk := idx_nat s k
      rw [hy] at hyk
      have Hy := Lib.hid hy
      clear hy
      go_wp2
      go_round
      case rel => exact ⟨k + 1, V * 64 + y % 64, by omega, by omega, by go_num, by go_num, by rw [dv_snoc _ s k hk1 (by omega), HV.out, Hy.out]⟩
      case measure => simp [intOf]; omega
    · obtain rfl : k = 3 := by omega
      go_wp2
      go_ret
      refine ⟨ret_int ?_, rfl⟩
      first
        | (rw [HV.out, show (List.take 1 s).drop 1 = [] from by simp]; exact congrArg Int.ofNat (show dv x [] = rval 1 s from Hx.out.symm))
        | (unfold rval sval; rw [HV.out, Hx.out]; rfl)
set_option maxHeartbeats 1000000 in
set_option linter.unusedVariables false in
theorem value4_any (s : List UInt8) (w : World) (hs : s.length ≤ 9223372036854775807) (hl : 4 ≤ s.length) :
    Calls Try.prog 107 #[.string ⟨s.toArray⟩, .int .i64 4] w fun e w' => e = .returned (.int .i64 (rval 4 s : Int)) ∧ w = w' := by
  obtain ⟨x, hx⟩ : ∃ x, (s.getD 0 0).toNat = x := ⟨_, rfl⟩
  have hx0 := idx_nat s 0
  rw [hx] at hx0
  have hxl : x < 256 := by rw [← hx]; exact (s.getD 0 0).toNat_lt
  have Hx := Lib.hid hx
  clear hx
  go_enter Try.func107, Try.ntmps107
  go_wp2
  go_loop [5, 6] (fun v i => ∃ k V : Nat, 1 ≤ k ∧ k ≤ 4 ∧ i = .int .i64 k ∧ v = .int .i64 (V : Int) ∧ V = dv (x % 8) ((s.take k).drop 1)) (fun _ i => 5 - (intOf i).toNat)
  case atStart => exact ⟨1, x % 8, by omega, by omega, rfl, by go_num, by rw [show (s.take 1).drop 1 = [] from by simp]; rfl⟩
  case round =>
    obtain ⟨k, V, hk1, hk2, rfl, rfl, hV⟩ := hrel
    have hVb : V < 1000000000 := by
      have h := dv_lt ((s.take k).drop 1) (x % 8)
      rw [← hV] at h
      have hlen : ((s.take k).drop 1).length ≤ 4 - 1 := by simp; omega
      have h2 := Nat.mul_le_mul (show x % 8 + 1 ≤ 256 by omega) (Nat.pow_le_pow_right (n := 64) (by decide) hlen)
      omega
    have HV := Lib.hid hV
    clear hV
    by_cases hlt : (k : Int) < 4
    · obtain ⟨y, hy⟩ : ∃ y, (s.getD k 0).toNat = y := ⟨_, rfl⟩
      have hyl : y < 256 := by rw [← hy]; exact (s.getD k 0).toNat_lt
      have hyk := idx_nat s k
      rw [hy] at hyk
      have Hy := Lib.hid hy
      clear hy
      go_wp2
      go_round
      case rel => exact ⟨k + 1, V * 64 + y % 64, by omega, by omega, by go_num, by go_num, by rw [dv_snoc _ s k hk1 (by omega), HV.out, Hy.out]⟩
      case measure => simp [intOf]; omega
    · obtain rfl : k = 4 := by omega
      go_wp2
      go_ret
      refine ⟨ret_int ?_, rfl⟩
      first
        | (rw [HV.out, show (List.take 1 s).drop 1 = [] from by simp]; exact congrArg Int.ofNat (show dv x [] = rval 1 s from Hx.out.symm))
        | (unfold rval sval; rw [HV.out, Hx.out]; rfl)
theorem value_any (s : List UInt8) (n : Nat) (w : World) (hs : s.length ≤ 9223372036854775807) (h1 : 1 ≤ n) (h4 : n ≤ 4) (hl : n ≤ s.length) :
    Calls Try.prog 107 #[.string ⟨s.toArray⟩, .int .i64 (n : Int)] w fun e w' => e = .returned (.int .i64 (rval n s : Int)) ∧ w = w' := by
  match n, h1, h4 with
  | 1, _, _ => exact value1_any s w hs hl
  | 2, _, _ => exact value2_any s w hs hl
  | 3, _, _ => exact value3_any s w hs hl
  | 4, _, _ => exact value4_any s w hs hl
end Go.Proofs.Ythioageiebchlaa
namespace Go.Proofs.Ythioageiebchlaa
open Go.RowKit

set_option maxRecDepth 100000 in
set_option maxHeartbeats 16000000 in
theorem rsign_any (s : List UInt8) (w : World) (hs : s.length ≤ 9223372036854775807) :
    Calls Try.prog 96 #[.string ⟨s.toArray⟩] w fun e w' => e = .returned (.tuple #[.int .i64 ((sign s).1 : Int), .int .i64 ((sign s).2 : Int)]) ∧ Fr [] w w' := by
  have hstay := Fr.refl [] w
  go_enter Try.func96, Try.ntmps96
  go_wp2
  go_loopw [4] (fun i wr => ∃ k : Nat, i = .int .i64 (k : Int) ∧ 1 ≤ k ∧ k ≤ 5 ∧ (∀ j, 1 ≤ j → j < k → j ≤ s.length → ¬ testS j s) ∧ Fr [] w wr) (fun i _ => 6 - (intOf i).toNat)
  case atStart => exact ⟨1, rfl, by omega, by omega, fun j h1 h2 _ => by omega, hstay⟩
  case round =>
    obtain ⟨k, rfl, hk1, hk5, hno, hfr⟩ := hrel
    have Hno := Lib.hid hno
    clear hno hstay
    have hend : (k = 5 ∨ s.length < k) → Hid (sign s = (0, 0)) := by
      intro h
      refine Lib.hid ?_
      by_cases h0 : (sign s).2 = 0
      · rw [sign] at h0 ⊢
        split
        · rfl
        rename_i hne
        rw [if_neg hne] at h0
        split
        · rename_i h1; rw [if_pos h1] at h0; cases h0
        rename_i h1
        rw [if_neg h1] at h0
        simp only [] at h0 ⊢
        split
        · rename_i h2; rw [if_pos h2] at h0; exact absurd h0 h2.1
        · rfl
      · obtain ⟨t1, t2, t3, t4, _⟩ := sign_test s h0
        exact absurd t4 (Hno.out _ t1 (by omega) t3)
    by_cases hk : (k : Int) ≤ 4
    · by_cases hl : (k : Int) ≤ (s.length : Int)
      · clear hend
        have hvl := sval_lt s k hk1 (by omega)
        go_wp2_with fail
        refine (value_any s k _ hs hk1 (by omega) (by omega)).mono ?_
        rintro _ w1 ⟨rfl, rfl⟩
        have HT := Lib.hid (show testS k s ↔ testS k s from Iff.rfl)
        have Hr : Hid (rval k s = rval k s) := Lib.hid rfl
        unfold testS okr at HT
        generalize hv : rval k s = v at *
        have Hv := Lib.hid hv
        clear hv
        have hex := ex_take s k
        have HL := Lib.hid hvl
        by_cases a1 : (v : Int) ≤ 1114111
        · have hd1 : decide ((v : Int) ≤ 1114111) = true := by simpa using a1
          by_cases a2 : (v : Int) < 55296
          · have hd : decide ((v : Int) < 55296) = true := by simpa using a2
            by_cases hsp : spell v = s.take k
            · have HS := Lib.hid (test_sign s k hk1 (by omega) (by omega) ⟨by rw [Hv.out]; exact ⟨by omega, Or.inl (by omega)⟩, by rw [Hv.out]; exact hsp⟩)
              generalize s.take k = z at hsp hex
              try clear a3
              try clear a2
              clear a1 hvl HT Hr
              go_wp2_with fail
              first | (go_region_with (first | (go_at_call 108; refine (spell_any v _ (by have := HL.out; omega)).mono ?_; rintro _ x1 ⟨rfl, f1⟩))) | (fail "held")
              all_goals simp only [Act.put, List.getElem_toArray, List.getElem_cons_succ, List.getElem_cons_zero, List.setIfInBounds_toArray, List.set_cons_zero, List.set_cons_succ]
              clear hsp hex hd1 hd
              try clear hd3
              go_wp2
              go_ret2
              rw [HS.out, Hv.out]
              exact ⟨rfl, hfr.drew.trans f1 (by simp)⟩
            · have HS := Lib.hid (show ¬ testS k s from fun h => hsp (by rw [← Hv.out]; exact h.2))
              try clear a3
              try clear a2
              clear a1 hvl HT Hr
              go_wp2_with fail
              first | (go_region_with (first | (go_at_call 108; refine (spell_any v _ (by have := HL.out; omega)).mono ?_; rintro _ x1 ⟨rfl, f1⟩))) | (fail "held")
              all_goals simp only [Act.put, List.getElem_toArray, List.getElem_cons_succ, List.getElem_cons_zero, List.setIfInBounds_toArray, List.set_cons_zero, List.set_cons_succ]
              clear hex hd1 hd
              try clear hd3
              go_wp2
              · exfalso; rename_i hq; exact hsp (by simpa using hq)
              go_round
              case rel => exact ⟨k + 1, by go_num, by omega, by omega, (fun j h1 h2 h3 => if h4 : j < k then Hno.out j h1 h4 h3 else by obtain rfl : j = k := (by omega); exact HS.out), hfr.drew.trans f1 (by simp)⟩
              case measure => simp [intOf]; omega
          · have hd : decide ((v : Int) < 55296) = false := by simpa using a2
            by_cases a3 : 57343 < (v : Int)
            · have hd3 : decide (57343 < (v : Int)) = true := by simpa using a3
              by_cases hsp : spell v = s.take k
              · have HS := Lib.hid (test_sign s k hk1 (by omega) (by omega) ⟨by rw [Hv.out]; exact ⟨by omega, Or.inr (by omega)⟩, by rw [Hv.out]; exact hsp⟩)
                generalize s.take k = z at hsp hex
                try clear a3
                try clear a2
                clear a1 hvl HT Hr
                go_wp2_with fail
                first | (go_region_held3 (fun w' => True) (trivial) (first | (go_at_call 108; refine (spell_any v _ (by have := HL.out; omega)).mono ?_; rintro _ x1 ⟨rfl, f1⟩))) | (fail "held")
                clear hsp hex hd1 hd
                try clear hd3
                go_wp2
                go_ret2
                rw [HS.out, Hv.out]
                exact ⟨rfl, hfr.drew.trans f1 (by simp)⟩
              · have HS := Lib.hid (show ¬ testS k s from fun h => hsp (by rw [← Hv.out]; exact h.2))
                try clear a3
                try clear a2
                clear a1 hvl HT Hr
                go_wp2_with fail
                first | (go_region_held3 (fun w' => True) (trivial) (first | (go_at_call 108; refine (spell_any v _ (by have := HL.out; omega)).mono ?_; rintro _ x1 ⟨rfl, f1⟩))) | (fail "held")
                clear hex hd1 hd
                try clear hd3
                go_wp2
                · exfalso; rename_i hq; exact hsp (by simpa using hq)
                go_round
                case rel => exact ⟨k + 1, by go_num, by omega, by omega, (fun j h1 h2 h3 => if h4 : j < k then Hno.out j h1 h4 h3 else by obtain rfl : j = k := (by omega); exact HS.out), hfr.drew.trans f1 (by simp)⟩
                case measure => simp [intOf]; omega
            · have hd3 : decide (57343 < (v : Int)) = false := by simpa using a3
              have HS := Lib.hid (show ¬ testS k s from fun h => by have := h.1.2; rw [Hv.out] at this; omega)
              try clear a3
              try clear a2
              clear a1 hvl HT Hr
              go_wp2_with fail
              go_region
              go_wp2
              go_round
              case rel => exact ⟨k + 1, by go_num, by omega, by omega, (fun j h1 h2 h3 => if h4 : j < k then Hno.out j h1 h4 h3 else by obtain rfl : j = k := (by omega); exact HS.out), hfr.drew⟩
              case measure => simp [intOf]; omega
        · have hd1 : decide ((v : Int) ≤ 1114111) = false := by simpa using a1
          have HS := Lib.hid (show ¬ testS k s from fun h => by have := h.1.1; rw [Hv.out] at this; omega)
          try clear a3
          try clear a2
          clear a1 hvl HT Hr
          go_wp2_with fail
          go_region
          go_wp2
          go_round
          case rel => exact ⟨k + 1, by go_num, by omega, by omega, (fun j h1 h2 h3 => if h4 : j < k then Hno.out j h1 h4 h3 else by obtain rfl : j = k := (by omega); exact HS.out), hfr.drew⟩
          case measure => simp [intOf]; omega
      · have he := hend (by omega)
        go_wp2
        go_ret2
        rw [he.out]
        exact ⟨rfl, hfr⟩
    · have he := hend (by omega)
      go_wp2
      go_ret2
      rw [he.out]
      exact ⟨rfl, hfr⟩
end Go.Proofs.Ythioageiebchlaa
namespace Go.Proofs.Ythioageiebchlaa
open Go.RowKit

set_option maxRecDepth 100000 in
set_option maxHeartbeats 2000000 in
theorem rgood_any (s : List UInt8) (w : World) (hs : s.length ≤ 9223372036854775807) :
    Calls Try.prog 77 #[.string ⟨s.toArray⟩] w fun e w' => e = .returned (.bool (good s)) ∧ Fr [] w w' := by
  by_cases hb : (65535 : Int) < s.length
  · go_enter Try.func77, Try.ntmps77
    go_wp2
    go_ret
    exact ⟨ret_bool (by rw [good]; simp; omega), Fr.refl _ _⟩
  have Hg := Lib.hid (good_small s (by omega))
  have hst := Fr.refl [] w
  go_enter Try.func77, Try.ntmps77
  go_wp2
  go_loopw [3, 4] (fun a i wr => ∃ A I : Nat, a = .int .i64 (A : Int) ∧ i = .int .i64 (I : Int) ∧ I ≤ A ∧ A ≤ s.length ∧ good.goodN (s.drop A).length (s.drop A) = good.goodN s.length s ∧ Fr [] w wr) (fun a _ _ => s.length - (intOf a).toNat)
  case atStart => exact ⟨0, 0, rfl, rfl, Nat.le_refl _, Nat.zero_le _, rfl, hst⟩
  case round =>
    obtain ⟨A, I, rfl, rfl, hIA, hA, hG, hfr⟩ := hrel
    have HG := Lib.hid hG
    clear hG hst
    by_cases hlt : (A : Int) < (s.length : Int)
    · have hne : s.drop A ≠ [] := by intro h; have := congrArg List.length h; simp at this; omega
      have HS := Lib.hid (goodN_step (s.drop A) hne)
      have hle := (sign_le (s.drop A)).1
      rw [List.length_drop] at hle
      clear hne
      go_wp2_with fail
      rw [ex_drop _ _ _ (Nat.le_refl _)]
      refine (rsign_any (s.drop A) _ (by rw [List.length_drop]; omega)).mono ?_
      rintro _ w1 ⟨rfl, hf_⟩
      replace hfr := hfr.trans hf_ (by simp)
      clear hf_
      obtain ⟨⟨v, n⟩, hvn⟩ : ∃ x, sign (s.drop A) = x := ⟨_, rfl⟩
      rw [hvn] at HS hle ⊢
      simp only [List.drop_drop] at hle HS ⊢
      clear hvn
      by_cases hn0 : n = 0
      · subst hn0
        go_wp2
        go_ret
        exact ⟨ret_bool (by rw [Hg.out, ← HG.out, HS.out]; rfl), hfr⟩
      · have hn1 : ((n : Int) == 0) = false := by simpa using hn0
        have hn2 : (n == 0) = false := by simpa using hn0
        by_cases hv0 : v = 0
        · subst hv0
          clear hn0 hn2
          go_wp2
          go_ret
          exact ⟨ret_bool (by rw [Hg.out, ← HG.out, HS.out]; simp), hfr⟩
        · have hv1 : ((v : Int) == 0) = false := by simpa using hv0
          have hv2 : (v == 0) = false := by simpa using hv0
          have HS2 := Lib.hid HS.out
          rw [hn2, hv2] at HS2
          have Hn := Lib.hid (show 0 < n by omega)
          clear hn2 hv2 hn0 hv0
          go_wp2
          go_roundw
          case rel => exact ⟨A + n, I + 1, by go_num, by go_num, by have := Hn.out; omega, by omega, by rw [← HG.out, HS2.out]; rfl, hfr⟩
          case measure => have := Hn.out; simp [intOf]; omega
    · obtain rfl : A = s.length := by omega
      go_wp2
      go_ret
      exact ⟨ret_bool (by rw [Hg.out, ← HG.out, List.drop_length]; rfl), hfr⟩
end Go.Proofs.Ythioageiebchlaa
namespace Go.Proofs.Ythioageiebchlaa
open Go.RowKit

theorem raw_err (r : Rd) (n : Nat) (h : (r.raw n).2.e ≠ 0) : (r.raw n).1 = [] := by
  unfold Rd.raw at h ⊢
  split
  · rfl
  rename_i h1
  rw [if_neg h1] at h
  split
  · rfl
  rename_i h2
  rw [if_neg h2] at h
  exact absurd rfl h
theorem str_err (r : Rd) (h : r.data.2.e ≠ 0) : r.str = r.data := by
  have h1 : r.data.1 = [] := raw_err _ _ h
  rw [Rd.str, h1, if_pos (by decide)]
set_option maxHeartbeats 2000000 in
theorem rtake_any (r : Rd) (w : World) (hs : r.s.length ≤ 9223372036854775807) :
    Calls Try.prog 57 #[.agg #[.string ⟨r.s.toArray⟩, .int .i64 r.e]] w fun e w' => e = .returned (.tuple #[.agg #[.string ⟨r.str.2.s.toArray⟩, .int .i64 r.str.2.e], .string ⟨r.str.1.toArray⟩]) ∧ Fr [] w w' := by
  go_enter Try.func57, Try.ntmps57
  go_wp2_with fail
  refine (rtakedata_any r _ hs).mono ?_
  rintro e w1 ⟨rfl, hf1⟩
  have hff : Fr [] w w1 := Fr.trans (by repeat (first | exact Fr.refl _ _ | assumption | (with_reducible apply Fr.alloc) | (with_reducible apply Fr.drew) | (with_reducible apply Fr.drewN) | (with_reducible refine Fr.setCell ?_ (Or.inl (by (try simp) <;> omega)) _) | (refine Fr.trans ?_ (by assumption) (by simp)))) hf1 (by simp)
  have hb1 : w1.heap[w.heap.size]? = some (.cells #[.string ⟨r.s.toArray⟩, .int .i64 r.e] 99 (0, 0)) := hf1.blk (blk_old (blk_new _ _) _) (by simp)
  have hb2 : w1.heap[w.heap.size + 1]? = some (.cells #[.string ⟨[].toArray⟩, .int .i64 0] 99 (0, 0)) := hf1.blk (blk_at1 _ _ _) (by simp)
  have hl : r.data.1.length ≤ 9223372036854775807 := Nat.le_trans (Rd.raw_le _ _) (Nat.le_trans (Rd.raw_left _ _) hs)
  have HE := Lib.hid (str_err r)
  have HS : Hid (r.str = if good r.data.1 then r.data else ([], r.data.2.fail 2)) := Lib.hid rfl
  obtain ⟨⟨l, q⟩, hq⟩ : ∃ x, r.data = x := ⟨_, rfl⟩
  rw [hq] at hl HE HS ⊢
  simp only at hl HE HS ⊢
  clear hq hf1
  obtain ⟨c0, c1, f0, f1, hlt1⟩ := blk2_facts hb1
  obtain ⟨d0, d1, g0, g1, hlt2⟩ := blk2_facts hb2
  have HB1 := Lib.hid hb1
  have HB2 := Lib.hid hb2
  clear hb1 hb2
  by_cases he : q.e = 0
  · have he1 : (q.e == 0) = true := by simpa using he
    have Hq := Lib.hid he
    clear he
    go_wp2_with fail
    refine (rgood_any l _ hl).mono ?_
    rintro _ w2 ⟨rfl, hf2⟩
    clear c0 c1 f0 f1 hlt1 d0 d1 g0 g1 hlt2
    have hb3 := hf2.blk (blk2_set HB1.out _ _) (by simp)
    have hb4 := hf2.blk (blk_far (blk_far HB2.out (p := ⟨w.heap.size, 0, none⟩) (by simp) _) (p := ⟨w.heap.size, 1, none⟩) (by simp) _) (by simp)
    replace hff : Fr [] w w2 := Fr.trans (by repeat (first | exact Fr.refl _ _ | assumption | (with_reducible apply Fr.alloc) | (with_reducible apply Fr.drew) | (with_reducible apply Fr.drewN) | (with_reducible refine Fr.setCell ?_ (Or.inl (by (try simp) <;> omega)) _) | (refine Fr.trans ?_ (by assumption) (by simp)))) hf2 (by simp)
    clear hf2
    obtain ⟨c0, c1, f0, f1, hlt1⟩ := blk2_facts hb3
    obtain ⟨d0, d1, g0, g1, hlt2⟩ := blk2_facts hb4
    clear hb3 hb4
    by_cases hg : good l = true
    · have HR := Lib.hid (HS.out.trans (if_pos hg))
      rw [hg]
      clear hg
      go_wp2
      refine bodyPost_ret (v := .tuple #[.agg #[.string ⟨q.s.toArray⟩, .int .i64 q.e], .string ⟨l.toArray⟩]) (by simp [results, Try.results57, go_sem, *]) rfl ?_
      rw [HR.out]
      exact ⟨rfl, (by repeat (first | exact Fr.refl _ _ | assumption | (with_reducible apply Fr.alloc) | (with_reducible apply Fr.drew) | (with_reducible apply Fr.drewN) | (with_reducible refine Fr.setCell ?_ (Or.inl (by (try simp) <;> omega)) _) | (refine Fr.trans ?_ (by assumption) (by simp))))⟩
    · have HR := Lib.hid (HS.out.trans (if_neg hg))
      replace hg : good l = false := by simpa using hg
      rw [hg]
      clear hg
      have HF : Hid (q.fail 2 = ⟨q.s, 2⟩) := Lib.hid (by rw [Rd.fail, if_pos Hq.out])
      go_wp2
      refine bodyPost_ret (v := .tuple #[.agg #[.string ⟨q.s.toArray⟩, .int .i64 2], .string ⟨[].toArray⟩]) (by simp [results, Try.results57, go_sem, *]) rfl ?_
      rw [HR.out, HF.out]
      exact ⟨rfl, (by repeat (first | exact Fr.refl _ _ | assumption | (with_reducible apply Fr.alloc) | (with_reducible apply Fr.drew) | (with_reducible apply Fr.drewN) | (with_reducible refine Fr.setCell ?_ (Or.inl (by (try simp) <;> omega)) _) | (refine Fr.trans ?_ (by assumption) (by simp))))⟩
  · have he1 : (q.e == 0) = false := by simpa using he
    have HQ := Lib.hid (HE.out he)
    clear he
    go_wp2
    refine bodyPost_ret (v := .tuple #[.agg #[.string ⟨q.s.toArray⟩, .int .i64 q.e], .string ⟨l.toArray⟩]) (by simp [results, Try.results57, go_sem, *]) rfl ?_
    rw [HQ.out]
    exact ⟨rfl, (by repeat (first | exact Fr.refl _ _ | assumption | (with_reducible apply Fr.alloc) | (with_reducible apply Fr.drew) | (with_reducible apply Fr.drewN) | (with_reducible refine Fr.setCell ?_ (Or.inl (by (try simp) <;> omega)) _) | (refine Fr.trans ?_ (by assumption) (by simp))))⟩
end Go.Proofs.Ythioageiebchlaa
