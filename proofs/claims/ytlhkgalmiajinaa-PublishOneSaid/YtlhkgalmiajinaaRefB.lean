/- What the references of layer 2 come to: the same words as the program's. Conditions: numbers within their kinds, strings that may be. -/
import Derived.Test.YtlhkgalmiajinaaRefA
import Derived.Test.YtlhkgalmiajinaaWord
import Derived.Test.YtlhkgalmiajinaaPlainB
import Derived.Deep.RegionWith
import Derived.Deep.RegionHeld3
namespace Go.Proofs.Ytlhkgalmiajinaa
open Go.RowKit

set_option maxHeartbeats 1000000 in
theorem spell_any (v : Nat) (w : World) (hv : (v : Int) < 2097152) :
    Calls Try.prog 126 #[.int .i64 (v : Int)] w fun e w' => e = .returned (.string ⟨(spell v).toArray⟩) ∧ Fr [] w w' := by
  by_cases h1 : (v : Int) < 128
  · have hs : Hid (spell v = [b8 v]) := Lib.hid (by unfold spell; rw [if_pos (by omega)])
    have hc := conv1 (v : Int) (by omega)
    go_enter Try.func126, Try.ntmps126
    go_wp2
    go_ret
    rw [hs.out]
    exact ⟨rfl, (by repeat (first | exact Fr.refl _ _ | assumption | (with_reducible apply Fr.alloc) | (with_reducible apply Fr.drew) | (with_reducible apply Fr.drewN) | (with_reducible refine Fr.setCell ?_ (Or.inl (by (try simp) <;> omega)) _) | (refine Fr.trans ?_ (by assumption) (by simp))))⟩
  by_cases h2 : (v : Int) < 2048
  · have hs : Hid (spell v = [b8 (192 + v / 64), b8 (128 + v % 64)]) := Lib.hid (by unfold spell; rw [if_neg (by omega), if_pos (by omega)])
    have hc := conv2 (192 + (v : Int) / 64) (128 + (v : Int) % 64) (by omega) (by omega)
    go_enter Try.func126, Try.ntmps126
    go_wp2
    go_ret
    rw [hs.out]
    exact ⟨rfl, (by repeat (first | exact Fr.refl _ _ | assumption | (with_reducible apply Fr.alloc) | (with_reducible apply Fr.drew) | (with_reducible apply Fr.drewN) | (with_reducible refine Fr.setCell ?_ (Or.inl (by (try simp) <;> omega)) _) | (refine Fr.trans ?_ (by assumption) (by simp))))⟩
  by_cases h3 : (v : Int) < 65536
  · have hs : Hid (spell v = [b8 (224 + v / 4096), b8 (128 + v / 64 % 64), b8 (128 + v % 64)]) := Lib.hid (by unfold spell; rw [if_neg (by omega), if_neg (by omega), if_pos (by omega)])
    have hc := conv3 (224 + (v : Int) / 4096) (128 + (v : Int) / 64 % 64) (128 + (v : Int) % 64) (by omega) (by omega) (by omega)
    go_enter Try.func126, Try.ntmps126
    go_wp2
    go_ret
    rw [hs.out]
    exact ⟨rfl, (by repeat (first | exact Fr.refl _ _ | assumption | (with_reducible apply Fr.alloc) | (with_reducible apply Fr.drew) | (with_reducible apply Fr.drewN) | (with_reducible refine Fr.setCell ?_ (Or.inl (by (try simp) <;> omega)) _) | (refine Fr.trans ?_ (by assumption) (by simp))))⟩
  · have hs : Hid (spell v = [b8 (240 + v / 262144), b8 (128 + v / 4096 % 64), b8 (128 + v / 64 % 64), b8 (128 + v % 64)]) := Lib.hid (by unfold spell; rw [if_neg (by omega), if_neg (by omega), if_neg (by omega)])
    have hc := conv4 (240 + (v : Int) / 262144) (128 + (v : Int) / 4096 % 64) (128 + (v : Int) / 64 % 64) (128 + (v : Int) % 64) (by omega) (by omega) (by omega) (by omega)
    go_enter Try.func126, Try.ntmps126
    go_wp2
    go_ret
    rw [hs.out]
    exact ⟨rfl, (by repeat (first | exact Fr.refl _ _ | assumption | (with_reducible apply Fr.alloc) | (with_reducible apply Fr.drew) | (with_reducible apply Fr.drewN) | (with_reducible refine Fr.setCell ?_ (Or.inl (by (try simp) <;> omega)) _) | (refine Fr.trans ?_ (by assumption) (by simp))))⟩

theorem sval_lt (s : List UInt8) (n : Nat) (h1 : 1 ≤ n) (h4 : n ≤ 4) : rval n s < 2097152 := by
  have h0 := (s.getD 0 0).toNat_lt
  unfold rval
  split
  · omega
  · have hl : ((s.take n).drop 1).length ≤ 3 := by simp; omega
    have h := dv_lt ((s.take n).drop 1) ((s.getD 0 0).toNat % 2 ^ (7 - n))
    show dv _ _ < _
    match n, h1, h4 with
    | 2, _, _ =>
      have hl2 : ((s.take 2).drop 1).length ≤ 1 := by simp; omega
      have := Nat.mul_le_mul (show (s.getD 0 0).toNat % 2 ^ (7 - 2) + 1 ≤ 32 by omega) (Nat.pow_le_pow_right (n := 64) (by decide) hl2)
      omega
    | 3, _, _ =>
      have hl2 : ((s.take 3).drop 1).length ≤ 2 := by simp; omega
      have := Nat.mul_le_mul (show (s.getD 0 0).toNat % 2 ^ (7 - 3) + 1 ≤ 16 by omega) (Nat.pow_le_pow_right (n := 64) (by decide) hl2)
      omega
    | 4, _, _ =>
      have := Nat.mul_le_mul (show (s.getD 0 0).toNat % 2 ^ (7 - 4) + 1 ≤ 8 by omega) (Nat.pow_le_pow_right (n := 64) (by decide) hl)
      omega

set_option maxHeartbeats 1000000 in
set_option linter.unusedVariables false in
theorem value1_any (s : List UInt8) (w : World) (hs : s.length ≤ 9223372036854775807) (hl : 1 ≤ s.length) :
    Calls Try.prog 125 #[.string ⟨s.toArray⟩, .int .i64 1] w fun e w' => e = .returned (.int .i64 (rval 1 s : Int)) ∧ w = w' := by
  obtain ⟨x, hx⟩ : ∃ x, (s.getD 0 0).toNat = x := ⟨_, rfl⟩
  have hx0 := idx_nat s 0
  rw [hx] at hx0
  have hxl : x < 256 := by rw [← hx]; exact (s.getD 0 0).toNat_lt
  have Hx := Lib.hid hx
  clear hx
  go_enter Try.func125, Try.ntmps125
  go_wp2
  go_loop [5, 6] (fun v i => ∃ k V : Nat, 1 ≤ k ∧ k ≤ 1 ∧ i = .int .i64 k ∧ v = .int .i64 (V : Int) ∧ V = dv (x) ((s.take k).drop 1)) (fun _ i => 5 - (intOf i).toNat)
  case atStart => exact ⟨1, x, by omega, by omega, rfl, by go_num, by rw [show (s.take 1).drop 1 = [] from by simp]; rfl⟩
  case round =>
    obtain ⟨k, V, hk1, hk2, rfl, rfl, hV⟩ := hrel
    have hVb : V < 1000000000 := by
      have h := dv_lt ((s.take k).drop 1) (x)
      rw [← hV] at h
      have hlen : ((s.take k).drop 1).length ≤ 1 - 1 := by simp; omega
      have h2 := Nat.mul_le_mul (show x + 1 ≤ 256 by omega) (Nat.pow_le_pow_right (n := 64) (by decide) hlen)
      omega
    have HV := Lib.hid hV
    clear hV
    by_cases hlt : (k : Int) < 1
    · obtain ⟨y, hy⟩ : ∃ y, (s.getD k 0).toNat = y := ⟨_, rfl⟩
      have hyl : y < 256 := by rw [← hy]; exact (s.getD k 0).toNat_lt
      have hyk := idx_nat s k
      rw [hy] at hyk
      have Hy := Lib.hid hy
      clear hy
      go_wp2
      go_round
      case rel => exact ⟨k + 1, V * 64 + y % 64, by omega, by omega, by go_num, by go_num, by rw [dv_snoc _ s k hk1 (by omega), HV.out, Hy.out]⟩
      case measure => simp [intOf]; omega
    · obtain rfl : k = 1 := by omega
      go_wp2
      go_ret
      refine ⟨ret_int ?_, rfl⟩
      first
        | (rw [HV.out, show (List.take 1 s).drop 1 = [] from by simp]; exact congrArg Int.ofNat (show dv x [] = rval 1 s from Hx.out.symm))
        | (unfold rval sval; rw [HV.out, Hx.out]; rfl)
set_option maxHeartbeats 1000000 in
set_option linter.unusedVariables false in
theorem value2_any (s : List UInt8) (w : World) (hs : s.length ≤ 9223372036854775807) (hl : 2 ≤ s.length) :
    Calls Try.prog 125 #[.string ⟨s.toArray⟩, .int .i64 2] w fun e w' => e = .returned (.int .i64 (rval 2 s : Int)) ∧ w = w' := by
  obtain ⟨x, hx⟩ : ∃ x, (s.getD 0 0).toNat = x := ⟨_, rfl⟩
  have hx0 := idx_nat s 0
  rw [hx] at hx0
  have hxl : x < 256 := by rw [← hx]; exact (s.getD 0 0).toNat_lt
  have Hx := Lib.hid hx
  clear hx
  go_enter Try.func125, Try.ntmps125
  go_wp2
  go_loop [5, 6] (fun v i => ∃ k V : Nat, 1 ≤ k ∧ k ≤ 2 ∧ i = .int .i64 k ∧ v = .int .i64 (V : Int) ∧ V = dv (x % 32) ((s.take k).drop 1)) (fun _ i => 5 - (intOf i).toNat)
  case atStart => exact ⟨1, x % 32, by omega, by omega, rfl, by go_num, by rw [show (s.take 1).drop 1 = [] from by simp]; rfl⟩
  case round =>
    obtain ⟨k, V, hk1, hk2, rfl, rfl, hV⟩ := hrel
    have hVb : V < 1000000000 := by
      have h := dv_lt ((s.take k).drop 1) (x % 32)
      rw [← hV] at h
      have hlen : ((s.take k).drop 1).length ≤ 2 - 1 := by simp; omega
      have h2 := Nat.mul_le_mul (show x % 32 + 1 ≤ 256 by omega) (Nat.pow_le_pow_right (n := 64) (by decide) hlen)
      omega
    have HV := Lib.hid hV
    clear hV
    by_cases hlt : (k : Int) < 2
    · obtain ⟨y, hy⟩ : ∃ y, (s.getD k 0).toNat = y := ⟨_, rfl⟩
      have hyl : y < 256 := by rw [← hy]; exact (s.getD k 0).toNat_lt
      have hyk := idx_nat s k
      rw [hy] at hyk
      have Hy := Lib.hid hy
      clear hy
      go_wp2
      go_round
      case rel => exact ⟨k + 1, V * 64 + y % 64, by omega, by omega, by go_num, by go_num, by rw [dv_snoc _ s k hk1 (by omega), HV.out, Hy.out]⟩
      case measure => simp [intOf]; omega
    · obtain rfl : k = 2 := by omega
      go_wp2
      go_ret
      refine ⟨ret_int ?_, rfl⟩
      first
        | (rw [HV.out, show (List.take 1 s).drop 1 = [] from by simp]; exact congrArg Int.ofNat (show dv x [] = rval 1 s from Hx.out.symm))
        | (unfold rval sval; rw [HV.out, Hx.out]; rfl)
set_option maxHeartbeats 1000000 in
set_option linter.unusedVariables false in
theorem value3_any (s : List UInt8) (w : World) (hs : s.length ≤ 9223372036854775807) (hl : 3 ≤ s.length) :
    Calls Try.prog 125 #[.string ⟨s.toArray⟩, .int .i64 3] w fun e w' => e = .returned (.int .i64 (rval 3 s : Int)) ∧ w = w' := by
  obtain ⟨x, hx⟩ : ∃ x, (s.getD 0 0).toNat = x := ⟨_, rfl⟩
  have hx0 := idx_nat s 0
  rw [hx] at hx0
  have hxl : x < 256 := by rw [← hx]; exact (s.getD 0 0).toNat_lt
  have Hx := Lib.hid hx
  clear hx
  go_enter Try.func125, Try.ntmps125
  go_wp2
  go_loop [5, 6] (fun v i => ∃ k V : Nat, 1 ≤ k ∧ k ≤ 3 ∧ i = .int .i64 k ∧ v = .int .i64 (V : Int) ∧ V = dv (x % 16) ((s.take k).drop 1)) (fun _ i => 5 - (intOf i).toNat)
  case atStart => exact ⟨1, x % 16, by omega, by omega, rfl, by go_num, by rw [show (s.take 1).drop 1 = [] from by simp]; rfl⟩
  case round =>
    obtain ⟨k, V, hk1, hk2, rfl, rfl, hV⟩ := hrel
    have hVb : V < 1000000000 := by
      have h := dv_lt ((s.take k).drop 1) (x % 16)
      rw [← hV] at h
      have hlen : ((s.take k).drop 1).length ≤ 3 - 1 := by simp; omega
      have h2 := Nat.mul_le_mul (show x % 16 + 1 ≤ 256 by omega) (Nat.pow_le_pow_right (n := 64) (by decide) hlen)
      omega
    have HV := Lib.hid hV
    clear hV
    by_cases hlt : (k : Int) < 3
    · obtain ⟨y, hy⟩ : ∃ y, (s.getD k 0).toNat = y := ⟨_, rfl⟩
      have hyl : y < 256 := by rw [← hy]; exact (s.getD k 0).toNat_lt
      have hyk := idx_nat s k
      rw [hy] at hyk
      have Hy := Lib.hid hy
      clear hy
      go_wp2
      go_round
      case rel => exact ⟨k + 1, V * 64 + y % 64, by omega, by omega, by go_num, by go_num, by rw [dv_snoc _ s k hk1 (by omega), HV.out, Hy.out]⟩
      case measure => simp [intOf]; omega
    · obtain rfl : k = 3 := by omega
      go_wp2
      go_ret
      refine ⟨ret_int ?_, rfl⟩
      first
        | (rw [HV.out, show (List.take 1 s).drop 1 = [] from by simp]; exact congrArg Int.ofNat (show dv x [] = rval 1 s from Hx.out.symm))
        | (unfold rval sval; rw [HV.out, Hx.out]; rfl)
set_option maxHeartbeats 1000000 in
set_option linter.unusedVariables false in
theorem value4_any (s : List UInt8) (w : World) (hs : s.length ≤ 9223372036854775807) (hl : 4 ≤ s.length) :
    Calls Try.prog 125 #[.string ⟨s.toArray⟩, .int .i64 4] w fun e w' => e = .returned (.int .i64 (rval 4 s : Int)) ∧ w = w' := by
  obtain ⟨x, hx⟩ : ∃ x, (s.getD 0 0).toNat = x := ⟨_, rfl⟩
  have hx0 := idx_nat s 0
  rw [hx] at hx0
  have hxl : x < 256 := by rw [← hx]; exact (s.getD 0 0).toNat_lt
  have Hx := Lib.hid hx
  clear hx
  go_enter Try.func125, Try.ntmps125
  go_wp2
  go_loop [5, 6] (fun v i => ∃ k V : Nat, 1 ≤ k ∧ k ≤ 4 ∧ i = .int .i64 k ∧ v = .int .i64 (V : Int) ∧ V = dv (x % 8) ((s.take k).drop 1)) (fun _ i => 5 - (intOf i).toNat)
  case atStart => exact ⟨1, x % 8, by omega, by omega, rfl, by go_num, by rw [show (s.take 1).drop 1 = [] from by simp]; rfl⟩
  case round =>
    obtain ⟨k, V, hk1, hk2, rfl, rfl, hV⟩ := hrel
    have hVb : V < 1000000000 := by
      have h := dv_lt ((s.take k).drop 1) (x % 8)
      rw [← hV] at h
      have hlen : ((s.take k).drop 1).length ≤ 4 - 1 := by simp; omega
      have h2 := Nat.mul_le_mul (show x % 8 + 1 ≤ 256 by omega) (Nat.pow_le_pow_right (n := 64) (by decide) hlen)
      omega
    have HV := Lib.hid hV
    clear hV
    by_cases hlt : (k : Int) < 4
    · obtain ⟨y, hy⟩ : ∃ y, (s.getD k 0).toNat = y := ⟨_, rfl⟩
      have hyl : y < 256 := by rw [← hy]; exact (s.getD k 0).toNat_lt
      have hyk := idx_nat s k
      rw [hy] at hyk
      have Hy := Lib.hid hy
      clear hy
      go_wp2
      go_round
      case rel => exact ⟨k + 1, V * 64 + y % 64, by omega, by omega, by go_num, by go_num, by rw [dv_snoc _ s k hk1 (by omega), HV.out, Hy.out]⟩
      case measure => simp [intOf]; omega
    · obtain rfl : k = 4 := by omega
      go_wp2
      go_ret
      refine ⟨ret_int ?_, rfl⟩
      first
        | (rw [HV.out, show (List.take 1 s).drop 1 = [] from by simp]; exact congrArg Int.ofNat (show dv x [] = rval 1 s from Hx.out.symm))
        | (unfold rval sval; rw [HV.out, Hx.out]; rfl)
theorem value_any (s : List UInt8) (n : Nat) (w : World) (hs : s.length ≤ 9223372036854775807) (h1 : 1 ≤ n) (h4 : n ≤ 4) (hl : n ≤ s.length) :
    Calls Try.prog 125 #[.string ⟨s.toArray⟩, .int .i64 (n : Int)] w fun e w' => e = .returned (.int .i64 (rval n s : Int)) ∧ w = w' := by
  match n, h1, h4 with
  | 1, _, _ => exact value1_any s w hs hl
  | 2, _, _ => exact value2_any s w hs hl
  | 3, _, _ => exact value3_any s w hs hl
  | 4, _, _ => exact value4_any s w hs hl
end Go.Proofs.Ytlhkgalmiajinaa
