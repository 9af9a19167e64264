/- What the functions of package word come to ('sign', 'good' ..). Conditions: strings no longer than Go's. -/
import Derived.Test.YthioageiebchlaaProg
import Derived.Test.YthioageiebchlaaBase
import Derived.Test.YthioageiebchlaaPure
import Derived.Test.YthioageiebchlaaIn
import Derived.Deep.RegionWith
import Derived.Deep.RegionHeld3
import Derived.Deep.DeepCutAuto
import Derived.BigQuiet
namespace Go.Proofs.Ythioageiebchlaa
open Go.RowKit

set_option maxHeartbeats 1000000 in
theorem sign_short (s : List UInt8) (h0 : 0 < s.length) (h : (s.getD 0 0).toNat < 128) : sign s = ((s.getD 0 0).toNat, 1) := by
  rw [sign, if_neg (by intro e; subst e; simp at h0), if_pos h]
theorem sign_none (s : List UInt8) (h0 : 0 < s.length) (h : ¬ (s.getD 0 0).toNat < 128) (hn : ¬ (slen (s.getD 0 0).toNat ≠ 0 ∧ slen (s.getD 0 0).toNat ≤ s.length ∧ conts ((s.take (slen (s.getD 0 0).toNat)).drop 1) ∧ okv (slen (s.getD 0 0).toNat) (sval (slen (s.getD 0 0).toNat) s))) : sign s = (0, 0) := by
  rw [sign, if_neg (by intro e; subst e; simp at h0), if_neg h]
  simp only []
  rw [if_neg hn]
theorem sign_long (s : List UInt8) (n : Nat) (h0 : 0 < s.length) (h : ¬ (s.getD 0 0).toNat < 128) (hn : slen (s.getD 0 0).toNat = n) (hn0 : n ≠ 0) (hl : n ≤ s.length) (hc : conts ((s.take n).drop 1)) (ho : okv n (sval n s)) : sign s = (sval n s, n) := by
  rw [sign, if_neg (by intro e; subst e; simp at h0), if_neg h]
  simp only [hn]
  rw [if_pos ⟨hn0, hl, hc, ho⟩]
theorem idx_nat (s : List UInt8) (k : Nat) (h : k < (ByteArray.mk s.toArray).size) : ((ByteArray.mk s.toArray)[k]'h).toNat = (s.getD k 0).toNat := by
  have hk : k < s.length := h
  have e : (ByteArray.mk s.toArray)[k]'h = s[k] := rfl
  rw [e, List.getD_eq_getElem?_getD, List.getElem?_eq_getElem hk]; rfl
theorem dv_snoc (v : Nat) (s : List UInt8) (k : Nat) (h1 : 1 ≤ k) (hk : k < s.length) : dv v ((s.take (k + 1)).drop 1) = dv v ((s.take k).drop 1) * 64 + (s.getD k 0).toNat % 64 := by
  rw [List.take_succ_eq_append_getElem hk, List.drop_append_of_le_length (by simp; omega)]
  unfold dv
  rw [List.foldl_append, List.getD_eq_getElem?_getD, List.getElem?_eq_getElem hk]
  rfl
theorem conts_snoc (s : List UInt8) (k : Nat) (h1 : 1 ≤ k) (hk : k < s.length) : conts ((s.take (k + 1)).drop 1) ↔ conts ((s.take k).drop 1) ∧ (s.getD k 0).toNat / 64 = 2 := by
  rw [List.take_succ_eq_append_getElem hk, List.drop_append_of_le_length (by simp; omega)]
  unfold conts
  simp only [List.mem_append, List.mem_singleton]
  rw [List.getD_eq_getElem?_getD, List.getElem?_eq_getElem hk]
  constructor
  · intro h; exact ⟨fun c hc => h c (Or.inl hc), h _ (Or.inr rfl)⟩
  · rintro ⟨h, h2⟩ c (hc | rfl)
    · exact h c hc
    · exact h2
theorem conts_cut (s : List UInt8) (k n : Nat) (hkn : k ≤ n) (h : conts ((s.take n).drop 1)) : conts ((s.take k).drop 1) := by
  intro c hc
  refine h c ?_
  have : s.take k = (s.take n).take k := by rw [List.take_take, Nat.min_eq_left hkn]
  rw [this] at hc
  exact (List.drop_sublist_drop_left _ (Nat.le_refl 1)).subset ((List.take_sublist k (s.take n)).drop 1 |>.subset hc)

theorem dv_lt (l : List UInt8) : ∀ v, dv v l < (v + 1) * 64 ^ l.length := by
  induction l with
  | nil => intro v; simp [dv]
  | cons c l ih =>
    intro v
    have h1 := ih (v * 64 + c.toNat % 64)
    have h2 : (v * 64 + c.toNat % 64 + 1) * 64 ^ l.length ≤ ((v + 1) * 64) * 64 ^ l.length := Nat.mul_le_mul_right _ (by omega)
    have h3 : (v + 1) * 64 ^ (c :: l).length = ((v + 1) * 64) * 64 ^ l.length := by rw [List.length_cons, Nat.pow_succ, Nat.mul_assoc, Nat.mul_comm 64]
    rw [h3]
    exact Nat.lt_of_lt_of_le h1 h2
set_option maxHeartbeats 4000000 in
set_option maxRecDepth 100000 in
set_option linter.unusedVariables false in
theorem sign2_any (s : List UInt8) (x : Nat) (w : World) (hs : s.length ≤ 9223372036854775807) (hl0 : 0 < s.length) (hne : s.isEmpty = false) (Hx : Hid ((s.getD 0 0).toNat = x)) (hx0 : ∀ h, ((ByteArray.mk s.toArray)[0]'h).toNat = x) (hxl : x < 256)
    (h1 : ¬ (x : Int) < 128) (h32 : ((x : Int) / 32 == 6) = true) (t : True) (t' : True) (H1' : Hid (¬ (s.getD 0 0).toNat < 128)) (H2 : Hid (slen x = 2)) :
    Calls Try.prog 85 #[.string ⟨s.toArray⟩] w fun e w' => e = .returned (.tuple #[.int .i32 (sign s).1, .int .i64 (sign s).2]) ∧ Fr [] w w' := by
  by_cases hl : (s.length : Int) < 2
  · go_enter Try.func85, Try.ntmps85
    go_wp2
    go_ret2
    rw [sign_none s hl0 H1'.out (by rw [Hx.out, H2.out]; omega)]
    exact ⟨rfl, Fr.refl _ _⟩
  have Hm := Lib.hid (and_i32 (7 - 2) (x : Int) 31 (by decide) (by decide) (by omega) (by omega))
  go_enter Try.func85, Try.ntmps85
  go_wp2
  rw [Hm.out]
  go_loop [6, 7] (fun v i => ∃ k V : Nat, 1 ≤ k ∧ k ≤ 2 ∧ i = .int .i64 k ∧ conts ((s.take k).drop 1) ∧ v = .int .i32 (V : Int) ∧ V = dv (x % 2 ^ (7 - 2)) ((s.take k).drop 1)) (fun _ i => 5 - (intOf i).toNat)
  case atStart =>
    refine ⟨1, x % 2 ^ (7 - 2), by omega, by omega, rfl, ?_, by go_num, ?_⟩
    · intro c hc; simp at hc
    · rw [show (s.take 1).drop 1 = [] from by simp]; rfl
  case round =>
    obtain ⟨k, V, hk1, hk2, rfl, hct, rfl, hV⟩ := hrel
    have hVb : V < 2097152 := by
      have h := dv_lt ((s.take k).drop 1) (x % 2 ^ (7 - 2))
      rw [← hV] at h
      have hlen : ((s.take k).drop 1).length ≤ 2 - 1 := by simp; omega
      have h2 : (x % 2 ^ (7 - 2) + 1) * 64 ^ ((s.take k).drop 1).length ≤ 32 * 64 ^ (2 - 1) := Nat.mul_le_mul (by omega) (Nat.pow_le_pow_right (by omega) hlen)
      omega
    have HV := Lib.hid hV
    have Hct := Lib.hid hct
    clear hV hct
    by_cases hlt : (k : Int) < 2
    · obtain ⟨y, hy⟩ : ∃ y, (s.getD k 0).toNat = y := ⟨_, rfl⟩
      have hyl : y < 256 := by rw [← hy]; exact (s.getD k 0).toNat_lt
      have hyk := idx_nat s k
      rw [hy] at hyk
      have Hy := Lib.hid hy
      clear hy
      have Hc := Lib.hid (conts_snoc s k hk1 (by omega))
      by_cases hc2 : ((y : Int) / 64 != 2) = false
      · go_wp2
        go_round
        case rel =>
          refine ⟨k + 1, V * 64 + y % 64, by omega, by omega, by go_num, ?_, by go_num, ?_⟩
          · have : y / 64 = 2 := by simp at hc2; omega
            rw [Hc.out, Hy.out]; exact ⟨Hct.out, this⟩
          · rw [dv_snoc _ s k hk1 (by omega), HV.out, Hy.out]
        case measure => simp [intOf]; omega
      · have hc3 : ((y : Int) / 64 != 2) = true := by simpa using hc2
        clear hc2
        go_wp2
        go_ret2
        rw [sign_none s hl0 H1'.out ?_]
        · exact ⟨rfl, Fr.refl _ _⟩
        · rw [Hx.out, H2.out]
          rintro ⟨_, _, hcc, _⟩
          have := conts_cut s (k + 1) 2 (by omega) hcc
          rw [Hc.out, Hy.out] at this
          simp at hc3; omega
    · obtain rfl : k = 2 := by omega
      have hsv : sval 2 s = V := by rw [sval, Hx.out, HV.out]
      have Hsv := Lib.hid hsv
      clear hsv
      by_cases a1 : (V : Int) < 128
      · go_wp2
        go_ret2
        rw [sign_none s hl0 H1'.out (by rw [Hx.out, H2.out, Hsv.out]; simp only [okv, least]; rintro ⟨_, _, _, h, _⟩; revert h; simp; omega)]
        exact ⟨rfl, (Fr.refl _ _).alloc _⟩
      by_cases a2 : 1114111 < (V : Int)
      · go_wp2
        go_ret2
        rw [sign_none s hl0 H1'.out (by rw [Hx.out, H2.out, Hsv.out]; simp only [okv, least]; rintro ⟨_, _, _, _, h, _⟩; omega)]
        exact ⟨rfl, (Fr.refl _ _).alloc _⟩
      by_cases a3 : 55296 ≤ (V : Int)
      · by_cases a4 : (V : Int) ≤ 57343
        · first
            | (exfalso; omega)
            | (go_wp2
               go_ret2
               rw [sign_none s hl0 H1'.out (by rw [Hx.out, H2.out, Hsv.out]; simp only [okv, least]; rintro ⟨_, _, _, _, _, h⟩; omega)]
               exact ⟨rfl, (Fr.refl _ _).alloc _⟩)
        · go_wp2
          go_ret2
          rw [sign_long s 2 hl0 H1'.out (by rw [Hx.out, H2.out]) (by decide) (by omega) Hct.out (by rw [Hsv.out]; simp only [okv, least]; refine ⟨?_, by omega, by omega⟩; simp; omega), Hsv.out]
          exact ⟨rfl, (Fr.refl _ _).alloc _⟩
      · first
          | (exfalso; omega)
          | (go_wp2
             go_ret2
             rw [sign_long s 2 hl0 H1'.out (by rw [Hx.out, H2.out]) (by decide) (by omega) Hct.out (by rw [Hsv.out]; simp only [okv, least]; refine ⟨?_, by omega, by omega⟩; simp; omega), Hsv.out]
             exact ⟨rfl, (Fr.refl _ _).alloc _⟩)
set_option maxHeartbeats 4000000 in
set_option maxRecDepth 100000 in
set_option linter.unusedVariables false in
theorem sign3_any (s : List UInt8) (x : Nat) (w : World) (hs : s.length ≤ 9223372036854775807) (hl0 : 0 < s.length) (hne : s.isEmpty = false) (Hx : Hid ((s.getD 0 0).toNat = x)) (hx0 : ∀ h, ((ByteArray.mk s.toArray)[0]'h).toNat = x) (hxl : x < 256)
    (h1 : ¬ (x : Int) < 128) (h32 : ((x : Int) / 32 == 6) = false) (h16 : ((x : Int) / 16 == 14) = true) (t' : True) (H1' : Hid (¬ (s.getD 0 0).toNat < 128)) (H2 : Hid (slen x = 3)) :
    Calls Try.prog 85 #[.string ⟨s.toArray⟩] w fun e w' => e = .returned (.tuple #[.int .i32 (sign s).1, .int .i64 (sign s).2]) ∧ Fr [] w w' := by
  by_cases hl : (s.length : Int) < 3
  · go_enter Try.func85, Try.ntmps85
    go_wp2
    go_ret2
    rw [sign_none s hl0 H1'.out (by rw [Hx.out, H2.out]; omega)]
    exact ⟨rfl, Fr.refl _ _⟩
  have Hm := Lib.hid (and_i32 (7 - 3) (x : Int) 15 (by decide) (by decide) (by omega) (by omega))
  go_enter Try.func85, Try.ntmps85
  go_wp2
  rw [Hm.out]
  go_loop [6, 7] (fun v i => ∃ k V : Nat, 1 ≤ k ∧ k ≤ 3 ∧ i = .int .i64 k ∧ conts ((s.take k).drop 1) ∧ v = .int .i32 (V : Int) ∧ V = dv (x % 2 ^ (7 - 3)) ((s.take k).drop 1)) (fun _ i => 5 - (intOf i).toNat)
  case atStart =>
    refine ⟨1, x % 2 ^ (7 - 3), by omega, by omega, rfl, ?_, by go_num, ?_⟩
    · intro c hc; simp at hc
    · rw [show (s.take 1).drop 1 = [] from by simp]; rfl
  case round =>
    obtain ⟨k, V, hk1, hk2, rfl, hct, rfl, hV⟩ := hrel
    have hVb : V < 2097152 := by
      have h := dv_lt ((s.take k).drop 1) (x % 2 ^ (7 - 3))
      rw [← hV] at h
      have hlen : ((s.take k).drop 1).length ≤ 3 - 1 := by simp; omega
      have h2 : (x % 2 ^ (7 - 3) + 1) * 64 ^ ((s.take k).drop 1).length ≤ 16 * 64 ^ (3 - 1) := Nat.mul_le_mul (by omega) (Nat.pow_le_pow_right (by omega) hlen)
      omega
    have HV := Lib.hid hV
    have Hct := Lib.hid hct
    clear hV hct
    by_cases hlt : (k : Int) < 3
    · obtain ⟨y, hy⟩ : ∃ y, (s.getD k 0).toNat = y := ⟨_, rfl⟩
      have hyl : y < 256 := by rw [← hy]; exact (s.getD k 0).toNat_lt
      have hyk := idx_nat s k
      rw [hy] at hyk
      have Hy := Lib.hid hy
      clear hy
      have Hc := Lib.hid (conts_snoc s k hk1 (by omega))
      by_cases hc2 : ((y : Int) / 64 != 2) = false
      · go_wp2
        go_round
        case rel =>
          refine ⟨k + 1, V * 64 + y % 64, by omega, by omega, by go_num, ?_, by go_num, ?_⟩
          · have : y / 64 = 2 := by simp at hc2; omega
            rw [Hc.out, Hy.out]; exact ⟨Hct.out, this⟩
          · rw [dv_snoc _ s k hk1 (by omega), HV.out, Hy.out]
        case measure => simp [intOf]; omega
      · have hc3 : ((y : Int) / 64 != 2) = true := by simpa using hc2
        clear hc2
        go_wp2
        go_ret2
        rw [sign_none s hl0 H1'.out ?_]
        · exact ⟨rfl, Fr.refl _ _⟩
        · rw [Hx.out, H2.out]
          rintro ⟨_, _, hcc, _⟩
          have := conts_cut s (k + 1) 3 (by omega) hcc
          rw [Hc.out, Hy.out] at this
          simp at hc3; omega
    · obtain rfl : k = 3 := by omega
      have hsv : sval 3 s = V := by rw [sval, Hx.out, HV.out]
      have Hsv := Lib.hid hsv
      clear hsv
      by_cases a1 : (V : Int) < 2048
      · go_wp2
        go_ret2
        rw [sign_none s hl0 H1'.out (by rw [Hx.out, H2.out, Hsv.out]; simp only [okv, least]; rintro ⟨_, _, _, h, _⟩; revert h; simp; omega)]
        exact ⟨rfl, (Fr.refl _ _).alloc _⟩
      by_cases a2 : 1114111 < (V : Int)
      · go_wp2
        go_ret2
        rw [sign_none s hl0 H1'.out (by rw [Hx.out, H2.out, Hsv.out]; simp only [okv, least]; rintro ⟨_, _, _, _, h, _⟩; omega)]
        exact ⟨rfl, (Fr.refl _ _).alloc _⟩
      by_cases a3 : 55296 ≤ (V : Int)
      · by_cases a4 : (V : Int) ≤ 57343
        · first
            | (exfalso; omega)
            | (go_wp2
               go_ret2
               rw [sign_none s hl0 H1'.out (by rw [Hx.out, H2.out, Hsv.out]; simp only [okv, least]; rintro ⟨_, _, _, _, _, h⟩; omega)]
               exact ⟨rfl, (Fr.refl _ _).alloc _⟩)
        · go_wp2
          go_ret2
          rw [sign_long s 3 hl0 H1'.out (by rw [Hx.out, H2.out]) (by decide) (by omega) Hct.out (by rw [Hsv.out]; simp only [okv, least]; refine ⟨?_, by omega, by omega⟩; simp; omega), Hsv.out]
          exact ⟨rfl, (Fr.refl _ _).alloc _⟩
      · first
          | (exfalso; omega)
          | (go_wp2
             go_ret2
             rw [sign_long s 3 hl0 H1'.out (by rw [Hx.out, H2.out]) (by decide) (by omega) Hct.out (by rw [Hsv.out]; simp only [okv, least]; refine ⟨?_, by omega, by omega⟩; simp; omega), Hsv.out]
             exact ⟨rfl, (Fr.refl _ _).alloc _⟩)
set_option maxHeartbeats 4000000 in
set_option maxRecDepth 100000 in
set_option linter.unusedVariables false in
theorem sign4_any (s : List UInt8) (x : Nat) (w : World) (hs : s.length ≤ 9223372036854775807) (hl0 : 0 < s.length) (hne : s.isEmpty = false) (Hx : Hid ((s.getD 0 0).toNat = x)) (hx0 : ∀ h, ((ByteArray.mk s.toArray)[0]'h).toNat = x) (hxl : x < 256)
    (h1 : ¬ (x : Int) < 128) (h32 : ((x : Int) / 32 == 6) = false) (h16 : ((x : Int) / 16 == 14) = false) (h8 : ((x : Int) / 8 == 30) = true) (H1' : Hid (¬ (s.getD 0 0).toNat < 128)) (H2 : Hid (slen x = 4)) :
    Calls Try.prog 85 #[.string ⟨s.toArray⟩] w fun e w' => e = .returned (.tuple #[.int .i32 (sign s).1, .int .i64 (sign s).2]) ∧ Fr [] w w' := by
  by_cases hl : (s.length : Int) < 4
  · go_enter Try.func85, Try.ntmps85
    go_wp2
    go_ret2
    rw [sign_none s hl0 H1'.out (by rw [Hx.out, H2.out]; omega)]
    exact ⟨rfl, Fr.refl _ _⟩
  have Hm := Lib.hid (and_i32 (7 - 4) (x : Int) 7 (by decide) (by decide) (by omega) (by omega))
  go_enter Try.func85, Try.ntmps85
  go_wp2
  rw [Hm.out]
  go_loop [6, 7] (fun v i => ∃ k V : Nat, 1 ≤ k ∧ k ≤ 4 ∧ i = .int .i64 k ∧ conts ((s.take k).drop 1) ∧ v = .int .i32 (V : Int) ∧ V = dv (x % 2 ^ (7 - 4)) ((s.take k).drop 1)) (fun _ i => 5 - (intOf i).toNat)
  case atStart =>
    refine ⟨1, x % 2 ^ (7 - 4), by omega, by omega, rfl, ?_, by go_num, ?_⟩
    · intro c hc; simp at hc
    · rw [show (s.take 1).drop 1 = [] from by simp]; rfl
  case round =>
    obtain ⟨k, V, hk1, hk2, rfl, hct, rfl, hV⟩ := hrel
    have hVb : V < 2097152 := by
      have h := dv_lt ((s.take k).drop 1) (x % 2 ^ (7 - 4))
      rw [← hV] at h
      have hlen : ((s.take k).drop 1).length ≤ 4 - 1 := by simp; omega
      have h2 : (x % 2 ^ (7 - 4) + 1) * 64 ^ ((s.take k).drop 1).length ≤ 8 * 64 ^ (4 - 1) := Nat.mul_le_mul (by omega) (Nat.pow_le_pow_right (by omega) hlen)
      omega
    have HV := Lib.hid hV
    have Hct := Lib.hid hct
    clear hV hct
    by_cases hlt : (k : Int) < 4
    · obtain ⟨y, hy⟩ : ∃ y, (s.getD k 0).toNat = y := ⟨_, rfl⟩
      have hyl : y < 256 := by rw [← hy]; exact (s.getD k 0).toNat_lt
      have hyk := idx_nat s k
      rw [hy] at hyk
      have Hy := Lib.hid hy
      clear hy
      have Hc := Lib.hid (conts_snoc s k hk1 (by omega))
      by_cases hc2 : ((y : Int) / 64 != 2) = false
      · go_wp2
        go_round
        case rel =>
          refine ⟨k + 1, V * 64 + y % 64, by omega, by omega, by go_num, ?_, by go_num, ?_⟩
          · have : y / 64 = 2 := by simp at hc2; omega
            rw [Hc.out, Hy.out]; exact ⟨Hct.out, this⟩
          · rw [dv_snoc _ s k hk1 (by omega), HV.out, Hy.out]
        case measure => simp [intOf]; omega
      · have hc3 : ((y : Int) / 64 != 2) = true := by simpa using hc2
        clear hc2
        go_wp2
        go_ret2
        rw [sign_none s hl0 H1'.out ?_]
        · exact ⟨rfl, Fr.refl _ _⟩
        · rw [Hx.out, H2.out]
          rintro ⟨_, _, hcc, _⟩
          have := conts_cut s (k + 1) 4 (by omega) hcc
          rw [Hc.out, Hy.out] at this
          simp at hc3; omega
    · obtain rfl : k = 4 := by omega
      have hsv : sval 4 s = V := by rw [sval, Hx.out, HV.out]
      have Hsv := Lib.hid hsv
      clear hsv
      by_cases a1 : (V : Int) < 65536
      · go_wp2
        go_ret2
        rw [sign_none s hl0 H1'.out (by rw [Hx.out, H2.out, Hsv.out]; simp only [okv, least]; rintro ⟨_, _, _, h, _⟩; revert h; simp; omega)]
        exact ⟨rfl, (Fr.refl _ _).alloc _⟩
      by_cases a2 : 1114111 < (V : Int)
      · go_wp2
        go_ret2
        rw [sign_none s hl0 H1'.out (by rw [Hx.out, H2.out, Hsv.out]; simp only [okv, least]; rintro ⟨_, _, _, _, h, _⟩; omega)]
        exact ⟨rfl, (Fr.refl _ _).alloc _⟩
      by_cases a3 : 55296 ≤ (V : Int)
      · by_cases a4 : (V : Int) ≤ 57343
        · first
            | (exfalso; omega)
            | (go_wp2
               go_ret2
               rw [sign_none s hl0 H1'.out (by rw [Hx.out, H2.out, Hsv.out]; simp only [okv, least]; rintro ⟨_, _, _, _, _, h⟩; omega)]
               exact ⟨rfl, (Fr.refl _ _).alloc _⟩)
        · go_wp2
          go_ret2
          rw [sign_long s 4 hl0 H1'.out (by rw [Hx.out, H2.out]) (by decide) (by omega) Hct.out (by rw [Hsv.out]; simp only [okv, least]; refine ⟨?_, by omega, by omega⟩; simp; omega), Hsv.out]
          exact ⟨rfl, (Fr.refl _ _).alloc _⟩
      · first
          | (exfalso; omega)
          | (go_wp2
             go_ret2
             rw [sign_long s 4 hl0 H1'.out (by rw [Hx.out, H2.out]) (by decide) (by omega) Hct.out (by rw [Hsv.out]; simp only [okv, least]; refine ⟨?_, by omega, by omega⟩; simp; omega), Hsv.out]
             exact ⟨rfl, (Fr.refl _ _).alloc _⟩)

set_option maxHeartbeats 1000000 in
set_option maxRecDepth 100000 in
theorem sign_any (s : List UInt8) (w : World) (hs : s.length ≤ 9223372036854775807) :
    Calls Try.prog 85 #[.string ⟨s.toArray⟩] w fun e w' => e = .returned (.tuple #[.int .i32 (sign s).1, .int .i64 (sign s).2]) ∧ Fr [] w w' := by
  by_cases he : s = []
  · subst he
    go_enter Try.func85, Try.ntmps85
    go_wp2
    go_ret2
    exact ⟨rfl, Fr.refl _ _⟩
  have hl0 : 0 < s.length := List.length_pos_iff.2 he
  have hne : s.isEmpty = false := by simpa using he
  clear he
  obtain ⟨x, hx⟩ : ∃ x, (s.getD 0 0).toNat = x := ⟨_, rfl⟩
  have hx0 := idx_nat s 0
  rw [hx] at hx0
  have Hx := Lib.hid hx
  have hxl : x < 256 := by rw [← hx]; exact (s.getD 0 0).toNat_lt
  clear hx
  by_cases h1 : (x : Int) < 128
  · go_enter Try.func85, Try.ntmps85
    go_wp2
    go_ret2
    rw [sign_short s hl0 (by rw [Hx.out]; omega), Hx.out]
    exact ⟨rfl, Fr.refl _ _⟩
  have H1' : Hid (¬ (s.getD 0 0).toNat < 128) := Lib.hid (by rw [Hx.out]; omega)
  by_cases h6 : (x : Int) / 32 = 6
  · exact sign2_any s x w hs hl0 hne Hx hx0 hxl h1 (by simpa using h6) trivial trivial H1' (Lib.hid (by unfold slen; rw [if_neg (by omega), if_pos (by omega)]))
  by_cases h14 : (x : Int) / 16 = 14
  · exact sign3_any s x w hs hl0 hne Hx hx0 hxl h1 (by simpa using h6) (by simpa using h14) trivial H1' (Lib.hid (by unfold slen; rw [if_neg (by omega), if_neg (by omega), if_pos (by omega)]))
  by_cases h30 : (x : Int) / 8 = 30
  · exact sign4_any s x w hs hl0 hne Hx hx0 hxl h1 (by simpa using h6) (by simpa using h14) (by simpa using h30) H1' (Lib.hid (by unfold slen; rw [if_neg (by omega), if_neg (by omega), if_neg (by omega), if_pos (by omega)]))
  have h0 : slen x = 0 := by unfold slen; rw [if_neg (by omega), if_neg (by omega), if_neg (by omega), if_neg (by omega)]
  have g6 : ((x : Int) / 32 == 6) = false := by simpa using h6
  have g14 : ((x : Int) / 16 == 14) = false := by simpa using h14
  have g30 : ((x : Int) / 8 == 30) = false := by simpa using h30
  have H0 := Lib.hid h0
  clear h0 h6 h14 h30
  go_enter Try.func85, Try.ntmps85
  go_wp2
  go_ret2
  rw [sign_none s hl0 H1'.out (by rw [Hx.out, H0.out]; simp)]
  exact ⟨rfl, Fr.refl _ _⟩
theorem sign_le (s : List UInt8) : (sign s).2 ≤ s.length ∧ (sign s).2 ≤ 4 := by
  have h4 : ∀ x, slen x ≤ 4 := by intro x; unfold slen; split <;> (try split) <;> (try split) <;> (try split) <;> omega
  unfold sign
  split
  · simp
  · have : 0 < s.length := List.length_pos_iff.2 ‹_›
    split
    · simp; omega
    · simp only []
      split
      · rename_i h; exact ⟨h.2.1, h4 _⟩
      · simp
theorem dv_bound (l : List UInt8) (v a : Nat) (h : v < a) : dv v l < a * 64 ^ l.length :=
  Nat.lt_of_lt_of_le (dv_lt l v) (Nat.mul_le_mul_right _ h)
theorem sign_val (s : List UInt8) : (sign s).1 ≤ 1114111 := by
  unfold sign
  split
  · simp
  · split
    · show (s.getD 0 0).toNat ≤ 1114111
      have := (s.getD 0 0).toNat_lt
      omega
    · simp only []
      split
      · rename_i h; exact h.2.2.2.2.1
      · simp

set_option maxHeartbeats 1000000 in
theorem good_any (s : List UInt8) (w : World) (hs : s.length ≤ 9223372036854775807) :
    Calls Try.prog 63 #[.string ⟨s.toArray⟩] w fun e w' => e = .returned (.bool (good s)) ∧ Fr [] w w' := by
  by_cases hb : (65535 : Int) < s.length
  · go_enter Try.func63, Try.ntmps63
    go_wp2
    go_ret
    exact ⟨ret_bool (by rw [good]; simp; omega), Fr.refl _ _⟩
  have hg : good s = good.goodN s.length s := by rw [good]; simp; omega
  have Hg := Lib.hid hg
  clear hg
  go_enter Try.func63, Try.ntmps63
  go_wp2
  go_loopw [0] (fun v wr => ∃ (j : Nat) (l : List UInt8), v = .string ⟨l.toArray⟩ ∧ l.length ≤ j ∧ j ≤ 65535 ∧ good.goodN j l = good.goodN s.length s ∧ Fr [] w wr) (fun v _ => match v with | .string b => b.size | _ => 0)
  case atStart => exact ⟨s.length, s, rfl, by omega, by omega, rfl, Fr.refl _ _⟩
  case round =>
    obtain ⟨j, l, rfl, hl, hj, hG, hf⟩ := hrel
    have HG := Lib.hid hG
    clear hG
    by_cases he : l = []
    · subst he
      go_wp2
      go_ret
      refine ⟨ret_bool ?_, hf⟩
      rw [Hg.out, ← HG.out]
      cases j <;> rfl
    · have hne : l.isEmpty = false := by simpa using he
      have hl0 : 0 < l.length := List.length_pos_iff.2 he
      clear he
      obtain ⟨i, rfl⟩ : ∃ i, j = i + 1 := ⟨j - 1, by omega⟩
      go_wp2_with fail
      refine (sign_any l _ (by omega)).mono ?_
      rintro e w1 ⟨rfl, hf1⟩
      have hff := hf.trans hf1 (by simp)
      clear hf hf1
      have hle := sign_le l
      obtain ⟨⟨v, n⟩, hvn⟩ : ∃ x, sign l = x := ⟨_, rfl⟩
      rw [hvn] at hle ⊢
      simp only at hle
      obtain ⟨hn, hn4⟩ := hle
      have hG2 : good.goodN (i + 1) l = (!(n == 0) && !(v == 0) && good.goodN i (l.drop n)) := by
        rw [good.goodN, hvn, hne]; simp
      have HG2 := Lib.hid hG2
      clear hG2 hvn
      by_cases hn0 : n = 0
      · subst hn0
        go_wp2
        go_ret
        exact ⟨ret_bool (by rw [Hg.out, ← HG.out, HG2.out]; rfl), hff⟩
      · have hn1 : ((n : Int) == 0) = false := by simpa using hn0
        by_cases hv0 : v = 0
        · subst hv0
          go_wp2
          go_ret
          exact ⟨ret_bool (by rw [Hg.out, ← HG.out, HG2.out]; simp), hff⟩
        · have hv1 : ((v : Int) == 0) = false := by simpa using hv0
          have hv2 : (v == 0) = false := by simpa using hv0
          have hn2 : (n == 0) = false := by simpa using hn0
          rw [Lib.hid hn2 |>.out, Lib.hid hv2 |>.out] at HG2
          clear hv2 hn2 hv0 hn0
          go_wp2
          rw [ex_drop _ _ _ (Nat.le_refl _)]
          have hn3 : n ≠ 0 := by simpa using hn1
          go_roundw
          case rel => exact ⟨i, l.drop n, rfl, by simp; omega, by omega, by rw [← HG.out, HG2.out]; rfl, hff⟩
          case measure =>
            show (l.drop n).length < l.length
            simp; omega
set_option maxHeartbeats 1000000 in
theorem take_any (b : Nat) (r : Rd) (w : World) (h : InAt w b r) (hs : r.s.length ≤ 9223372036854775807) :
    Calls Try.prog 36 #[.pointer (some ⟨b, 0, none⟩)] w fun e w' => e = .returned (.string ⟨r.str.1.toArray⟩) ∧ InAt w' b r.str.2 ∧ Fr [b] w w' := by
  have hl : r.data.1.length ≤ 9223372036854775807 := Nat.le_trans (Rd.raw_le _ _) (Nat.le_trans (Rd.raw_left _ _) hs)
  go_enter Try.func36, Try.ntmps36
  go_wp2_with fail
  refine (indata_any b r w h hs).mono ?_
  rintro e w1 ⟨rfl, h1, hf1⟩
  go_wp2_with fail
  refine (good_any _ w1 hl).mono ?_
  rintro e w2 ⟨rfl, hf2⟩
  have hb := (InAt.facts h).2.2.2.2
  have h2 := h1.fr hf2 (by simp)
  have hf := hf1.trans hf2 (by simp)
  clear hf1 hf2 h1 hl
  by_cases hg : good r.data.1 = true
  · have Hg := Lib.hid hg
    rw [hg]
    clear hg
    go_wp2
    go_ret
    rw [Rd.str, if_pos Hg.out]
    exact ⟨rfl, h2, hf⟩
  · have hg' : good r.data.1 = false := by simpa using hg
    have Hg := Lib.hid hg
    rw [hg']
    clear hg hg'
    go_wp2_with fail
    refine (fail_any b _ 2 w2 h2).mono ?_
    rintro e w3 ⟨rfl, h3, hf3⟩
    go_wp2
    go_ret
    rw [Rd.str, if_neg Hg.out]
    exact ⟨rfl, h3, hf.trans hf3 (by simp)⟩
theorem Rd.str_left (r : Rd) : r.str.2.s.length ≤ r.s.length := by
  have h : r.data.2.s.length ≤ r.s.length := Nat.le_trans (Rd.raw_left _ _) (Rd.raw_left _ _)
  unfold Rd.str Rd.fail
  split
  · exact h
  · simp only []; split <;> exact h
def Rd.pair (r : Rd) : (List UInt8 × List UInt8) × Rd := if r.str.2.str.2.e = 0 then ((r.str.1, r.str.2.str.1), r.str.2.str.2) else (([], []), r.str.2.str.2)
set_option maxHeartbeats 1000000 in
theorem takepair_any (b : Nat) (r : Rd) (w : World) (h : InAt w b r) (hs : r.s.length ≤ 9223372036854775807) :
    Calls Try.prog 100 #[.pointer (some ⟨b, 0, none⟩)] w fun e w' => e = .returned (.tuple #[.string ⟨r.pair.1.1.toArray⟩, .string ⟨r.pair.1.2.toArray⟩]) ∧ InAt w' b r.pair.2 ∧ Fr [b] w w' := by
  go_enter Try.func100, Try.ntmps100
  go_wp2_with fail
  refine (take_any b r w h hs).mono ?_
  rintro e w1 ⟨rfl, h1, hf1⟩
  go_wp2_with fail
  refine (take_any b _ w1 h1 (Nat.le_trans (Rd.str_left _) hs)).mono ?_
  rintro e w2 ⟨rfl, h2, hf2⟩
  have hf := hf1.trans hf2 (by simp)
  clear hf1 hf2
  go_wp2_with fail
  refine (err_any b _ w2 h2).mono ?_
  rintro e w3 ⟨rfl, rfl⟩
  by_cases he : r.str.2.str.2.e = 0
  · have h1 : (r.str.2.str.2.e != 0) = false := by simpa using he
    have He := Lib.hid he
    clear he
    go_wp2
    go_ret2
    rw [Rd.pair, if_pos He.out]
    exact ⟨rfl, h2, hf⟩
  · have h1 : (r.str.2.str.2.e != 0) = true := by simpa using he
    have He := Lib.hid he
    clear he
    go_wp2
    go_ret2
    rw [Rd.pair, if_neg He.out]
    exact ⟨rfl, h2, hf⟩
end Go.Proofs.Ythioageiebchlaa
namespace Go.Proofs.Ythioageiebchlaa
open Go.RowKit
theorem varGo_lt : ∀ (j u v : Nat) (r : Rd), v < u → (Rd.varGo u v j r).1 < 128 ^ (j + 1) * u := by
  intro j
  induction j with
  | zero =>
    intro u v r h
    rw [Rd.varGo]
    split
    · show 0 < _; omega
    split
    · split
      · show 0 < _; omega
      · rename_i h1 _
        have := Nat.mul_le_mul_right u (Nat.le_of_lt_succ h1)
        show v + _ * u < _; omega
    · show 0 < _; omega
  | succ j ih =>
    intro u v r h
    have hp : 0 < 128 ^ (j + 1) := Nat.pow_pos (by decide)
    have e : 128 ^ (j + 1 + 1) * u = 128 ^ (j + 1) * (u * 128) := by rw [Nat.pow_succ, Nat.mul_assoc, Nat.mul_comm 128 u]
    have h0 : u * 128 ≤ 128 ^ (j + 1) * (u * 128) := Nat.le_mul_of_pos_left _ hp
    rw [Rd.varGo, e]
    split
    · show 0 < _; omega
    split
    · split
      · show 0 < _; omega
      · rename_i h1 _
        have := Nat.mul_le_mul_right u (Nat.le_of_lt_succ h1)
        show v + _ * u < _; omega
    · refine ih _ _ _ ?_
      have : (Rd.num r 1).1 % 128 ≤ 127 := by omega
      have := Nat.mul_le_mul_right u this
      omega
theorem var_lt (r : Rd) : (Rd.var r).1 < 268435456 := varGo_lt 3 1 0 r (by decide)
theorem varGo_left2 (j : Nat) : ∀ (u v : Nat) (r : Rd), (Rd.varGo u v j r).2.s.length ≤ r.s.length := by
  induction j with
  | zero =>
    intro u v r
    have h := Rd.raw_left r 1
    rw [Rd.varGo]
    split
    · exact h
    split
    · split <;> exact h
    · exact h
  | succ j ih =>
    intro u v r
    have h := Rd.raw_left r 1
    rw [Rd.varGo]
    split
    · exact h
    split
    · split <;> exact h
    · exact Nat.le_trans (ih _ _ _) h

end Go.Proofs.Ythioageiebchlaa
