/- The walk of the law PropRange. -/
import Derived.Test.YtlnlolhihodgoaaPlainG
import Derived.Test.YtlnlolhihodgoaaPropG
import Derived.Test.YtlnlolhihodgoaaPropJ
import Derived.Test.YtlnlolhihodgoaaPropP
namespace Go.Proofs.Ytlnlolhihodgoaa
open Go.RowKit

theorem may_kind (id kind : Int) (isWill : Bool) (h : mayB id kind isWill = true) : 1 ≤ (ruleOf id).kind := by
  unfold mayB at h
  unfold ruleOf at h ⊢
  by_cases h1 : id = 1
  · simp only [if_pos h1]; decide
  simp only [if_neg h1] at h ⊢
  by_cases h2 : id = 2
  · simp only [if_pos h2]; decide
  simp only [if_neg h2] at h ⊢
  by_cases h3 : id = 3
  · simp only [if_pos h3]; decide
  simp only [if_neg h3] at h ⊢
  by_cases h8 : id = 8
  · simp only [if_pos h8]; decide
  simp only [if_neg h8] at h ⊢
  by_cases h9 : id = 9
  · simp only [if_pos h9]; decide
  simp only [if_neg h9] at h ⊢
  by_cases h11 : id = 11
  · simp only [if_pos h11]; decide
  simp only [if_neg h11] at h ⊢
  by_cases h17 : id = 17
  · simp only [if_pos h17]; decide
  simp only [if_neg h17] at h ⊢
  by_cases h18 : id = 18
  · simp only [if_pos h18]; decide
  simp only [if_neg h18] at h ⊢
  by_cases h19 : id = 19
  · simp only [if_pos h19]; decide
  simp only [if_neg h19] at h ⊢
  by_cases h21 : id = 21
  · simp only [if_pos h21]; decide
  simp only [if_neg h21] at h ⊢
  by_cases h22 : id = 22
  · simp only [if_pos h22]; decide
  simp only [if_neg h22] at h ⊢
  by_cases h23 : id = 23
  · simp only [if_pos h23]; decide
  simp only [if_neg h23] at h ⊢
  by_cases h25 : id = 25
  · simp only [if_pos h25]; decide
  simp only [if_neg h25] at h ⊢
  by_cases h24 : id = 24
  · simp only [if_pos h24]; decide
  simp only [if_neg h24] at h ⊢
  by_cases h26 : id = 26
  · simp only [if_pos h26]; decide
  simp only [if_neg h26] at h ⊢
  by_cases h28 : id = 28
  · simp only [if_pos h28]; decide
  simp only [if_neg h28] at h ⊢
  by_cases h31 : id = 31
  · simp only [if_pos h31]; decide
  simp only [if_neg h31] at h ⊢
  by_cases h33 : id = 33
  · simp only [if_pos h33]; decide
  simp only [if_neg h33] at h ⊢
  by_cases h34 : id = 34
  · simp only [if_pos h34]; decide
  simp only [if_neg h34] at h ⊢
  by_cases h35 : id = 35
  · simp only [if_pos h35]; decide
  simp only [if_neg h35] at h ⊢
  by_cases h36 : id = 36
  · simp only [if_pos h36]; decide
  simp only [if_neg h36] at h ⊢
  by_cases h37 : id = 37
  · simp only [if_pos h37]; decide
  simp only [if_neg h37] at h ⊢
  by_cases h40 : id = 40
  · simp only [if_pos h40]; decide
  simp only [if_neg h40] at h ⊢
  by_cases h41 : id = 41
  · simp only [if_pos h41]; decide
  simp only [if_neg h41] at h ⊢
  by_cases h42 : id = 42
  · simp only [if_pos h42]; decide
  simp only [if_neg h42] at h ⊢
  by_cases h38 : id = 38
  · simp only [if_pos h38]; decide
  simp only [if_neg h38] at h ⊢
  by_cases h39 : id = 39
  · simp only [if_pos h39]; decide
  simp only [if_neg h39] at h ⊢
  rw [zero_and] at h
  exact absurd h (by decide)
theorem nilEq (w : World) : (binOp .eql 56 (.slice none 0 0) (.slice none 0 0)).run Try.prog w = .ok (.bool true) w := by kernel_rfl
theorem and255 (n : Nat) (h : n < 4294967296) : bits .and .u32 (n : Int) 255 = ((n % 256 : Nat) : Int) :=
  (u32_and_nat n 255 h (by decide)).trans (by rw [show (255 : Nat) = 2 ^ 8 - 1 from rfl, Nat.and_two_pow_sub_one_eq_mod])
theorem and65535 (n : Nat) (h : n < 4294967296) : bits .and .u32 (n : Int) 65535 = ((n % 65536 : Nat) : Int) :=
  (u32_and_nat n 65535 h (by decide)).trans (by rw [show (65535 : Nat) = 2 ^ 16 - 1 from rfl, Nat.and_two_pow_sub_one_eq_mod])
set_option maxRecDepth 100000 in
set_option maxHeartbeats 2000000 in
theorem propRange_walk (id : Int) (n0 : Int) (kind : Int) (isWill : Bool) (wi : (Lit.int .i64 id).wf = true) (wn : (Lit.int .u32 n0).wf = true) (wk : (Lit.int .i64 kind).wf = true) (w : World) :
    Calls Try.prog 10 #[.int .i64 id, .int .u32 n0, .int .i64 kind, .bool isWill] w fun e w' => e = .returned (.bool true) ∧ Fr [] w w' := by
  have _ := wi
  have _ := wk
  obtain ⟨g0, g1⟩ := wf_u32 wn
  obtain ⟨n, rfl⟩ := Int.eq_ofNat_of_zero_le g0
  have HN : Hid (n < 4294967296) := Lib.hid (by omega)
  clear wi wn wk g0 g1
  go_enter Try.func10, Try.ntmps10
  go_wp2_with fail
  refine (awake3_any _).mono ?_
  rintro _ w1 ⟨rfl, f1⟩
  go_wp2_with fail
  refine (rmay_any _ _ _ _).mono ?_
  rintro _ _ ⟨rfl, rfl⟩
  rw [(may_eq id kind isWill).1]
  cases hm : mayB id kind isWill
  · go_wp2_with fail
    refine (awake3_any _).mono ?_
    rintro _ w2 ⟨rfl, f2⟩
    go_wp2
    go_ret
    exact ⟨rfl, f1.trans f2 (by simp)⟩
  have hk1 := may_kind id kind isWill hm
  replace hm := Lib.hid hm
  go_wp2_with fail
  refine (rkind_any _ _).mono ?_
  rintro _ _ ⟨rfl, rfl⟩
  by_cases hk5 : 4 < (ruleOf id).kind
  · generalize (ruleOf id).kind = k at *
    have t5 : decide (4 < k) = true := by simpa using hk5
    clear hk5 hk1
    go_wp2_with fail
    refine (awake3_any _).mono ?_
    rintro _ w2 ⟨rfl, f2⟩
    go_wp2
    go_ret
    exact ⟨rfl, f1.trans f2 (by simp)⟩
  have hk4 : (ruleOf id).kind = 1 ∨ (ruleOf id).kind = 2 ∨ (ruleOf id).kind = 3 ∨ (ruleOf id).kind = 4 := by omega
  rcases hk4 with hk | hk | hk | hk
  · rw [hk]
    clear hk1 hk5
    have hq : Hid ((n % 256) < 4294967296 ∧ fits (ruleOf id).kind (n % 256)) := Lib.hid (by have := HN.out; rw [hk]; refine ⟨by omega, ?_, ?_, ?_, ?_⟩ <;> intro hh <;> omega)
    replace hk := Lib.hid hk
    go_wp2_with fail
    refine (rkind_any _ _).mono ?_
    rintro _ _ ⟨rfl, rfl⟩
    rw [hk.out]
    go_wp2_with fail
    rw [and255 n HN.out]
    generalize n % 256 = M at *
    obtain ⟨hm32, hfit⟩ := hq.out
    have hk0 := hk.out
    have htk := takeP_one kind isWill id M (by omega) (by omega) hfit hm.out
    have hbd := bad_num id M (by omega) (by omega) hfit
    rw [hk0] at hbd
    have hlen : Hid ((⟨var (putsB [⟨id, M, [], []⟩]).length ++ putsB [⟨id, M, [], []⟩], 0⟩ : Rd).s.length ≤ 1000000) := Lib.hid (by have v1 := varB_len' (putsB [⟨id, M, [], []⟩]).length; have v2 := oneB_len ⟨id, M, [], []⟩; have v3 : putsB [⟨id, M, [], []⟩] = oneB ⟨id, M, [], []⟩ := (puts_one ⟨id, M, [], []⟩ (by show 0 < (ruleOf id).kind; omega)); rw [v3] at v1 ⊢; rw [List.length_append]; omega)
    refine (puts_any w1.heap.size w1.heap.size [] _ [⟨id, M, [], []⟩] _ ((OutAt.new w1).fr ((Fr.refl [] _).alloc _) (by simp) (by simp)) (view_blk _ (w1.heap.size + 1) [⟨id, M, [], []⟩] 1 rfl _ rfl 68 (blk_at1 _ _ _)) (by simp) (by intro x hx; simp at hx; subst hx; exact ⟨hm32, by simp, by simp⟩) (by simp)).mono ?_
    rintro _ w2 ⟨rfl, o2, h2, ho2, g2⟩
    rw [List.nil_append] at h2
    have f2 := ((f1.alloc (.cells #[.slice none 0 0] 73)).alloc (.cells (List.flatMap prE [⟨id, M, [], []⟩]).toArray 68)).trans g2 (by have := f1.size; simp; omega)
    clear hq hfit hk0 hm32 g2 ho2 HN
    by_cases m0 : M = 0
    · have t0 : ((M : Int) == 0) = true := by simp [m0]
      have t1 : decide (1 < (M : Int)) = false := by simp [m0]
      by_cases i11 : id = 11
      · have e1 : (id == 11) = true := by simp [i11]
        rw [show badN (ruleOf id) M = true from by rw [hbd]; simp [m0, i11], if_pos rfl] at htk
        clear hbd m0 i11
        go_wp2_with fail
        refine (outtext_any _ _ _ _ h2).mono ?_
        rintro _ _ ⟨rfl, rfl⟩
        go_wp2_with fail
        refine (over_any _ _).mono ?_
        rintro _ w3 ⟨rfl, h3, g3⟩
        have f3 := f2.trans g3 (by simp)
        have z3 := f2.size
        clear h2 g3 f2
        go_wp2_with fail
        refine (ptake_any w2.heap.size _ kind isWill _ h3 hlen.out).mono ?_
        rintro _ w4 ⟨v, rfl, own4, hnil, h4, g4⟩
        rw [htk] at own4 hnil h4
        have f4 := f3.trans g4 (by intro x hx h; simp at h; omega)
        clear h3 f3 g4
        go_wp2_with fail
        refine (rkind_any _ _).mono ?_
        rintro _ _ ⟨rfl, rfl⟩
        rw [hk.out]
        obtain rfl := hnil (by trivial)
        have heqn : ∀ w, (binOp .eql 56 (.slice none 0 0) (.slice none 0 0)).run Try.prog w = .ok (.bool true) w := fun w => nilEq w
        clear own4 hnil
        go_wp2_with fail
        refine (err_any w2.heap.size _ _ h4).mono ?_
        rintro _ _ ⟨rfl, rfl⟩
        go_wp2
        go_ret
        exact ⟨rfl, f4⟩
      by_cases i33 : id = 33
      · have e1 : (id == 11) = false := by simp [i11]
        have e2 : (id == 33) = true := by simp [i33]
        rw [show badN (ruleOf id) M = true from by rw [hbd]; simp [m0, i33], if_pos rfl] at htk
        clear hbd m0 i11 i33
        go_wp2_with fail
        refine (outtext_any _ _ _ _ h2).mono ?_
        rintro _ _ ⟨rfl, rfl⟩
        go_wp2_with fail
        refine (over_any _ _).mono ?_
        rintro _ w3 ⟨rfl, h3, g3⟩
        have f3 := f2.trans g3 (by simp)
        have z3 := f2.size
        clear h2 g3 f2
        go_wp2_with fail
        refine (ptake_any w2.heap.size _ kind isWill _ h3 hlen.out).mono ?_
        rintro _ w4 ⟨v, rfl, own4, hnil, h4, g4⟩
        rw [htk] at own4 hnil h4
        have f4 := f3.trans g4 (by intro x hx h; simp at h; omega)
        clear h3 f3 g4
        go_wp2_with fail
        refine (rkind_any _ _).mono ?_
        rintro _ _ ⟨rfl, rfl⟩
        rw [hk.out]
        obtain rfl := hnil (by trivial)
        have heqn : ∀ w, (binOp .eql 56 (.slice none 0 0) (.slice none 0 0)).run Try.prog w = .ok (.bool true) w := fun w => nilEq w
        clear own4 hnil
        go_wp2_with fail
        refine (err_any w2.heap.size _ _ h4).mono ?_
        rintro _ _ ⟨rfl, rfl⟩
        go_wp2
        go_ret
        exact ⟨rfl, f4⟩
      by_cases i39 : id = 39
      · have e1 : (id == 11) = false := by simp [i11]
        have e2 : (id == 33) = false := by simp [i33]
        have e3 : (id == 39) = true := by simp [i39]
        rw [show badN (ruleOf id) M = true from by rw [hbd]; simp [m0, i39], if_pos rfl] at htk
        clear hbd m0 i11 i33 i39
        go_wp2_with fail
        refine (outtext_any _ _ _ _ h2).mono ?_
        rintro _ _ ⟨rfl, rfl⟩
        go_wp2_with fail
        refine (over_any _ _).mono ?_
        rintro _ w3 ⟨rfl, h3, g3⟩
        have f3 := f2.trans g3 (by simp)
        have z3 := f2.size
        clear h2 g3 f2
        go_wp2_with fail
        refine (ptake_any w2.heap.size _ kind isWill _ h3 hlen.out).mono ?_
        rintro _ w4 ⟨v, rfl, own4, hnil, h4, g4⟩
        rw [htk] at own4 hnil h4
        have f4 := f3.trans g4 (by intro x hx h; simp at h; omega)
        clear h3 f3 g4
        go_wp2_with fail
        refine (rkind_any _ _).mono ?_
        rintro _ _ ⟨rfl, rfl⟩
        rw [hk.out]
        obtain rfl := hnil (by trivial)
        have heqn : ∀ w, (binOp .eql 56 (.slice none 0 0) (.slice none 0 0)).run Try.prog w = .ok (.bool true) w := fun w => nilEq w
        clear own4 hnil
        go_wp2_with fail
        refine (err_any w2.heap.size _ _ h4).mono ?_
        rintro _ _ ⟨rfl, rfl⟩
        go_wp2
        go_ret
        exact ⟨rfl, f4⟩
      · have e1 : (id == 11) = false := by simp [i11]
        have e2 : (id == 33) = false := by simp [i33]
        have e3 : (id == 39) = false := by simp [i39]
        rw [show badN (ruleOf id) M = false from by rw [hbd]; simp [m0, i11, i33, i39], if_neg (by decide)] at htk
        clear hbd m0 i11 i33 i39
        go_wp2_with fail
        refine (outtext_any _ _ _ _ h2).mono ?_
        rintro _ _ ⟨rfl, rfl⟩
        go_wp2_with fail
        refine (over_any _ _).mono ?_
        rintro _ w3 ⟨rfl, h3, g3⟩
        have f3 := f2.trans g3 (by simp)
        have z3 := f2.size
        clear h2 g3 f2
        go_wp2_with fail
        refine (ptake_any w2.heap.size _ kind isWill _ h3 hlen.out).mono ?_
        rintro _ w4 ⟨v, rfl, own4, hnil, h4, g4⟩
        rw [htk] at own4 hnil h4
        have f4 := f3.trans g4 (by intro x hx h; simp at h; omega)
        clear h3 f3 g4
        go_wp2_with fail
        refine (rkind_any _ _).mono ?_
        rintro _ _ ⟨rfl, rfl⟩
        rw [hk.out]
        try dsimp only at own4
        obtain ⟨A, cp, rfl⟩ := own_shape own4
        obtain ⟨bb, off, c', hsl, hbb, hc⟩ := (own_view own4).at prE_len (by decide) (by simp)
        cases hsl
        have d1 : w4.cell? ⟨bb, off + 1, none⟩ = some (.int .u32 (M : Int)) := (by simpa using hc 0 (by simp) 1 _ rfl)
        have d2 : w4.cell? ⟨bb, off + 0 + 1, none⟩ = some (.int .u32 (M : Int)) := (by simpa using d1)
        clear hc own4 hnil
        go_wp2_with fail
        refine (err_any w2.heap.size _ _ h4).mono ?_
        rintro _ _ ⟨rfl, rfl⟩
        go_wp2
        go_ret
        exact ⟨rfl, f4⟩
    · have t0 : ((M : Int) == 0) = false := by simp [m0]
      by_cases m1 : 1 < M
      · have t1 : decide (1 < (M : Int)) = true := by simp; omega
        rw [show badN (ruleOf id) M = true from by rw [hbd]; simp [m1], if_pos rfl] at htk
        clear hbd m0 m1
        go_wp2_with fail
        refine (outtext_any _ _ _ _ h2).mono ?_
        rintro _ _ ⟨rfl, rfl⟩
        go_wp2_with fail
        refine (over_any _ _).mono ?_
        rintro _ w3 ⟨rfl, h3, g3⟩
        have f3 := f2.trans g3 (by simp)
        have z3 := f2.size
        clear h2 g3 f2
        go_wp2_with fail
        refine (ptake_any w2.heap.size _ kind isWill _ h3 hlen.out).mono ?_
        rintro _ w4 ⟨v, rfl, own4, hnil, h4, g4⟩
        rw [htk] at own4 hnil h4
        have f4 := f3.trans g4 (by intro x hx h; simp at h; omega)
        clear h3 f3 g4
        go_wp2_with fail
        refine (rkind_any _ _).mono ?_
        rintro _ _ ⟨rfl, rfl⟩
        rw [hk.out]
        obtain rfl := hnil (by trivial)
        have heqn : ∀ w, (binOp .eql 56 (.slice none 0 0) (.slice none 0 0)).run Try.prog w = .ok (.bool true) w := fun w => nilEq w
        clear own4 hnil
        go_wp2_with fail
        refine (err_any w2.heap.size _ _ h4).mono ?_
        rintro _ _ ⟨rfl, rfl⟩
        go_wp2
        go_ret
        exact ⟨rfl, f4⟩
      · have t1 : decide (1 < (M : Int)) = false := by simp; omega
        rw [show badN (ruleOf id) M = false from by rw [hbd]; simp [m0, m1], if_neg (by decide)] at htk
        clear hbd m0 m1
        go_wp2_with fail
        refine (outtext_any _ _ _ _ h2).mono ?_
        rintro _ _ ⟨rfl, rfl⟩
        go_wp2_with fail
        refine (over_any _ _).mono ?_
        rintro _ w3 ⟨rfl, h3, g3⟩
        have f3 := f2.trans g3 (by simp)
        have z3 := f2.size
        clear h2 g3 f2
        go_wp2_with fail
        refine (ptake_any w2.heap.size _ kind isWill _ h3 hlen.out).mono ?_
        rintro _ w4 ⟨v, rfl, own4, hnil, h4, g4⟩
        rw [htk] at own4 hnil h4
        have f4 := f3.trans g4 (by intro x hx h; simp at h; omega)
        clear h3 f3 g4
        go_wp2_with fail
        refine (rkind_any _ _).mono ?_
        rintro _ _ ⟨rfl, rfl⟩
        rw [hk.out]
        try dsimp only at own4
        obtain ⟨A, cp, rfl⟩ := own_shape own4
        obtain ⟨bb, off, c', hsl, hbb, hc⟩ := (own_view own4).at prE_len (by decide) (by simp)
        cases hsl
        have d1 : w4.cell? ⟨bb, off + 1, none⟩ = some (.int .u32 (M : Int)) := (by simpa using hc 0 (by simp) 1 _ rfl)
        have d2 : w4.cell? ⟨bb, off + 0 + 1, none⟩ = some (.int .u32 (M : Int)) := (by simpa using d1)
        clear hc own4 hnil
        go_wp2_with fail
        refine (err_any w2.heap.size _ _ h4).mono ?_
        rintro _ _ ⟨rfl, rfl⟩
        go_wp2
        go_ret
        exact ⟨rfl, f4⟩
  · rw [hk]
    clear hk1 hk5
    have hq : Hid ((n % 65536) < 4294967296 ∧ fits (ruleOf id).kind (n % 65536)) := Lib.hid (by have := HN.out; rw [hk]; refine ⟨by omega, ?_, ?_, ?_, ?_⟩ <;> intro hh <;> omega)
    replace hk := Lib.hid hk
    go_wp2_with fail
    refine (rkind_any _ _).mono ?_
    rintro _ _ ⟨rfl, rfl⟩
    rw [hk.out]
    go_wp2_with fail
    rw [and65535 n HN.out]
    generalize n % 65536 = M at *
    obtain ⟨hm32, hfit⟩ := hq.out
    have hk0 := hk.out
    have htk := takeP_one kind isWill id M (by omega) (by omega) hfit hm.out
    have hbd := bad_num id M (by omega) (by omega) hfit
    rw [hk0] at hbd
    have hlen : Hid ((⟨var (putsB [⟨id, M, [], []⟩]).length ++ putsB [⟨id, M, [], []⟩], 0⟩ : Rd).s.length ≤ 1000000) := Lib.hid (by have v1 := varB_len' (putsB [⟨id, M, [], []⟩]).length; have v2 := oneB_len ⟨id, M, [], []⟩; have v3 : putsB [⟨id, M, [], []⟩] = oneB ⟨id, M, [], []⟩ := (puts_one ⟨id, M, [], []⟩ (by show 0 < (ruleOf id).kind; omega)); rw [v3] at v1 ⊢; rw [List.length_append]; omega)
    refine (puts_any w1.heap.size w1.heap.size [] _ [⟨id, M, [], []⟩] _ ((OutAt.new w1).fr ((Fr.refl [] _).alloc _) (by simp) (by simp)) (view_blk _ (w1.heap.size + 1) [⟨id, M, [], []⟩] 1 rfl _ rfl 68 (blk_at1 _ _ _)) (by simp) (by intro x hx; simp at hx; subst hx; exact ⟨hm32, by simp, by simp⟩) (by simp)).mono ?_
    rintro _ w2 ⟨rfl, o2, h2, ho2, g2⟩
    rw [List.nil_append] at h2
    have f2 := ((f1.alloc (.cells #[.slice none 0 0] 73)).alloc (.cells (List.flatMap prE [⟨id, M, [], []⟩]).toArray 68)).trans g2 (by have := f1.size; simp; omega)
    clear hq hfit hk0 hm32 g2 ho2 HN
    by_cases m0 : M = 0
    · have t0 : ((M : Int) == 0) = true := by simp [m0]
      have t1 : decide (1 < (M : Int)) = false := by simp [m0]
      by_cases i11 : id = 11
      · have e1 : (id == 11) = true := by simp [i11]
        rw [show badN (ruleOf id) M = true from by rw [hbd]; simp [m0, i11], if_pos rfl] at htk
        clear hbd m0 i11
        go_wp2_with fail
        refine (outtext_any _ _ _ _ h2).mono ?_
        rintro _ _ ⟨rfl, rfl⟩
        go_wp2_with fail
        refine (over_any _ _).mono ?_
        rintro _ w3 ⟨rfl, h3, g3⟩
        have f3 := f2.trans g3 (by simp)
        have z3 := f2.size
        clear h2 g3 f2
        go_wp2_with fail
        refine (ptake_any w2.heap.size _ kind isWill _ h3 hlen.out).mono ?_
        rintro _ w4 ⟨v, rfl, own4, hnil, h4, g4⟩
        rw [htk] at own4 hnil h4
        have f4 := f3.trans g4 (by intro x hx h; simp at h; omega)
        clear h3 f3 g4
        go_wp2_with fail
        refine (rkind_any _ _).mono ?_
        rintro _ _ ⟨rfl, rfl⟩
        rw [hk.out]
        obtain rfl := hnil (by trivial)
        have heqn : ∀ w, (binOp .eql 56 (.slice none 0 0) (.slice none 0 0)).run Try.prog w = .ok (.bool true) w := fun w => nilEq w
        clear own4 hnil
        go_wp2_with fail
        refine (err_any w2.heap.size _ _ h4).mono ?_
        rintro _ _ ⟨rfl, rfl⟩
        go_wp2
        go_ret
        exact ⟨rfl, f4⟩
      by_cases i33 : id = 33
      · have e1 : (id == 11) = false := by simp [i11]
        have e2 : (id == 33) = true := by simp [i33]
        rw [show badN (ruleOf id) M = true from by rw [hbd]; simp [m0, i33], if_pos rfl] at htk
        clear hbd m0 i11 i33
        go_wp2_with fail
        refine (outtext_any _ _ _ _ h2).mono ?_
        rintro _ _ ⟨rfl, rfl⟩
        go_wp2_with fail
        refine (over_any _ _).mono ?_
        rintro _ w3 ⟨rfl, h3, g3⟩
        have f3 := f2.trans g3 (by simp)
        have z3 := f2.size
        clear h2 g3 f2
        go_wp2_with fail
        refine (ptake_any w2.heap.size _ kind isWill _ h3 hlen.out).mono ?_
        rintro _ w4 ⟨v, rfl, own4, hnil, h4, g4⟩
        rw [htk] at own4 hnil h4
        have f4 := f3.trans g4 (by intro x hx h; simp at h; omega)
        clear h3 f3 g4
        go_wp2_with fail
        refine (rkind_any _ _).mono ?_
        rintro _ _ ⟨rfl, rfl⟩
        rw [hk.out]
        obtain rfl := hnil (by trivial)
        have heqn : ∀ w, (binOp .eql 56 (.slice none 0 0) (.slice none 0 0)).run Try.prog w = .ok (.bool true) w := fun w => nilEq w
        clear own4 hnil
        go_wp2_with fail
        refine (err_any w2.heap.size _ _ h4).mono ?_
        rintro _ _ ⟨rfl, rfl⟩
        go_wp2
        go_ret
        exact ⟨rfl, f4⟩
      by_cases i39 : id = 39
      · have e1 : (id == 11) = false := by simp [i11]
        have e2 : (id == 33) = false := by simp [i33]
        have e3 : (id == 39) = true := by simp [i39]
        rw [show badN (ruleOf id) M = true from by rw [hbd]; simp [m0, i39], if_pos rfl] at htk
        clear hbd m0 i11 i33 i39
        go_wp2_with fail
        refine (outtext_any _ _ _ _ h2).mono ?_
        rintro _ _ ⟨rfl, rfl⟩
        go_wp2_with fail
        refine (over_any _ _).mono ?_
        rintro _ w3 ⟨rfl, h3, g3⟩
        have f3 := f2.trans g3 (by simp)
        have z3 := f2.size
        clear h2 g3 f2
        go_wp2_with fail
        refine (ptake_any w2.heap.size _ kind isWill _ h3 hlen.out).mono ?_
        rintro _ w4 ⟨v, rfl, own4, hnil, h4, g4⟩
        rw [htk] at own4 hnil h4
        have f4 := f3.trans g4 (by intro x hx h; simp at h; omega)
        clear h3 f3 g4
        go_wp2_with fail
        refine (rkind_any _ _).mono ?_
        rintro _ _ ⟨rfl, rfl⟩
        rw [hk.out]
        obtain rfl := hnil (by trivial)
        have heqn : ∀ w, (binOp .eql 56 (.slice none 0 0) (.slice none 0 0)).run Try.prog w = .ok (.bool true) w := fun w => nilEq w
        clear own4 hnil
        go_wp2_with fail
        refine (err_any w2.heap.size _ _ h4).mono ?_
        rintro _ _ ⟨rfl, rfl⟩
        go_wp2
        go_ret
        exact ⟨rfl, f4⟩
      · have e1 : (id == 11) = false := by simp [i11]
        have e2 : (id == 33) = false := by simp [i33]
        have e3 : (id == 39) = false := by simp [i39]
        rw [show badN (ruleOf id) M = false from by rw [hbd]; simp [m0, i11, i33, i39], if_neg (by decide)] at htk
        clear hbd m0 i11 i33 i39
        go_wp2_with fail
        refine (outtext_any _ _ _ _ h2).mono ?_
        rintro _ _ ⟨rfl, rfl⟩
        go_wp2_with fail
        refine (over_any _ _).mono ?_
        rintro _ w3 ⟨rfl, h3, g3⟩
        have f3 := f2.trans g3 (by simp)
        have z3 := f2.size
        clear h2 g3 f2
        go_wp2_with fail
        refine (ptake_any w2.heap.size _ kind isWill _ h3 hlen.out).mono ?_
        rintro _ w4 ⟨v, rfl, own4, hnil, h4, g4⟩
        rw [htk] at own4 hnil h4
        have f4 := f3.trans g4 (by intro x hx h; simp at h; omega)
        clear h3 f3 g4
        go_wp2_with fail
        refine (rkind_any _ _).mono ?_
        rintro _ _ ⟨rfl, rfl⟩
        rw [hk.out]
        try dsimp only at own4
        obtain ⟨A, cp, rfl⟩ := own_shape own4
        obtain ⟨bb, off, c', hsl, hbb, hc⟩ := (own_view own4).at prE_len (by decide) (by simp)
        cases hsl
        have d1 : w4.cell? ⟨bb, off + 1, none⟩ = some (.int .u32 (M : Int)) := (by simpa using hc 0 (by simp) 1 _ rfl)
        have d2 : w4.cell? ⟨bb, off + 0 + 1, none⟩ = some (.int .u32 (M : Int)) := (by simpa using d1)
        clear hc own4 hnil
        go_wp2_with fail
        refine (err_any w2.heap.size _ _ h4).mono ?_
        rintro _ _ ⟨rfl, rfl⟩
        go_wp2
        go_ret
        exact ⟨rfl, f4⟩
    · have t0 : ((M : Int) == 0) = false := by simp [m0]
      rw [show badN (ruleOf id) M = false from by rw [hbd]; simp [m0], if_neg (by decide)] at htk
      clear hbd m0
      go_wp2_with fail
      refine (outtext_any _ _ _ _ h2).mono ?_
      rintro _ _ ⟨rfl, rfl⟩
      go_wp2_with fail
      refine (over_any _ _).mono ?_
      rintro _ w3 ⟨rfl, h3, g3⟩
      have f3 := f2.trans g3 (by simp)
      have z3 := f2.size
      clear h2 g3 f2
      go_wp2_with fail
      refine (ptake_any w2.heap.size _ kind isWill _ h3 hlen.out).mono ?_
      rintro _ w4 ⟨v, rfl, own4, hnil, h4, g4⟩
      rw [htk] at own4 hnil h4
      have f4 := f3.trans g4 (by intro x hx h; simp at h; omega)
      clear h3 f3 g4
      go_wp2_with fail
      refine (rkind_any _ _).mono ?_
      rintro _ _ ⟨rfl, rfl⟩
      rw [hk.out]
      try dsimp only at own4
      obtain ⟨A, cp, rfl⟩ := own_shape own4
      obtain ⟨bb, off, c', hsl, hbb, hc⟩ := (own_view own4).at prE_len (by decide) (by simp)
      cases hsl
      have d1 : w4.cell? ⟨bb, off + 1, none⟩ = some (.int .u32 (M : Int)) := (by simpa using hc 0 (by simp) 1 _ rfl)
      have d2 : w4.cell? ⟨bb, off + 0 + 1, none⟩ = some (.int .u32 (M : Int)) := (by simpa using d1)
      clear hc own4 hnil
      go_wp2_with fail
      refine (err_any w2.heap.size _ _ h4).mono ?_
      rintro _ _ ⟨rfl, rfl⟩
      go_wp2
      go_ret
      exact ⟨rfl, f4⟩
  · rw [hk]
    clear hk1 hk5
    have hq : Hid ((n) < 4294967296 ∧ fits (ruleOf id).kind (n)) := Lib.hid (by have := HN.out; rw [hk]; refine ⟨by omega, ?_, ?_, ?_, ?_⟩ <;> intro hh <;> omega)
    replace hk := Lib.hid hk
    go_wp2_with fail
    refine (rkind_any _ _).mono ?_
    rintro _ _ ⟨rfl, rfl⟩
    rw [hk.out]
    go_wp2_with fail
    skip
    generalize n = M at *
    obtain ⟨hm32, hfit⟩ := hq.out
    have hk0 := hk.out
    have htk := takeP_one kind isWill id M (by omega) (by omega) hfit hm.out
    have hbd := bad_num id M (by omega) (by omega) hfit
    rw [hk0] at hbd
    have hlen : Hid ((⟨var (putsB [⟨id, M, [], []⟩]).length ++ putsB [⟨id, M, [], []⟩], 0⟩ : Rd).s.length ≤ 1000000) := Lib.hid (by have v1 := varB_len' (putsB [⟨id, M, [], []⟩]).length; have v2 := oneB_len ⟨id, M, [], []⟩; have v3 : putsB [⟨id, M, [], []⟩] = oneB ⟨id, M, [], []⟩ := (puts_one ⟨id, M, [], []⟩ (by show 0 < (ruleOf id).kind; omega)); rw [v3] at v1 ⊢; rw [List.length_append]; omega)
    refine (puts_any w1.heap.size w1.heap.size [] _ [⟨id, M, [], []⟩] _ ((OutAt.new w1).fr ((Fr.refl [] _).alloc _) (by simp) (by simp)) (view_blk _ (w1.heap.size + 1) [⟨id, M, [], []⟩] 1 rfl _ rfl 68 (blk_at1 _ _ _)) (by simp) (by intro x hx; simp at hx; subst hx; exact ⟨hm32, by simp, by simp⟩) (by simp)).mono ?_
    rintro _ w2 ⟨rfl, o2, h2, ho2, g2⟩
    rw [List.nil_append] at h2
    have f2 := ((f1.alloc (.cells #[.slice none 0 0] 73)).alloc (.cells (List.flatMap prE [⟨id, M, [], []⟩]).toArray 68)).trans g2 (by have := f1.size; simp; omega)
    clear hq hfit hk0 hm32 g2 ho2 HN
    by_cases m0 : M = 0
    · have t0 : ((M : Int) == 0) = true := by simp [m0]
      have t1 : decide (1 < (M : Int)) = false := by simp [m0]
      by_cases i11 : id = 11
      · have e1 : (id == 11) = true := by simp [i11]
        rw [show badN (ruleOf id) M = true from by rw [hbd]; simp [m0, i11], if_pos rfl] at htk
        clear hbd m0 i11
        go_wp2_with fail
        refine (outtext_any _ _ _ _ h2).mono ?_
        rintro _ _ ⟨rfl, rfl⟩
        go_wp2_with fail
        refine (over_any _ _).mono ?_
        rintro _ w3 ⟨rfl, h3, g3⟩
        have f3 := f2.trans g3 (by simp)
        have z3 := f2.size
        clear h2 g3 f2
        go_wp2_with fail
        refine (ptake_any w2.heap.size _ kind isWill _ h3 hlen.out).mono ?_
        rintro _ w4 ⟨v, rfl, own4, hnil, h4, g4⟩
        rw [htk] at own4 hnil h4
        have f4 := f3.trans g4 (by intro x hx h; simp at h; omega)
        clear h3 f3 g4
        go_wp2_with fail
        refine (rkind_any _ _).mono ?_
        rintro _ _ ⟨rfl, rfl⟩
        rw [hk.out]
        obtain rfl := hnil (by trivial)
        have heqn : ∀ w, (binOp .eql 56 (.slice none 0 0) (.slice none 0 0)).run Try.prog w = .ok (.bool true) w := fun w => nilEq w
        clear own4 hnil
        go_wp2_with fail
        refine (err_any w2.heap.size _ _ h4).mono ?_
        rintro _ _ ⟨rfl, rfl⟩
        go_wp2
        go_ret
        exact ⟨rfl, f4⟩
      by_cases i33 : id = 33
      · have e1 : (id == 11) = false := by simp [i11]
        have e2 : (id == 33) = true := by simp [i33]
        rw [show badN (ruleOf id) M = true from by rw [hbd]; simp [m0, i33], if_pos rfl] at htk
        clear hbd m0 i11 i33
        go_wp2_with fail
        refine (outtext_any _ _ _ _ h2).mono ?_
        rintro _ _ ⟨rfl, rfl⟩
        go_wp2_with fail
        refine (over_any _ _).mono ?_
        rintro _ w3 ⟨rfl, h3, g3⟩
        have f3 := f2.trans g3 (by simp)
        have z3 := f2.size
        clear h2 g3 f2
        go_wp2_with fail
        refine (ptake_any w2.heap.size _ kind isWill _ h3 hlen.out).mono ?_
        rintro _ w4 ⟨v, rfl, own4, hnil, h4, g4⟩
        rw [htk] at own4 hnil h4
        have f4 := f3.trans g4 (by intro x hx h; simp at h; omega)
        clear h3 f3 g4
        go_wp2_with fail
        refine (rkind_any _ _).mono ?_
        rintro _ _ ⟨rfl, rfl⟩
        rw [hk.out]
        obtain rfl := hnil (by trivial)
        have heqn : ∀ w, (binOp .eql 56 (.slice none 0 0) (.slice none 0 0)).run Try.prog w = .ok (.bool true) w := fun w => nilEq w
        clear own4 hnil
        go_wp2_with fail
        refine (err_any w2.heap.size _ _ h4).mono ?_
        rintro _ _ ⟨rfl, rfl⟩
        go_wp2
        go_ret
        exact ⟨rfl, f4⟩
      by_cases i39 : id = 39
      · have e1 : (id == 11) = false := by simp [i11]
        have e2 : (id == 33) = false := by simp [i33]
        have e3 : (id == 39) = true := by simp [i39]
        rw [show badN (ruleOf id) M = true from by rw [hbd]; simp [m0, i39], if_pos rfl] at htk
        clear hbd m0 i11 i33 i39
        go_wp2_with fail
        refine (outtext_any _ _ _ _ h2).mono ?_
        rintro _ _ ⟨rfl, rfl⟩
        go_wp2_with fail
        refine (over_any _ _).mono ?_
        rintro _ w3 ⟨rfl, h3, g3⟩
        have f3 := f2.trans g3 (by simp)
        have z3 := f2.size
        clear h2 g3 f2
        go_wp2_with fail
        refine (ptake_any w2.heap.size _ kind isWill _ h3 hlen.out).mono ?_
        rintro _ w4 ⟨v, rfl, own4, hnil, h4, g4⟩
        rw [htk] at own4 hnil h4
        have f4 := f3.trans g4 (by intro x hx h; simp at h; omega)
        clear h3 f3 g4
        go_wp2_with fail
        refine (rkind_any _ _).mono ?_
        rintro _ _ ⟨rfl, rfl⟩
        rw [hk.out]
        obtain rfl := hnil (by trivial)
        have heqn : ∀ w, (binOp .eql 56 (.slice none 0 0) (.slice none 0 0)).run Try.prog w = .ok (.bool true) w := fun w => nilEq w
        clear own4 hnil
        go_wp2_with fail
        refine (err_any w2.heap.size _ _ h4).mono ?_
        rintro _ _ ⟨rfl, rfl⟩
        go_wp2
        go_ret
        exact ⟨rfl, f4⟩
      · have e1 : (id == 11) = false := by simp [i11]
        have e2 : (id == 33) = false := by simp [i33]
        have e3 : (id == 39) = false := by simp [i39]
        rw [show badN (ruleOf id) M = false from by rw [hbd]; simp [m0, i11, i33, i39], if_neg (by decide)] at htk
        clear hbd m0 i11 i33 i39
        go_wp2_with fail
        refine (outtext_any _ _ _ _ h2).mono ?_
        rintro _ _ ⟨rfl, rfl⟩
        go_wp2_with fail
        refine (over_any _ _).mono ?_
        rintro _ w3 ⟨rfl, h3, g3⟩
        have f3 := f2.trans g3 (by simp)
        have z3 := f2.size
        clear h2 g3 f2
        go_wp2_with fail
        refine (ptake_any w2.heap.size _ kind isWill _ h3 hlen.out).mono ?_
        rintro _ w4 ⟨v, rfl, own4, hnil, h4, g4⟩
        rw [htk] at own4 hnil h4
        have f4 := f3.trans g4 (by intro x hx h; simp at h; omega)
        clear h3 f3 g4
        go_wp2_with fail
        refine (rkind_any _ _).mono ?_
        rintro _ _ ⟨rfl, rfl⟩
        rw [hk.out]
        try dsimp only at own4
        obtain ⟨A, cp, rfl⟩ := own_shape own4
        obtain ⟨bb, off, c', hsl, hbb, hc⟩ := (own_view own4).at prE_len (by decide) (by simp)
        cases hsl
        have d1 : w4.cell? ⟨bb, off + 1, none⟩ = some (.int .u32 (M : Int)) := (by simpa using hc 0 (by simp) 1 _ rfl)
        have d2 : w4.cell? ⟨bb, off + 0 + 1, none⟩ = some (.int .u32 (M : Int)) := (by simpa using d1)
        clear hc own4 hnil
        go_wp2_with fail
        refine (err_any w2.heap.size _ _ h4).mono ?_
        rintro _ _ ⟨rfl, rfl⟩
        go_wp2
        go_ret
        exact ⟨rfl, f4⟩
    · have t0 : ((M : Int) == 0) = false := by simp [m0]
      rw [show badN (ruleOf id) M = false from by rw [hbd]; simp [m0], if_neg (by decide)] at htk
      clear hbd m0
      go_wp2_with fail
      refine (outtext_any _ _ _ _ h2).mono ?_
      rintro _ _ ⟨rfl, rfl⟩
      go_wp2_with fail
      refine (over_any _ _).mono ?_
      rintro _ w3 ⟨rfl, h3, g3⟩
      have f3 := f2.trans g3 (by simp)
      have z3 := f2.size
      clear h2 g3 f2
      go_wp2_with fail
      refine (ptake_any w2.heap.size _ kind isWill _ h3 hlen.out).mono ?_
      rintro _ w4 ⟨v, rfl, own4, hnil, h4, g4⟩
      rw [htk] at own4 hnil h4
      have f4 := f3.trans g4 (by intro x hx h; simp at h; omega)
      clear h3 f3 g4
      go_wp2_with fail
      refine (rkind_any _ _).mono ?_
      rintro _ _ ⟨rfl, rfl⟩
      rw [hk.out]
      try dsimp only at own4
      obtain ⟨A, cp, rfl⟩ := own_shape own4
      obtain ⟨bb, off, c', hsl, hbb, hc⟩ := (own_view own4).at prE_len (by decide) (by simp)
      cases hsl
      have d1 : w4.cell? ⟨bb, off + 1, none⟩ = some (.int .u32 (M : Int)) := (by simpa using hc 0 (by simp) 1 _ rfl)
      have d2 : w4.cell? ⟨bb, off + 0 + 1, none⟩ = some (.int .u32 (M : Int)) := (by simpa using d1)
      clear hc own4 hnil
      go_wp2_with fail
      refine (err_any w2.heap.size _ _ h4).mono ?_
      rintro _ _ ⟨rfl, rfl⟩
      go_wp2
      go_ret
      exact ⟨rfl, f4⟩
  · rw [hk]
    clear hk1 hk5
    obtain ⟨M, hM⟩ : ∃ M : Nat, M = if n ≤ 268435455 then n else 268435455 := ⟨_, rfl⟩
    have hq : Hid (M < 4294967296 ∧ fits (ruleOf id).kind M) := Lib.hid (by rw [hk]; split at hM <;> (refine ⟨by omega, ?_, ?_, ?_, ?_⟩ <;> intro hh <;> omega))
    replace hk := Lib.hid hk
    replace hM := Lib.hid hM
    go_wp2_with fail
    refine (rkind_any _ _).mono ?_
    rintro _ _ ⟨rfl, rfl⟩
    rw [hk.out]
    go_wp2_with fail
    · rename_i h
      have hMv : (268435455 : Int) = (M : Int) := by have hM2 := hM.out; rw [if_neg (by omega)] at hM2; omega
      rw [hMv]
      clear h hMv hM
      obtain ⟨hm32, hfit⟩ := hq.out
      have hk0 := hk.out
      have htk := takeP_one kind isWill id M (by omega) (by omega) hfit hm.out
      have hbd := bad_num id M (by omega) (by omega) hfit
      rw [hk0] at hbd
      have hlen : Hid ((⟨var (putsB [⟨id, M, [], []⟩]).length ++ putsB [⟨id, M, [], []⟩], 0⟩ : Rd).s.length ≤ 1000000) := Lib.hid (by have v1 := varB_len' (putsB [⟨id, M, [], []⟩]).length; have v2 := oneB_len ⟨id, M, [], []⟩; have v3 : putsB [⟨id, M, [], []⟩] = oneB ⟨id, M, [], []⟩ := (puts_one ⟨id, M, [], []⟩ (by show 0 < (ruleOf id).kind; omega)); rw [v3] at v1 ⊢; rw [List.length_append]; omega)
      refine (puts_any w1.heap.size w1.heap.size [] _ [⟨id, M, [], []⟩] _ ((OutAt.new w1).fr ((Fr.refl [] _).alloc _) (by simp) (by simp)) (view_blk _ (w1.heap.size + 1) [⟨id, M, [], []⟩] 1 rfl _ rfl 68 (blk_at1 _ _ _)) (by simp) (by intro x hx; simp at hx; subst hx; exact ⟨hm32, by simp, by simp⟩) (by simp)).mono ?_
      rintro _ w2 ⟨rfl, o2, h2, ho2, g2⟩
      rw [List.nil_append] at h2
      have f2 := ((f1.alloc (.cells #[.slice none 0 0] 73)).alloc (.cells (List.flatMap prE [⟨id, M, [], []⟩]).toArray 68)).trans g2 (by have := f1.size; simp; omega)
      clear hq hfit hk0 hm32 g2 ho2 HN
      by_cases m0 : M = 0
      · have t0 : ((M : Int) == 0) = true := by simp [m0]
        have t1 : decide (1 < (M : Int)) = false := by simp [m0]
        by_cases i11 : id = 11
        · have e1 : (id == 11) = true := by simp [i11]
          rw [show badN (ruleOf id) M = true from by rw [hbd]; simp [m0, i11], if_pos rfl] at htk
          clear hbd m0 i11
          go_wp2_with fail
          refine (outtext_any _ _ _ _ h2).mono ?_
          rintro _ _ ⟨rfl, rfl⟩
          go_wp2_with fail
          refine (over_any _ _).mono ?_
          rintro _ w3 ⟨rfl, h3, g3⟩
          have f3 := f2.trans g3 (by simp)
          have z3 := f2.size
          clear h2 g3 f2
          go_wp2_with fail
          refine (ptake_any w2.heap.size _ kind isWill _ h3 hlen.out).mono ?_
          rintro _ w4 ⟨v, rfl, own4, hnil, h4, g4⟩
          rw [htk] at own4 hnil h4
          have f4 := f3.trans g4 (by intro x hx h; simp at h; omega)
          clear h3 f3 g4
          go_wp2_with fail
          refine (rkind_any _ _).mono ?_
          rintro _ _ ⟨rfl, rfl⟩
          rw [hk.out]
          obtain rfl := hnil (by trivial)
          have heqn : ∀ w, (binOp .eql 56 (.slice none 0 0) (.slice none 0 0)).run Try.prog w = .ok (.bool true) w := fun w => nilEq w
          clear own4 hnil
          go_wp2_with fail
          refine (err_any w2.heap.size _ _ h4).mono ?_
          rintro _ _ ⟨rfl, rfl⟩
          go_wp2
          go_ret
          exact ⟨rfl, f4⟩
        by_cases i33 : id = 33
        · have e1 : (id == 11) = false := by simp [i11]
          have e2 : (id == 33) = true := by simp [i33]
          rw [show badN (ruleOf id) M = true from by rw [hbd]; simp [m0, i33], if_pos rfl] at htk
          clear hbd m0 i11 i33
          go_wp2_with fail
          refine (outtext_any _ _ _ _ h2).mono ?_
          rintro _ _ ⟨rfl, rfl⟩
          go_wp2_with fail
          refine (over_any _ _).mono ?_
          rintro _ w3 ⟨rfl, h3, g3⟩
          have f3 := f2.trans g3 (by simp)
          have z3 := f2.size
          clear h2 g3 f2
          go_wp2_with fail
          refine (ptake_any w2.heap.size _ kind isWill _ h3 hlen.out).mono ?_
          rintro _ w4 ⟨v, rfl, own4, hnil, h4, g4⟩
          rw [htk] at own4 hnil h4
          have f4 := f3.trans g4 (by intro x hx h; simp at h; omega)
          clear h3 f3 g4
          go_wp2_with fail
          refine (rkind_any _ _).mono ?_
          rintro _ _ ⟨rfl, rfl⟩
          rw [hk.out]
          obtain rfl := hnil (by trivial)
          have heqn : ∀ w, (binOp .eql 56 (.slice none 0 0) (.slice none 0 0)).run Try.prog w = .ok (.bool true) w := fun w => nilEq w
          clear own4 hnil
          go_wp2_with fail
          refine (err_any w2.heap.size _ _ h4).mono ?_
          rintro _ _ ⟨rfl, rfl⟩
          go_wp2
          go_ret
          exact ⟨rfl, f4⟩
        by_cases i39 : id = 39
        · have e1 : (id == 11) = false := by simp [i11]
          have e2 : (id == 33) = false := by simp [i33]
          have e3 : (id == 39) = true := by simp [i39]
          rw [show badN (ruleOf id) M = true from by rw [hbd]; simp [m0, i39], if_pos rfl] at htk
          clear hbd m0 i11 i33 i39
          go_wp2_with fail
          refine (outtext_any _ _ _ _ h2).mono ?_
          rintro _ _ ⟨rfl, rfl⟩
          go_wp2_with fail
          refine (over_any _ _).mono ?_
          rintro _ w3 ⟨rfl, h3, g3⟩
          have f3 := f2.trans g3 (by simp)
          have z3 := f2.size
          clear h2 g3 f2
          go_wp2_with fail
          refine (ptake_any w2.heap.size _ kind isWill _ h3 hlen.out).mono ?_
          rintro _ w4 ⟨v, rfl, own4, hnil, h4, g4⟩
          rw [htk] at own4 hnil h4
          have f4 := f3.trans g4 (by intro x hx h; simp at h; omega)
          clear h3 f3 g4
          go_wp2_with fail
          refine (rkind_any _ _).mono ?_
          rintro _ _ ⟨rfl, rfl⟩
          rw [hk.out]
          obtain rfl := hnil (by trivial)
          have heqn : ∀ w, (binOp .eql 56 (.slice none 0 0) (.slice none 0 0)).run Try.prog w = .ok (.bool true) w := fun w => nilEq w
          clear own4 hnil
          go_wp2_with fail
          refine (err_any w2.heap.size _ _ h4).mono ?_
          rintro _ _ ⟨rfl, rfl⟩
          go_wp2
          go_ret
          exact ⟨rfl, f4⟩
        · have e1 : (id == 11) = false := by simp [i11]
          have e2 : (id == 33) = false := by simp [i33]
          have e3 : (id == 39) = false := by simp [i39]
          rw [show badN (ruleOf id) M = false from by rw [hbd]; simp [m0, i11, i33, i39], if_neg (by decide)] at htk
          clear hbd m0 i11 i33 i39
          go_wp2_with fail
          refine (outtext_any _ _ _ _ h2).mono ?_
          rintro _ _ ⟨rfl, rfl⟩
          go_wp2_with fail
          refine (over_any _ _).mono ?_
          rintro _ w3 ⟨rfl, h3, g3⟩
          have f3 := f2.trans g3 (by simp)
          have z3 := f2.size
          clear h2 g3 f2
          go_wp2_with fail
          refine (ptake_any w2.heap.size _ kind isWill _ h3 hlen.out).mono ?_
          rintro _ w4 ⟨v, rfl, own4, hnil, h4, g4⟩
          rw [htk] at own4 hnil h4
          have f4 := f3.trans g4 (by intro x hx h; simp at h; omega)
          clear h3 f3 g4
          go_wp2_with fail
          refine (rkind_any _ _).mono ?_
          rintro _ _ ⟨rfl, rfl⟩
          rw [hk.out]
          try dsimp only at own4
          obtain ⟨A, cp, rfl⟩ := own_shape own4
          obtain ⟨bb, off, c', hsl, hbb, hc⟩ := (own_view own4).at prE_len (by decide) (by simp)
          cases hsl
          have d1 : w4.cell? ⟨bb, off + 1, none⟩ = some (.int .u32 (M : Int)) := (by simpa using hc 0 (by simp) 1 _ rfl)
          have d2 : w4.cell? ⟨bb, off + 0 + 1, none⟩ = some (.int .u32 (M : Int)) := (by simpa using d1)
          clear hc own4 hnil
          go_wp2_with fail
          refine (err_any w2.heap.size _ _ h4).mono ?_
          rintro _ _ ⟨rfl, rfl⟩
          go_wp2
          go_ret
          exact ⟨rfl, f4⟩
      · have t0 : ((M : Int) == 0) = false := by simp [m0]
        rw [show badN (ruleOf id) M = false from by rw [hbd]; simp [m0], if_neg (by decide)] at htk
        clear hbd m0
        go_wp2_with fail
        refine (outtext_any _ _ _ _ h2).mono ?_
        rintro _ _ ⟨rfl, rfl⟩
        go_wp2_with fail
        refine (over_any _ _).mono ?_
        rintro _ w3 ⟨rfl, h3, g3⟩
        have f3 := f2.trans g3 (by simp)
        have z3 := f2.size
        clear h2 g3 f2
        go_wp2_with fail
        refine (ptake_any w2.heap.size _ kind isWill _ h3 hlen.out).mono ?_
        rintro _ w4 ⟨v, rfl, own4, hnil, h4, g4⟩
        rw [htk] at own4 hnil h4
        have f4 := f3.trans g4 (by intro x hx h; simp at h; omega)
        clear h3 f3 g4
        go_wp2_with fail
        refine (rkind_any _ _).mono ?_
        rintro _ _ ⟨rfl, rfl⟩
        rw [hk.out]
        try dsimp only at own4
        obtain ⟨A, cp, rfl⟩ := own_shape own4
        obtain ⟨bb, off, c', hsl, hbb, hc⟩ := (own_view own4).at prE_len (by decide) (by simp)
        cases hsl
        have d1 : w4.cell? ⟨bb, off + 1, none⟩ = some (.int .u32 (M : Int)) := (by simpa using hc 0 (by simp) 1 _ rfl)
        have d2 : w4.cell? ⟨bb, off + 0 + 1, none⟩ = some (.int .u32 (M : Int)) := (by simpa using d1)
        clear hc own4 hnil
        go_wp2_with fail
        refine (err_any w2.heap.size _ _ h4).mono ?_
        rintro _ _ ⟨rfl, rfl⟩
        go_wp2
        go_ret
        exact ⟨rfl, f4⟩
    · rename_i h
      obtain rfl : M = n := by have hM2 := hM.out; rw [if_pos (by omega)] at hM2; exact hM2
      clear h hM
      obtain ⟨hm32, hfit⟩ := hq.out
      have hk0 := hk.out
      have htk := takeP_one kind isWill id M (by omega) (by omega) hfit hm.out
      have hbd := bad_num id M (by omega) (by omega) hfit
      rw [hk0] at hbd
      have hlen : Hid ((⟨var (putsB [⟨id, M, [], []⟩]).length ++ putsB [⟨id, M, [], []⟩], 0⟩ : Rd).s.length ≤ 1000000) := Lib.hid (by have v1 := varB_len' (putsB [⟨id, M, [], []⟩]).length; have v2 := oneB_len ⟨id, M, [], []⟩; have v3 : putsB [⟨id, M, [], []⟩] = oneB ⟨id, M, [], []⟩ := (puts_one ⟨id, M, [], []⟩ (by show 0 < (ruleOf id).kind; omega)); rw [v3] at v1 ⊢; rw [List.length_append]; omega)
      refine (puts_any w1.heap.size w1.heap.size [] _ [⟨id, M, [], []⟩] _ ((OutAt.new w1).fr ((Fr.refl [] _).alloc _) (by simp) (by simp)) (view_blk _ (w1.heap.size + 1) [⟨id, M, [], []⟩] 1 rfl _ rfl 68 (blk_at1 _ _ _)) (by simp) (by intro x hx; simp at hx; subst hx; exact ⟨hm32, by simp, by simp⟩) (by simp)).mono ?_
      rintro _ w2 ⟨rfl, o2, h2, ho2, g2⟩
      rw [List.nil_append] at h2
      have f2 := ((f1.alloc (.cells #[.slice none 0 0] 73)).alloc (.cells (List.flatMap prE [⟨id, M, [], []⟩]).toArray 68)).trans g2 (by have := f1.size; simp; omega)
      clear hq hfit hk0 hm32 g2 ho2 HN
      by_cases m0 : M = 0
      · have t0 : ((M : Int) == 0) = true := by simp [m0]
        have t1 : decide (1 < (M : Int)) = false := by simp [m0]
        by_cases i11 : id = 11
        · have e1 : (id == 11) = true := by simp [i11]
          rw [show badN (ruleOf id) M = true from by rw [hbd]; simp [m0, i11], if_pos rfl] at htk
          clear hbd m0 i11
          go_wp2_with fail
          refine (outtext_any _ _ _ _ h2).mono ?_
          rintro _ _ ⟨rfl, rfl⟩
          go_wp2_with fail
          refine (over_any _ _).mono ?_
          rintro _ w3 ⟨rfl, h3, g3⟩
          have f3 := f2.trans g3 (by simp)
          have z3 := f2.size
          clear h2 g3 f2
          go_wp2_with fail
          refine (ptake_any w2.heap.size _ kind isWill _ h3 hlen.out).mono ?_
          rintro _ w4 ⟨v, rfl, own4, hnil, h4, g4⟩
          rw [htk] at own4 hnil h4
          have f4 := f3.trans g4 (by intro x hx h; simp at h; omega)
          clear h3 f3 g4
          go_wp2_with fail
          refine (rkind_any _ _).mono ?_
          rintro _ _ ⟨rfl, rfl⟩
          rw [hk.out]
          obtain rfl := hnil (by trivial)
          have heqn : ∀ w, (binOp .eql 56 (.slice none 0 0) (.slice none 0 0)).run Try.prog w = .ok (.bool true) w := fun w => nilEq w
          clear own4 hnil
          go_wp2_with fail
          refine (err_any w2.heap.size _ _ h4).mono ?_
          rintro _ _ ⟨rfl, rfl⟩
          go_wp2
          go_ret
          exact ⟨rfl, f4⟩
        by_cases i33 : id = 33
        · have e1 : (id == 11) = false := by simp [i11]
          have e2 : (id == 33) = true := by simp [i33]
          rw [show badN (ruleOf id) M = true from by rw [hbd]; simp [m0, i33], if_pos rfl] at htk
          clear hbd m0 i11 i33
          go_wp2_with fail
          refine (outtext_any _ _ _ _ h2).mono ?_
          rintro _ _ ⟨rfl, rfl⟩
          go_wp2_with fail
          refine (over_any _ _).mono ?_
          rintro _ w3 ⟨rfl, h3, g3⟩
          have f3 := f2.trans g3 (by simp)
          have z3 := f2.size
          clear h2 g3 f2
          go_wp2_with fail
          refine (ptake_any w2.heap.size _ kind isWill _ h3 hlen.out).mono ?_
          rintro _ w4 ⟨v, rfl, own4, hnil, h4, g4⟩
          rw [htk] at own4 hnil h4
          have f4 := f3.trans g4 (by intro x hx h; simp at h; omega)
          clear h3 f3 g4
          go_wp2_with fail
          refine (rkind_any _ _).mono ?_
          rintro _ _ ⟨rfl, rfl⟩
          rw [hk.out]
          obtain rfl := hnil (by trivial)
          have heqn : ∀ w, (binOp .eql 56 (.slice none 0 0) (.slice none 0 0)).run Try.prog w = .ok (.bool true) w := fun w => nilEq w
          clear own4 hnil
          go_wp2_with fail
          refine (err_any w2.heap.size _ _ h4).mono ?_
          rintro _ _ ⟨rfl, rfl⟩
          go_wp2
          go_ret
          exact ⟨rfl, f4⟩
        by_cases i39 : id = 39
        · have e1 : (id == 11) = false := by simp [i11]
          have e2 : (id == 33) = false := by simp [i33]
          have e3 : (id == 39) = true := by simp [i39]
          rw [show badN (ruleOf id) M = true from by rw [hbd]; simp [m0, i39], if_pos rfl] at htk
          clear hbd m0 i11 i33 i39
          go_wp2_with fail
          refine (outtext_any _ _ _ _ h2).mono ?_
          rintro _ _ ⟨rfl, rfl⟩
          go_wp2_with fail
          refine (over_any _ _).mono ?_
          rintro _ w3 ⟨rfl, h3, g3⟩
          have f3 := f2.trans g3 (by simp)
          have z3 := f2.size
          clear h2 g3 f2
          go_wp2_with fail
          refine (ptake_any w2.heap.size _ kind isWill _ h3 hlen.out).mono ?_
          rintro _ w4 ⟨v, rfl, own4, hnil, h4, g4⟩
          rw [htk] at own4 hnil h4
          have f4 := f3.trans g4 (by intro x hx h; simp at h; omega)
          clear h3 f3 g4
          go_wp2_with fail
          refine (rkind_any _ _).mono ?_
          rintro _ _ ⟨rfl, rfl⟩
          rw [hk.out]
          obtain rfl := hnil (by trivial)
          have heqn : ∀ w, (binOp .eql 56 (.slice none 0 0) (.slice none 0 0)).run Try.prog w = .ok (.bool true) w := fun w => nilEq w
          clear own4 hnil
          go_wp2_with fail
          refine (err_any w2.heap.size _ _ h4).mono ?_
          rintro _ _ ⟨rfl, rfl⟩
          go_wp2
          go_ret
          exact ⟨rfl, f4⟩
        · have e1 : (id == 11) = false := by simp [i11]
          have e2 : (id == 33) = false := by simp [i33]
          have e3 : (id == 39) = false := by simp [i39]
          rw [show badN (ruleOf id) M = false from by rw [hbd]; simp [m0, i11, i33, i39], if_neg (by decide)] at htk
          clear hbd m0 i11 i33 i39
          go_wp2_with fail
          refine (outtext_any _ _ _ _ h2).mono ?_
          rintro _ _ ⟨rfl, rfl⟩
          go_wp2_with fail
          refine (over_any _ _).mono ?_
          rintro _ w3 ⟨rfl, h3, g3⟩
          have f3 := f2.trans g3 (by simp)
          have z3 := f2.size
          clear h2 g3 f2
          go_wp2_with fail
          refine (ptake_any w2.heap.size _ kind isWill _ h3 hlen.out).mono ?_
          rintro _ w4 ⟨v, rfl, own4, hnil, h4, g4⟩
          rw [htk] at own4 hnil h4
          have f4 := f3.trans g4 (by intro x hx h; simp at h; omega)
          clear h3 f3 g4
          go_wp2_with fail
          refine (rkind_any _ _).mono ?_
          rintro _ _ ⟨rfl, rfl⟩
          rw [hk.out]
          try dsimp only at own4
          obtain ⟨A, cp, rfl⟩ := own_shape own4
          obtain ⟨bb, off, c', hsl, hbb, hc⟩ := (own_view own4).at prE_len (by decide) (by simp)
          cases hsl
          have d1 : w4.cell? ⟨bb, off + 1, none⟩ = some (.int .u32 (M : Int)) := (by simpa using hc 0 (by simp) 1 _ rfl)
          have d2 : w4.cell? ⟨bb, off + 0 + 1, none⟩ = some (.int .u32 (M : Int)) := (by simpa using d1)
          clear hc own4 hnil
          go_wp2_with fail
          refine (err_any w2.heap.size _ _ h4).mono ?_
          rintro _ _ ⟨rfl, rfl⟩
          go_wp2
          go_ret
          exact ⟨rfl, f4⟩
      · have t0 : ((M : Int) == 0) = false := by simp [m0]
        rw [show badN (ruleOf id) M = false from by rw [hbd]; simp [m0], if_neg (by decide)] at htk
        clear hbd m0
        go_wp2_with fail
        refine (outtext_any _ _ _ _ h2).mono ?_
        rintro _ _ ⟨rfl, rfl⟩
        go_wp2_with fail
        refine (over_any _ _).mono ?_
        rintro _ w3 ⟨rfl, h3, g3⟩
        have f3 := f2.trans g3 (by simp)
        have z3 := f2.size
        clear h2 g3 f2
        go_wp2_with fail
        refine (ptake_any w2.heap.size _ kind isWill _ h3 hlen.out).mono ?_
        rintro _ w4 ⟨v, rfl, own4, hnil, h4, g4⟩
        rw [htk] at own4 hnil h4
        have f4 := f3.trans g4 (by intro x hx h; simp at h; omega)
        clear h3 f3 g4
        go_wp2_with fail
        refine (rkind_any _ _).mono ?_
        rintro _ _ ⟨rfl, rfl⟩
        rw [hk.out]
        try dsimp only at own4
        obtain ⟨A, cp, rfl⟩ := own_shape own4
        obtain ⟨bb, off, c', hsl, hbb, hc⟩ := (own_view own4).at prE_len (by decide) (by simp)
        cases hsl
        have d1 : w4.cell? ⟨bb, off + 1, none⟩ = some (.int .u32 (M : Int)) := (by simpa using hc 0 (by simp) 1 _ rfl)
        have d2 : w4.cell? ⟨bb, off + 0 + 1, none⟩ = some (.int .u32 (M : Int)) := (by simpa using d1)
        clear hc own4 hnil
        go_wp2_with fail
        refine (err_any w2.heap.size _ _ h4).mono ?_
        rintro _ _ ⟨rfl, rfl⟩
        go_wp2
        go_ret
        exact ⟨rfl, f4⟩
end Go.Proofs.Ytlnlolhihodgoaa
