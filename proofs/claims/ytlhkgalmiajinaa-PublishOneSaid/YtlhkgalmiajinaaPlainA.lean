/- The plain laws of layer 1: numbers and bytes alone. No condition. -/
import Derived.Test.YtlhkgalmiajinaaPure
namespace Go.Proofs.Ytlhkgalmiajinaa

theorem num1_cons (c : UInt8) (t : List UInt8) : Rd.num ⟨c :: t, 0⟩ 1 = (c.toNat, ⟨t, 0⟩) := by
  rw [Rd.num, Rd.raw_ok _ _ rfl (by simp)]; simp [beN]
theorem num1_nil : Rd.num ⟨[], 0⟩ 1 = (0, ⟨[], 1⟩) := by
  rw [Rd.num, Rd.raw_end _ _ rfl (by simp)]; simp [beN]
theorem varGo_cons (u v j : Nat) (c : UInt8) (t : List UInt8) : Rd.varGo u v j ⟨c :: t, 0⟩ =
    if c.toNat < 128 then if c.toNat = 0 ∧ u > 1 then (0, ⟨t, 2⟩) else (v + c.toNat * u, ⟨t, 0⟩)
    else match j with
      | 0 => (0, ⟨t, 2⟩)
      | j + 1 => Rd.varGo (u * 128) (v + c.toNat % 128 * u) j ⟨t, 0⟩ := by
  cases j <;> simp [Rd.varGo, num1_cons]
theorem varGo_nil (u v j : Nat) : Rd.varGo u v j ⟨[], 0⟩ = (0, ⟨[], 1⟩) := by
  cases j <;> simp [Rd.varGo, num1_nil]

theorem varGo_back (t : List UInt8) (j : Nat) : ∀ (u v n : Nat), n < 128 ^ (j + 1) → (n ≠ 0 ∨ u ≤ 1) → Rd.varGo u v j ⟨varB j n ++ t, 0⟩ = (v + n * u, ⟨t, 0⟩) := by
  induction j with
  | zero =>
    intro u v n hn h
    simp only [Nat.zero_add, Nat.pow_one] at hn
    rw [varB_last' 0 n hn, List.cons_append, varGo_cons, List.nil_append, b8_toNat, Nat.mod_eq_of_lt (by omega : n < 256), if_pos hn, if_neg (by omega)]
  | succ j ih =>
    intro u v n hn h
    by_cases hs : n < 128
    · rw [varB_last' _ n hs, List.cons_append, varGo_cons, List.nil_append, b8_toNat, Nat.mod_eq_of_lt (by omega : n < 256), if_pos hs, if_neg (by omega)]
    · rw [varB_on' _ n (by omega), List.cons_append, varGo_cons, b8_toNat, Nat.mod_eq_of_lt (by omega : n % 128 + 128 < 256), if_neg (by omega)]
      simp only []
      rw [ih (u * 128) _ (n / 128) (by rw [Nat.pow_succ] at hn; omega) (by left; omega)]
      have e1 : (n % 128 + 128) % 128 = n % 128 := by omega
      have e2 : n / 128 * (u * 128) = n / 128 * 128 * u := by rw [Nat.mul_comm u, Nat.mul_assoc]
      rw [e1, e2, Nat.add_assoc, ← Nat.add_mul, show n % 128 + n / 128 * 128 = n by omega]
theorem var_back (n : Nat) (t : List UInt8) (h : n ≤ 268435455) : Rd.var ⟨var n ++ t, 0⟩ = (n, ⟨t, 0⟩) := by
  rw [Rd.var, var, show vmin n = n from by unfold vmin; split <;> omega, varGo_back t 3 1 0 n (by omega) (by right; omega)]
  simp
theorem var_min (n : Nat) : var n = var (vmin n) := by
  rw [var, var]; congr 1; unfold vmin; split <;> (try split) <;> omega
theorem var_inj {m n : Nat} (hm : m ≤ 268435455) (hn : n ≤ 268435455) (h : var m = var n) : m = n := by
  have h1 := var_back m [] hm
  have h2 := var_back n [] hn
  rw [h, h2] at h1
  simp at h1; omega

theorem varGo_one (j : Nat) : ∀ (u v : Nat) (s : List UInt8) (x : Nat) (q : Rd), 0 < u → Rd.varGo u v j ⟨s, 0⟩ = (x, q) → q.e = 0 → ∃ n, s = varB j n ++ q.s ∧ x = v + n * u ∧ n < 128 ^ (j + 1) ∧ (n ≠ 0 ∨ u ≤ 1) := by
  induction j with
  | zero =>
    intro u v s x q hu h he
    cases s with
    | nil => rw [varGo_nil] at h; cases h; simp at he
    | cons c t =>
      rw [varGo_cons] at h
      split at h
      · split at h
        · cases h; simp at he
        · cases h
          refine ⟨c.toNat, ?_, rfl, by omega, by omega⟩
          rw [varB_last' 0 _ (by omega), b8_of]; rfl
      · cases h; simp at he
  | succ j ih =>
    intro u v s x q hu h he
    cases s with
    | nil => rw [varGo_nil] at h; cases h; simp at he
    | cons c t =>
      rw [varGo_cons] at h
      have hp : 128 ≤ 128 ^ (j + 1) := by
        have := Nat.pow_le_pow_right (n := 128) (by decide) (show 1 ≤ j + 1 by omega)
        omega
      have hc := c.toNat_lt
      split at h
      · split at h
        · cases h; simp at he
        · cases h
          refine ⟨c.toNat, ?_, rfl, by rw [Nat.pow_succ]; omega, by omega⟩
          rw [varB_last' _ _ (by omega), b8_of]; rfl
      · obtain ⟨n, h1, h2, h3, h4⟩ := ih _ _ _ _ _ (by omega) h he
        by_cases hn : n = 0
        · rcases h4 with h4 | h4
          · exact absurd hn h4
          · omega
        · refine ⟨c.toNat % 128 + 128 * n, ?_, ?_, ?_, by left; omega⟩
          · rw [varB_on' _ _ (by omega), show (c.toNat % 128 + 128 * n) / 128 = n by omega, h1]
            rw [b8_eq (show ((c.toNat % 128 + 128 * n) % 128 + 128) % 256 = c.toNat % 256 by omega), b8_of]; rfl
          · rw [h2, Nat.add_assoc]
            congr 1
            rw [Nat.add_mul]
            congr 1
            rw [Nat.mul_comm u, ← Nat.mul_assoc, Nat.mul_comm n]
          · rw [Nat.pow_succ]; omega
theorem var_one (s : List UInt8) (x : Nat) (q : Rd) (h : Rd.var ⟨s, 0⟩ = (x, q)) (he : q.e = 0) : s = var x ++ q.s ∧ x ≤ 268435455 := by
  obtain ⟨n, h1, h2, h3, _⟩ := varGo_one 3 1 0 s x q (by decide) h he
  have hn : n = x := by omega
  subst hn
  have : n < 268435456 := by omega
  refine ⟨?_, by omega⟩
  rw [var, show vmin n = n from by unfold vmin; split <;> omega]
  exact h1
theorem varGo_err (j : Nat) : ∀ (u v : Nat) (r : Rd), (Rd.varGo u v j r).2.e ≠ 0 → (Rd.varGo u v j r).1 = 0 := by
  induction j with
  | zero =>
    intro u v r
    rw [Rd.varGo]
    split
    · simp
    · split
      · split
        · simp
        · rename_i h _ _; intro h2; exact absurd h2 h
      · simp
  | succ j ih =>
    intro u v r
    rw [Rd.varGo.eq_def]
    simp only []
    split
    · simp
    · split
      · split
        · simp
        · rename_i h _ _; intro h2; exact absurd h2 h
      · exact ih _ _ _
theorem var_err (r : Rd) (h : r.var.2.e ≠ 0) : r.var.1 = 0 := varGo_err 3 1 0 r h
theorem varB_mono (j : Nat) : ∀ m n : Nat, m ≤ n → (varB j m).length ≤ (varB j n).length := by
  induction j with
  | zero => intro m n _; simp [varB]
  | succ j ih =>
    intro m n h
    by_cases hm : m < 128
    · rw [varB, if_pos hm]
      by_cases hn : n < 128
      · rw [varB, if_pos hn]; simp
      · rw [varB, if_neg hn]; simp
    · rw [varB, if_neg hm, varB, if_neg (by omega)]
      have := ih (m / 128) (n / 128) (Nat.div_le_div_right h)
      simp; omega
theorem var_mono (m n : Nat) (h : m ≤ n) : (var m).length ≤ (var n).length := by
  refine varB_mono 3 _ _ ?_
  unfold vmin; split <;> split <;> omega
theorem varB_len (j : Nat) : ∀ n, (varB j n).length ≤ j + 1 ∧ 0 < (varB j n).length := by
  induction j with
  | zero => intro n; simp [varB]
  | succ j ih =>
    intro n
    by_cases h : n < 128
    · rw [varB, if_pos h]; simp
    · rw [varB, if_neg h]
      have := ih (n / 128)
      simp; omega
theorem var_len4 (n : Nat) : (var n).length ≤ 4 := (varB_len 3 _).1
theorem two_back (n : Nat) (t : List UInt8) : Rd.num ⟨two n ++ t, 0⟩ 2 = (n % 65536, ⟨t, 0⟩) := by
  rw [Rd.num, Rd.raw_ok _ _ rfl (by simp [two])]
  simp only [two, List.cons_append, List.nil_append, List.take_succ_cons, List.take_zero, List.drop_succ_cons, List.drop_zero, beN, List.foldl_cons, List.foldl_nil, b8_toNat]
  congr 1; omega
theorem four_back (n : Nat) (t : List UInt8) : Rd.num ⟨four n ++ t, 0⟩ 4 = (n % 4294967296, ⟨t, 0⟩) := by
  rw [Rd.num, Rd.raw_ok _ _ rfl (by simp [four, two])]
  simp only [four, two, List.cons_append, List.nil_append, List.take_succ_cons, List.take_zero, List.drop_succ_cons, List.drop_zero, beN, List.foldl_cons, List.foldl_nil, b8_toNat]
  congr 1; omega
theorem raw_back (l t : List UInt8) : Rd.raw ⟨l ++ t, 0⟩ l.length = (l, ⟨t, 0⟩) := by
  rw [Rd.raw_ok _ _ rfl (by simp)]; simp
theorem data_back (s t : List UInt8) : Rd.data ⟨dataB s ++ t, 0⟩ = (s.take 65535, ⟨t, 0⟩) := by
  have hl : (s.take 65535).length % 65536 = (s.take 65535).length := Nat.mod_eq_of_lt (by simp; omega)
  rw [Rd.data, dataB, List.append_assoc, two_back, hl]
  exact raw_back _ _
theorem num_bad (r : Rd) (n : Nat) (h : r.e ≠ 0) : r.num n = (0, r) := by rw [Rd.num, Rd.raw_bad r n h]; rfl
theorem var_bad (r : Rd) (h : r.e ≠ 0) : r.var = (0, r) := by
  rw [Rd.var, Rd.varGo, num_bad r 1 h]
  exact if_pos h
theorem data_bad (r : Rd) (h : r.e ≠ 0) : r.data = ([], r) := by rw [Rd.data, num_bad r 2 h]; exact Rd.raw_bad r 0 h
theorem fail_bad (r : Rd) (x : Int) (h : r.e ≠ 0) : r.fail x = r := by rw [Rd.fail, if_neg h]
theorem byte_back (c : UInt8) (t : List UInt8) : Rd.num ⟨[c] ++ t, 0⟩ 1 = (c.toNat, ⟨t, 0⟩) := num1_cons c t
end Go.Proofs.Ytlhkgalmiajinaa
