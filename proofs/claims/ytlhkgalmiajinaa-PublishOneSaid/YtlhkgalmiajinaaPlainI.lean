/- Plain laws: what was taken is what would be put: numbers, data, properties. No condition. -/
import Derived.Test.YtlhkgalmiajinaaPlainG
namespace Go.Proofs.Ytlhkgalmiajinaa

theorem raw_one (s : List UInt8) (n : Nat) (h : (Rd.raw ⟨s, 0⟩ n).2.e = 0) : s = (Rd.raw ⟨s, 0⟩ n).1 ++ (Rd.raw ⟨s, 0⟩ n).2.s ∧ (Rd.raw ⟨s, 0⟩ n).1.length = n := by
  unfold Rd.raw at h ⊢
  rw [if_neg (by simp)] at h ⊢
  by_cases hn : n > s.length
  · rw [if_pos hn] at h; exact absurd h (by simp)
  · rw [if_neg hn]
    refine ⟨(List.take_append_drop n s).symm, ?_⟩
    simp; omega
theorem raw_e0 (q : Rd) (n : Nat) (h : (q.raw n).2.e = 0) : q.e = 0 := by
  by_cases he : q.e = 0
  · exact he
  · rw [Rd.raw_bad q n he] at h; exact h
theorem rd_eta (q : Rd) (h : q.e = 0) : q = ⟨q.s, 0⟩ := by cases q; subst h; rfl
theorem num_e0 (q : Rd) (n : Nat) (h : (q.num n).2.e = 0) : q.e = 0 := raw_e0 q n h
theorem var_e0 (q : Rd) (h : q.var.2.e = 0) : q.e = 0 := by
  by_cases he : q.e = 0
  · exact he
  · rw [var_bad q he] at h; exact h
theorem num1_one (s : List UInt8) (h : (Rd.num ⟨s, 0⟩ 1).2.e = 0) : s = [b8 (Rd.num ⟨s, 0⟩ 1).1] ++ (Rd.num ⟨s, 0⟩ 1).2.s ∧ (Rd.num ⟨s, 0⟩ 1).1 < 256 := by
  obtain ⟨h1, h2⟩ := raw_one s 1 h
  have hl := Rd.num_lt ⟨s, 0⟩ 1
  refine ⟨?_, by omega⟩
  unfold Rd.num
  dsimp only
  generalize Rd.raw ⟨s, 0⟩ 1 = q at *
  obtain ⟨l, q⟩ := q
  match l, h2 with
  | [a], _ =>
    have : b8 (beN [a]) = a := by rw [show beN [a] = a.toNat from by simp [beN], b8_of]
    dsimp only at h1 ⊢
    rw [this]; exact h1
theorem num2_one (s : List UInt8) (h : (Rd.num ⟨s, 0⟩ 2).2.e = 0) : s = two (Rd.num ⟨s, 0⟩ 2).1 ++ (Rd.num ⟨s, 0⟩ 2).2.s ∧ (Rd.num ⟨s, 0⟩ 2).1 < 65536 := by
  obtain ⟨h1, h2⟩ := raw_one s 2 h
  have hl := Rd.num_lt ⟨s, 0⟩ 2
  refine ⟨?_, by omega⟩
  unfold Rd.num
  dsimp only
  generalize Rd.raw ⟨s, 0⟩ 2 = q at *
  obtain ⟨l, q⟩ := q
  match l, h2 with
  | [a, b], _ =>
    have ha := a.toNat_lt
    have hb := b.toNat_lt
    have : two (beN [a, b]) = [a, b] := by
      rw [show beN [a, b] = a.toNat * 256 + b.toNat from by simp [beN]]
      unfold two
      rw [b8_eq (show (a.toNat * 256 + b.toNat) / 256 % 256 = a.toNat % 256 from by omega), b8_eq (show (a.toNat * 256 + b.toNat) % 256 = b.toNat % 256 from by omega), b8_of, b8_of]
    dsimp only at h1 ⊢
    rw [this]; exact h1
theorem num4_one (s : List UInt8) (h : (Rd.num ⟨s, 0⟩ 4).2.e = 0) : s = four (Rd.num ⟨s, 0⟩ 4).1 ++ (Rd.num ⟨s, 0⟩ 4).2.s ∧ (Rd.num ⟨s, 0⟩ 4).1 < 4294967296 := by
  obtain ⟨h1, h2⟩ := raw_one s 4 h
  have hl := Rd.num_lt ⟨s, 0⟩ 4
  refine ⟨?_, by omega⟩
  unfold Rd.num
  dsimp only
  generalize Rd.raw ⟨s, 0⟩ 4 = q at *
  obtain ⟨l, q⟩ := q
  match l, h2 with
  | [a, b, c, d], _ =>
    have ha := a.toNat_lt
    have hb := b.toNat_lt
    have hc := c.toNat_lt
    have hd := d.toNat_lt
    have : four (beN [a, b, c, d]) = [a, b, c, d] := by
      rw [show beN [a, b, c, d] = ((a.toNat * 256 + b.toNat) * 256 + c.toNat) * 256 + d.toNat from by simp [beN]]
      unfold four two
      rw [b8_eq (show (((a.toNat * 256 + b.toNat) * 256 + c.toNat) * 256 + d.toNat) / 65536 / 256 % 256 = a.toNat % 256 from by omega), b8_eq (show (((a.toNat * 256 + b.toNat) * 256 + c.toNat) * 256 + d.toNat) / 65536 % 256 = b.toNat % 256 from by omega), b8_eq (show (((a.toNat * 256 + b.toNat) * 256 + c.toNat) * 256 + d.toNat) / 256 % 256 = c.toNat % 256 from by omega), b8_eq (show (((a.toNat * 256 + b.toNat) * 256 + c.toNat) * 256 + d.toNat) % 256 = d.toNat % 256 from by omega), b8_of, b8_of, b8_of, b8_of]
      rfl
    dsimp only at h1 ⊢
    rw [this]; exact h1
theorem data_one (s : List UInt8) (h : (Rd.data ⟨s, 0⟩).2.e = 0) : s = dataB (Rd.data ⟨s, 0⟩).1 ++ (Rd.data ⟨s, 0⟩).2.s ∧ (Rd.data ⟨s, 0⟩).1.length ≤ 65535 := by
  unfold Rd.data at h ⊢
  have h0 := raw_e0 _ _ h
  obtain ⟨h1, h2⟩ := num2_one s h0
  rw [rd_eta _ h0] at h ⊢
  obtain ⟨h3, h4⟩ := raw_one _ _ h
  refine ⟨?_, by omega⟩
  unfold dataB
  rw [List.take_of_length_le (by omega), h4, List.append_assoc, ← h3]
  exact h1
theorem data_e0 (q : Rd) (h : q.data.2.e = 0) : q.e = 0 := num_e0 q 2 (raw_e0 _ _ h)
theorem str_one (s : List UInt8) (h : (Rd.str ⟨s, 0⟩).2.e = 0) : s = dataB (Rd.str ⟨s, 0⟩).1 ++ (Rd.str ⟨s, 0⟩).2.s ∧ (Rd.str ⟨s, 0⟩).1.length ≤ 65535 := by
  unfold Rd.str at h ⊢
  by_cases hg : good (Rd.data ⟨s, 0⟩).1 = true
  · rw [if_pos hg] at h ⊢; exact data_one s h
  · rw [if_neg hg] at h
    exfalso
    dsimp only [Rd.fail] at h
    split at h
    · exact absurd h (by simp)
    · rename_i hx; exact hx h
theorem str_e0 (q : Rd) (h : q.str.2.e = 0) : q.e = 0 := by
  unfold Rd.str at h
  split at h
  · exact data_e0 q h
  · exfalso
    unfold Rd.fail at h
    split at h
    · exact absurd h (by simp)
    · rename_i hx; exact hx h
theorem pair_one (s : List UInt8) (h : (Rd.pair ⟨s, 0⟩).2.e = 0) : s = (dataB (Rd.pair ⟨s, 0⟩).1.1 ++ dataB (Rd.pair ⟨s, 0⟩).1.2) ++ (Rd.pair ⟨s, 0⟩).2.s := by
  unfold Rd.pair at h ⊢
  split at h
  · rename_i hx
    rw [if_pos hx]
    have h0 := str_e0 _ hx
    obtain ⟨h1, _⟩ := str_one s h0
    rw [rd_eta _ h0] at hx ⊢
    obtain ⟨h3, _⟩ := str_one _ hx
    dsimp only at h3 ⊢
    rw [List.append_assoc, ← h3]; exact h1
  · rename_i hx; exact absurd h hx
theorem chk_e0 (ru : Rule) (n : Nat) (q : Rd) (h : (chkR ru n q).e = 0) : chkR ru n q = q ∧ q.e = 0 := by
  unfold chkR at h ⊢
  split
  · rename_i hx; rw [if_pos hx] at h; exact absurd h (by simp)
  · rename_i hx; rw [if_neg hx] at h; exact ⟨rfl, h⟩
theorem val_one (id : Int) (s : List UInt8) (h1 : 1 ≤ (ruleOf id).kind) (h : (valR (ruleOf id) id ⟨s, 0⟩).2.e = 0) :
    s = sayB (ruleOf id).kind (valR (ruleOf id) id ⟨s, 0⟩).1 ++ (valR (ruleOf id) id ⟨s, 0⟩).2.s ∧ (valR (ruleOf id) id ⟨s, 0⟩).1.id = id := by
  obtain ⟨_, _, h7, _⟩ := ruleOf_cases id
  have hk : (ruleOf id).kind = 1 ∨ (ruleOf id).kind = 2 ∨ (ruleOf id).kind = 3 ∨ (ruleOf id).kind = 4 ∨ (ruleOf id).kind = 5 ∨ (ruleOf id).kind = 6 ∨ (ruleOf id).kind = 7 := by omega
  unfold valR at h ⊢
  unfold sayB
  rcases hk with hk | hk | hk | hk | hk | hk | hk
  · simp only [hk, if_true] at h ⊢
    obtain ⟨e, h⟩ := chk_e0 _ _ _ h
    rw [e]; exact ⟨(num1_one s h).1, trivial⟩
  · simp [hk] at h ⊢
    obtain ⟨e, h⟩ := chk_e0 _ _ _ h
    rw [e]; exact (num2_one s h).1
  · simp [hk] at h ⊢
    obtain ⟨e, h⟩ := chk_e0 _ _ _ h
    rw [e]; exact (num4_one s h).1
  · simp [hk] at h ⊢
    obtain ⟨e, h⟩ := chk_e0 _ _ _ h
    rw [e]; exact (var_one s _ _ rfl h).1
  · simp [hk] at h ⊢
    exact (str_one s h).1
  · simp [hk] at h ⊢
    exact (data_one s h).1
  · simp [hk] at h ⊢
    have := pair_one s h
    rw [List.append_assoc] at this; exact this
theorem props_one (kind : Int) (isWill : Bool) : ∀ (m : Nat) (s : List UInt8) (l : List Pr), s.length ≤ m → (propsGo kind isWill m ⟨s, 0⟩ l).2.e = 0 → ∃ l2, (propsGo kind isWill m ⟨s, 0⟩ l).1 = l ++ l2 ∧ s = putsB l2
  | 0, s, l, hs, _ => ⟨[], by rw [List.append_nil]; rfl, by rw [List.eq_nil_of_length_eq_zero (by omega : s.length = 0)]; rfl⟩
  | m + 1, s, l, hs, h => by
    rw [propsGo] at h ⊢
    by_cases h0 : s = []
    · rw [if_pos (Or.inl h0)]
      exact ⟨[], by simp, by rw [h0]; rfl⟩
    rw [if_neg (by simp [h0])] at h ⊢
    by_cases h1 : (Rd.var ⟨s, 0⟩).2.e = 0
    rotate_left
    · rw [if_pos h1] at h; exact absurd h h1
    rw [if_neg (by simpa using h1)] at h ⊢
    obtain ⟨hv, hv2⟩ : s = var (Rd.var ⟨s, 0⟩).1 ++ (Rd.var ⟨s, 0⟩).2.s ∧ (Rd.var ⟨s, 0⟩).1 ≤ 268435455 := var_one s _ _ rfl h1
    have hlt := var_less ⟨s, 0⟩ h1
    generalize Rd.var ⟨s, 0⟩ = q at *
    obtain ⟨id, q⟩ := q
    dsimp only at h h1 hv hv2 hlt ⊢
    rw [rd_eta q h1] at h ⊢
    cases hm : mayB id kind isWill
    · rw [if_pos hm] at h; exact absurd h (by simp)
    rw [if_neg (by simp [hm])] at h ⊢
    by_cases hd : (getR l id).2 = true ∧ manyB id kind isWill = false
    · rw [if_pos hd] at h; exact absurd h (by simp)
    rw [if_neg hd] at h ⊢
    have hk1 : 1 ≤ (ruleOf id).kind := by
      have := (ruleOf_cases id).2.2.2.2
      apply this
      intro e
      unfold mayB at hm
      rw [e] at hm
      revert hm
      unfold bits
      simp [IntKind.wrap_i64]
    by_cases h2 : (valR (ruleOf id) id ⟨q.s, 0⟩).2.e = 0
    rotate_left
    · rw [propsGo_stop _ _ _ _ _ (Or.inr h2)] at h; exact absurd h h2
    obtain ⟨e1, e2⟩ := val_one id q.s hk1 h2
    have hl := valR_left (ruleOf id) id ⟨q.s, 0⟩
    generalize valR (ruleOf id) id ⟨q.s, 0⟩ = V at *
    obtain ⟨p, q2⟩ := V
    dsimp only at h h2 e1 e2 hl ⊢
    rw [rd_eta q2 h2] at h ⊢
    obtain ⟨l2, a, b⟩ := props_one kind isWill m q2.s (l ++ [p]) (by omega) h
    refine ⟨p :: l2, by rw [a, List.append_assoc]; rfl, ?_⟩
    have hid : p.id.toNat = id := by rw [e2]; rfl
    show s = (if 0 < (ruleOf p.id).kind then oneB p else []) ++ putsB l2
    rw [if_pos (by rw [e2]; omega), oneB, hid, e2, List.append_assoc, ← b, ← e1]
    exact hv
theorem takeP_e0 (q : Rd) (kind : Int) (isWill : Bool) (h : (takeP q kind isWill).2.e = 0) : q.e = 0 := by
  unfold takeP at h
  by_cases h1 : (q.var.2.raw q.var.1).2.e ≠ 0
  · rw [if_pos h1] at h; exact absurd h h1
  · exact var_e0 q (raw_e0 _ _ (by simpa using h1))
theorem takeP_bad (q : Rd) (kind : Int) (isWill : Bool) (h : q.e ≠ 0) : takeP q kind isWill = ([], q) := by
  have h1 : (q.var.2.raw q.var.1) = ([], q) := by rw [var_bad q h, Rd.raw_bad q _ h]
  unfold takeP
  rw [h1, if_pos h]
theorem take_one (s : List UInt8) (kind : Int) (isWill : Bool) (h : (takeP ⟨s, 0⟩ kind isWill).2.e = 0) :
    s = (var (putsB (takeP ⟨s, 0⟩ kind isWill).1).length ++ putsB (takeP ⟨s, 0⟩ kind isWill).1) ++ (takeP ⟨s, 0⟩ kind isWill).2.s ∧ (putsB (takeP ⟨s, 0⟩ kind isWill).1).length ≤ s.length := by
  unfold takeP at h ⊢
  by_cases h1 : ((Rd.var ⟨s, 0⟩).2.raw (Rd.var ⟨s, 0⟩).1).2.e = 0
  rotate_left
  · rw [if_pos h1] at h; exact absurd h h1
  rw [if_neg (by simpa using h1)] at h ⊢
  have h0 := raw_e0 _ _ h1
  obtain ⟨hv, hv2⟩ : s = var (Rd.var ⟨s, 0⟩).1 ++ (Rd.var ⟨s, 0⟩).2.s ∧ (Rd.var ⟨s, 0⟩).1 ≤ 268435455 := var_one s _ _ rfl h0
  generalize Rd.var ⟨s, 0⟩ = q at *
  obtain ⟨n, q⟩ := q
  dsimp only at h h0 h1 hv hv2 ⊢
  rw [rd_eta q h0] at h h1 ⊢
  obtain ⟨e1, e2⟩ := raw_one _ _ h1
  generalize Rd.raw ⟨q.s, 0⟩ n = B at *
  obtain ⟨B, q2⟩ := B
  dsimp only at h h1 e1 e2 ⊢
  by_cases h2 : (propsGo kind isWill B.length ⟨B, 0⟩ []).2.e = 0
  · rw [if_pos h2]
    obtain ⟨l2, a, b⟩ := props_one kind isWill B.length B [] (Nat.le_refl _) h2
    rw [List.nil_append] at a
    dsimp only
    rw [a, ← b, e2, List.append_assoc, ← e1, ← hv]
    refine ⟨rfl, ?_⟩
    have := congrArg List.length hv
    have := congrArg List.length e1
    simp only [List.length_append] at *
    omega
  · rw [if_neg h2] at h
    exfalso
    dsimp only [Rd.fail] at h
    rw [if_pos h1] at h
    dsimp only at h
    split at h
    · exact absurd h (by decide)
    · exact h2 h
end Go.Proofs.Ytlhkgalmiajinaa
