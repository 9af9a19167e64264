/- Plain laws: properties that were put are taken again. No condition. -/
import Derived.Test.YthioageiebchlaaPropF
import Derived.Test.YthioageiebchlaaPropG
import Derived.Test.YthioageiebchlaaPure
import Derived.Test.YthioageiebchlaaPlainB
import Derived.Test.YthioageiebchlaaPropI
namespace Go.Proofs.Ythioageiebchlaa

theorem props_end (kind : Int) (isWill : Bool) (m : Nat) (e : Int) (l : List Pr) : propsGo kind isWill m ⟨[], e⟩ l = (l, ⟨[], e⟩) := by
  cases m
  · rfl
  · rw [propsGo, if_pos (Or.inl rfl)]
theorem props_bad (kind : Int) (isWill : Bool) (m : Nat) (s : List UInt8) (e : Int) (h : e ≠ 0) (l : List Pr) : propsGo kind isWill m ⟨s, e⟩ l = (l, ⟨s, e⟩) := by
  cases m
  · rfl
  · rw [propsGo, if_pos (Or.inr h)]
theorem var_ne (n : Nat) (h : n < 128) (t : List UInt8) : var n ++ t ≠ [] := by
  rw [var, show vmin n = n from by unfold vmin; split <;> omega, varB_last' 3 n h]; simp
theorem props_step (kind : Int) (isWill : Bool) (x : Pr) (m : Nat) (t : List UInt8) (l : List Pr) (h1 : 1 ≤ x.id) (h2 : x.id ≤ 42) (hm : mayB x.id kind isWill = true) (hg : ¬ ((getR l x.id).2 = true ∧ manyB x.id kind isWill = false)) :
    propsGo kind isWill (m + 1) ⟨oneB x ++ t, 0⟩ l = propsGo kind isWill m (valR (ruleOf x.id) x.id ⟨sayB (ruleOf x.id).kind x ++ t, 0⟩).2 (l ++ [(valR (ruleOf x.id) x.id ⟨sayB (ruleOf x.id).kind x ++ t, 0⟩).1]) := by
  have hid : ((x.id.toNat : Nat) : Int) = x.id := Int.toNat_of_nonneg (by omega)
  have hv := var_back x.id.toNat (sayB (ruleOf x.id).kind x ++ t) (by omega)
  have hne := var_ne x.id.toNat (by omega) (sayB (ruleOf x.id).kind x ++ t)
  rw [propsGo, oneB, List.append_assoc, hv, if_neg (by simp [hne])]
  dsimp only
  rw [hid, if_neg (by simp), if_neg (by simp [hm]), if_neg hg]
theorem takeP_of (kind : Int) (isWill : Bool) (B t : List UInt8) (h : B.length ≤ 268435455) :
    takeP ⟨var B.length ++ (B ++ t), 0⟩ kind isWill = if (propsGo kind isWill B.length ⟨B, 0⟩ []).2.e = 0 then ((propsGo kind isWill B.length ⟨B, 0⟩ []).1, ⟨t, 0⟩) else ([], ⟨t, if (propsGo kind isWill B.length ⟨B, 0⟩ []).2.e = 1 then 2 else (propsGo kind isWill B.length ⟨B, 0⟩ []).2.e⟩) := by
  unfold takeP
  rw [var_back _ _ h]
  dsimp only
  rw [raw_back]
  dsimp only
  rw [if_neg (by simp)]
  rfl
/-- The number fits its kind. -/
def fits (k : Int) (n : Nat) : Prop := (k = 1 → n < 256) ∧ (k = 2 → n < 65536) ∧ (k = 3 → n < 4294967296) ∧ (k = 4 → n ≤ 268435455)
theorem val_num (id : Int) (n : Nat) (t : List UInt8) (h1 : 1 ≤ (ruleOf id).kind) (h4 : (ruleOf id).kind ≤ 4) (hf : fits (ruleOf id).kind n) :
    valR (ruleOf id) id ⟨sayB (ruleOf id).kind ⟨id, n, [], []⟩ ++ t, 0⟩ = (⟨id, n, [], []⟩, chkR (ruleOf id) n ⟨t, 0⟩) := by
  obtain ⟨f1, f2, f3, f4⟩ := hf
  unfold valR sayB
  have hk : (ruleOf id).kind = 1 ∨ (ruleOf id).kind = 2 ∨ (ruleOf id).kind = 3 ∨ (ruleOf id).kind = 4 := by omega
  rcases hk with hk | hk | hk | hk
  · have := f1 hk
    rw [if_pos hk, if_pos hk, byte_back, b8_toNat, Nat.mod_eq_of_lt this]
  · have := f2 hk
    rw [if_neg (by omega), if_pos hk, if_neg (by omega), if_pos hk, two_back, Nat.mod_eq_of_lt this]
  · have := f3 hk
    rw [if_neg (by omega), if_neg (by omega), if_pos hk, if_neg (by omega), if_neg (by omega), if_pos hk, four_back, Nat.mod_eq_of_lt this]
  · have := f4 hk
    rw [if_neg (by omega), if_neg (by omega), if_neg (by omega), if_pos hk, if_neg (by omega), if_neg (by omega), if_neg (by omega), if_pos hk, var_back n t this]
theorem puts_one (x : Pr) (h : 0 < (ruleOf x.id).kind) : putsB [x] = oneB x := by
  simp [putsB, h]
def badN (ru : Rule) (n : Nat) : Bool := decide (n < ru.least ∨ ru.most < n)
theorem takeP_one (kind : Int) (isWill : Bool) (id : Int) (n : Nat) (h1 : 1 ≤ (ruleOf id).kind) (h4 : (ruleOf id).kind ≤ 4) (hf : fits (ruleOf id).kind n) (hm : mayB id kind isWill = true) :
    takeP ⟨var (putsB [⟨id, n, [], []⟩]).length ++ putsB [⟨id, n, [], []⟩], 0⟩ kind isWill = if badN (ruleOf id) n = true then ([], ⟨[], 3⟩) else ([⟨id, n, [], []⟩], ⟨[], 0⟩) := by
  obtain ⟨i1, i2⟩ := kind_id id (by omega)
  have hB : putsB [⟨id, n, [], []⟩] = oneB ⟨id, n, [], []⟩ := puts_one ⟨id, n, [], []⟩ (by show 0 < (ruleOf id).kind; omega)
  rw [hB]
  have hl : (oneB ⟨id, n, [], []⟩).length ≤ 100 ∧ 0 < (oneB ⟨id, n, [], []⟩).length := by
    have v1 := varB_len' id.toNat
    have v2 := varB_len' n
    have v3 : (var id.toNat).length ≠ 0 := fun h => var_ne id.toNat (by omega) [] (by simpa using List.eq_nil_of_length_eq_zero h)
    have hs : (sayB (ruleOf id).kind ⟨id, n, [], []⟩).length ≤ 8 := by
      unfold sayB
      split
      · simp
      split
      · simp [two]
      split
      · simp [four, two]
      split
      · dsimp only; omega
      split
      · simp [dataB, two]
      split
      · simp [dataB, two]
      · simp
    unfold oneB
    rw [List.length_append]
    dsimp only
    omega
  have ht := takeP_of kind isWill (oneB ⟨id, n, [], []⟩) [] (by omega)
  rw [List.append_nil] at ht
  rw [ht]
  obtain ⟨m, hm1⟩ : ∃ m, (oneB ⟨id, n, [], []⟩).length = m + 1 := ⟨_, (Nat.succ_pred_eq_of_pos hl.2).symm⟩
  have hstep := props_step kind isWill ⟨id, n, [], []⟩ m [] [] i1 i2 hm (by simp [getR])
  rw [List.append_nil] at hstep
  dsimp only at hstep
  rw [val_num id n [] h1 h4 hf] at hstep
  rw [hm1, hstep]
  dsimp only
  have hc : chkR (ruleOf id) n ⟨[], 0⟩ = if badN (ruleOf id) n = true then ⟨[], 3⟩ else ⟨[], 0⟩ := by
    unfold chkR badN
    by_cases hb : n < (ruleOf id).least ∨ (ruleOf id).most < n
    · rw [if_pos ⟨rfl, hb⟩, if_pos (by simpa using hb)]
    · rw [if_neg (fun h => hb h.2), if_neg (by simpa using hb)]
  rw [hc]
  by_cases hb : badN (ruleOf id) n = true
  · rw [if_pos hb, if_pos hb, props_bad _ _ _ _ _ (by decide)]
    simp
  · rw [if_neg hb, if_neg hb, props_end]
    simp
theorem bad_num (id : Int) (n : Nat) (g1 : 1 ≤ (ruleOf id).kind) (g4 : (ruleOf id).kind ≤ 4) (hf : fits (ruleOf id).kind n) :
    badN (ruleOf id) n = (decide ((ruleOf id).kind = 1) && decide (1 < n) || decide (n = 0) && (decide (id = 11) || decide (id = 33) || decide (id = 39))) := by
  obtain ⟨f1, f2, f3, f4⟩ := hf
  rw [Bool.eq_iff_iff]
  unfold badN
  unfold ruleOf at g1 g4 f1 f2 f3 f4 ⊢
  by_cases h1 : id = 1
  · simp only [if_pos h1] at g1 g4 f1 f2 f3 f4 ⊢
    subst h1
    clear g1
    first | (exfalso; revert g4; decide) | (simp at f1 f2 f3 f4 ⊢; done) | (simp at f1 f2 f3 f4 ⊢; omega)
  simp only [if_neg h1] at g1 g4 f1 f2 f3 f4 ⊢
  by_cases h2 : id = 2
  · simp only [if_pos h2] at g1 g4 f1 f2 f3 f4 ⊢
    subst h2
    clear g1
    first | (exfalso; revert g4; decide) | (simp at f1 f2 f3 f4 ⊢; done) | (simp at f1 f2 f3 f4 ⊢; omega)
  simp only [if_neg h2] at g1 g4 f1 f2 f3 f4 ⊢
  by_cases h3 : id = 3
  · simp only [if_pos h3] at g1 g4 f1 f2 f3 f4 ⊢
    subst h3
    clear g1
    first | (exfalso; revert g4; decide) | (simp at f1 f2 f3 f4 ⊢; done) | (simp at f1 f2 f3 f4 ⊢; omega)
  simp only [if_neg h3] at g1 g4 f1 f2 f3 f4 ⊢
  by_cases h8 : id = 8
  · simp only [if_pos h8] at g1 g4 f1 f2 f3 f4 ⊢
    subst h8
    clear g1
    first | (exfalso; revert g4; decide) | (simp at f1 f2 f3 f4 ⊢; done) | (simp at f1 f2 f3 f4 ⊢; omega)
  simp only [if_neg h8] at g1 g4 f1 f2 f3 f4 ⊢
  by_cases h9 : id = 9
  · simp only [if_pos h9] at g1 g4 f1 f2 f3 f4 ⊢
    subst h9
    clear g1
    first | (exfalso; revert g4; decide) | (simp at f1 f2 f3 f4 ⊢; done) | (simp at f1 f2 f3 f4 ⊢; omega)
  simp only [if_neg h9] at g1 g4 f1 f2 f3 f4 ⊢
  by_cases h11 : id = 11
  · simp only [if_pos h11] at g1 g4 f1 f2 f3 f4 ⊢
    subst h11
    clear g1
    first | (exfalso; revert g4; decide) | (simp at f1 f2 f3 f4 ⊢; done) | (simp at f1 f2 f3 f4 ⊢; omega)
  simp only [if_neg h11] at g1 g4 f1 f2 f3 f4 ⊢
  by_cases h17 : id = 17
  · simp only [if_pos h17] at g1 g4 f1 f2 f3 f4 ⊢
    subst h17
    clear g1
    first | (exfalso; revert g4; decide) | (simp at f1 f2 f3 f4 ⊢; done) | (simp at f1 f2 f3 f4 ⊢; omega)
  simp only [if_neg h17] at g1 g4 f1 f2 f3 f4 ⊢
  by_cases h18 : id = 18
  · simp only [if_pos h18] at g1 g4 f1 f2 f3 f4 ⊢
    subst h18
    clear g1
    first | (exfalso; revert g4; decide) | (simp at f1 f2 f3 f4 ⊢; done) | (simp at f1 f2 f3 f4 ⊢; omega)
  simp only [if_neg h18] at g1 g4 f1 f2 f3 f4 ⊢
  by_cases h19 : id = 19
  · simp only [if_pos h19] at g1 g4 f1 f2 f3 f4 ⊢
    subst h19
    clear g1
    first | (exfalso; revert g4; decide) | (simp at f1 f2 f3 f4 ⊢; done) | (simp at f1 f2 f3 f4 ⊢; omega)
  simp only [if_neg h19] at g1 g4 f1 f2 f3 f4 ⊢
  by_cases h21 : id = 21
  · simp only [if_pos h21] at g1 g4 f1 f2 f3 f4 ⊢
    subst h21
    clear g1
    first | (exfalso; revert g4; decide) | (simp at f1 f2 f3 f4 ⊢; done) | (simp at f1 f2 f3 f4 ⊢; omega)
  simp only [if_neg h21] at g1 g4 f1 f2 f3 f4 ⊢
  by_cases h22 : id = 22
  · simp only [if_pos h22] at g1 g4 f1 f2 f3 f4 ⊢
    subst h22
    clear g1
    first | (exfalso; revert g4; decide) | (simp at f1 f2 f3 f4 ⊢; done) | (simp at f1 f2 f3 f4 ⊢; omega)
  simp only [if_neg h22] at g1 g4 f1 f2 f3 f4 ⊢
  by_cases h23 : id = 23
  · simp only [if_pos h23] at g1 g4 f1 f2 f3 f4 ⊢
    subst h23
    clear g1
    first | (exfalso; revert g4; decide) | (simp at f1 f2 f3 f4 ⊢; done) | (simp at f1 f2 f3 f4 ⊢; omega)
  simp only [if_neg h23] at g1 g4 f1 f2 f3 f4 ⊢
  by_cases h25 : id = 25
  · simp only [if_pos h25] at g1 g4 f1 f2 f3 f4 ⊢
    subst h25
    clear g1
    first | (exfalso; revert g4; decide) | (simp at f1 f2 f3 f4 ⊢; done) | (simp at f1 f2 f3 f4 ⊢; omega)
  simp only [if_neg h25] at g1 g4 f1 f2 f3 f4 ⊢
  by_cases h24 : id = 24
  · simp only [if_pos h24] at g1 g4 f1 f2 f3 f4 ⊢
    subst h24
    clear g1
    first | (exfalso; revert g4; decide) | (simp at f1 f2 f3 f4 ⊢; done) | (simp at f1 f2 f3 f4 ⊢; omega)
  simp only [if_neg h24] at g1 g4 f1 f2 f3 f4 ⊢
  by_cases h26 : id = 26
  · simp only [if_pos h26] at g1 g4 f1 f2 f3 f4 ⊢
    subst h26
    clear g1
    first | (exfalso; revert g4; decide) | (simp at f1 f2 f3 f4 ⊢; done) | (simp at f1 f2 f3 f4 ⊢; omega)
  simp only [if_neg h26] at g1 g4 f1 f2 f3 f4 ⊢
  by_cases h28 : id = 28
  · simp only [if_pos h28] at g1 g4 f1 f2 f3 f4 ⊢
    subst h28
    clear g1
    first | (exfalso; revert g4; decide) | (simp at f1 f2 f3 f4 ⊢; done) | (simp at f1 f2 f3 f4 ⊢; omega)
  simp only [if_neg h28] at g1 g4 f1 f2 f3 f4 ⊢
  by_cases h31 : id = 31
  · simp only [if_pos h31] at g1 g4 f1 f2 f3 f4 ⊢
    subst h31
    clear g1
    first | (exfalso; revert g4; decide) | (simp at f1 f2 f3 f4 ⊢; done) | (simp at f1 f2 f3 f4 ⊢; omega)
  simp only [if_neg h31] at g1 g4 f1 f2 f3 f4 ⊢
  by_cases h33 : id = 33
  · simp only [if_pos h33] at g1 g4 f1 f2 f3 f4 ⊢
    subst h33
    clear g1
    first | (exfalso; revert g4; decide) | (simp at f1 f2 f3 f4 ⊢; done) | (simp at f1 f2 f3 f4 ⊢; omega)
  simp only [if_neg h33] at g1 g4 f1 f2 f3 f4 ⊢
  by_cases h34 : id = 34
  · simp only [if_pos h34] at g1 g4 f1 f2 f3 f4 ⊢
    subst h34
    clear g1
    first | (exfalso; revert g4; decide) | (simp at f1 f2 f3 f4 ⊢; done) | (simp at f1 f2 f3 f4 ⊢; omega)
  simp only [if_neg h34] at g1 g4 f1 f2 f3 f4 ⊢
  by_cases h35 : id = 35
  · simp only [if_pos h35] at g1 g4 f1 f2 f3 f4 ⊢
    subst h35
    clear g1
    first | (exfalso; revert g4; decide) | (simp at f1 f2 f3 f4 ⊢; done) | (simp at f1 f2 f3 f4 ⊢; omega)
  simp only [if_neg h35] at g1 g4 f1 f2 f3 f4 ⊢
  by_cases h36 : id = 36
  · simp only [if_pos h36] at g1 g4 f1 f2 f3 f4 ⊢
    subst h36
    clear g1
    first | (exfalso; revert g4; decide) | (simp at f1 f2 f3 f4 ⊢; done) | (simp at f1 f2 f3 f4 ⊢; omega)
  simp only [if_neg h36] at g1 g4 f1 f2 f3 f4 ⊢
  by_cases h37 : id = 37
  · simp only [if_pos h37] at g1 g4 f1 f2 f3 f4 ⊢
    subst h37
    clear g1
    first | (exfalso; revert g4; decide) | (simp at f1 f2 f3 f4 ⊢; done) | (simp at f1 f2 f3 f4 ⊢; omega)
  simp only [if_neg h37] at g1 g4 f1 f2 f3 f4 ⊢
  by_cases h40 : id = 40
  · simp only [if_pos h40] at g1 g4 f1 f2 f3 f4 ⊢
    subst h40
    clear g1
    first | (exfalso; revert g4; decide) | (simp at f1 f2 f3 f4 ⊢; done) | (simp at f1 f2 f3 f4 ⊢; omega)
  simp only [if_neg h40] at g1 g4 f1 f2 f3 f4 ⊢
  by_cases h41 : id = 41
  · simp only [if_pos h41] at g1 g4 f1 f2 f3 f4 ⊢
    subst h41
    clear g1
    first | (exfalso; revert g4; decide) | (simp at f1 f2 f3 f4 ⊢; done) | (simp at f1 f2 f3 f4 ⊢; omega)
  simp only [if_neg h41] at g1 g4 f1 f2 f3 f4 ⊢
  by_cases h42 : id = 42
  · simp only [if_pos h42] at g1 g4 f1 f2 f3 f4 ⊢
    subst h42
    clear g1
    first | (exfalso; revert g4; decide) | (simp at f1 f2 f3 f4 ⊢; done) | (simp at f1 f2 f3 f4 ⊢; omega)
  simp only [if_neg h42] at g1 g4 f1 f2 f3 f4 ⊢
  by_cases h38 : id = 38
  · simp only [if_pos h38] at g1 g4 f1 f2 f3 f4 ⊢
    subst h38
    clear g1
    first | (exfalso; revert g4; decide) | (simp at f1 f2 f3 f4 ⊢; done) | (simp at f1 f2 f3 f4 ⊢; omega)
  simp only [if_neg h38] at g1 g4 f1 f2 f3 f4 ⊢
  by_cases h39 : id = 39
  · simp only [if_pos h39] at g1 g4 f1 f2 f3 f4 ⊢
    subst h39
    clear g1
    first | (exfalso; revert g4; decide) | (simp at f1 f2 f3 f4 ⊢; done) | (simp at f1 f2 f3 f4 ⊢; omega)
  simp only [if_neg h39] at g1 g4 f1 f2 f3 f4 ⊢
  exact absurd g1 (by decide)
end Go.Proofs.Ythioageiebchlaa
namespace Go.Proofs.Ythioageiebchlaa

def lettersB (s : List UInt8) : List UInt8 := s.map fun c => b8 (97 + c.toNat % 26)
theorem lettersB_len (s : List UInt8) : (lettersB s).length = s.length := by simp [lettersB]
theorem good_letters (s : List UInt8) : good.goodN s.length (lettersB s) = true := by
  induction s with
  | nil => rfl
  | cons c s ih =>
    have h1 : (b8 (97 + c.toNat % 26)).toNat = 97 + c.toNat % 26 := by rw [b8_toNat]; omega
    have hs : sign (lettersB (c :: s)) = (97 + c.toNat % 26, 1) := by
      have e : lettersB (c :: s) = b8 (97 + c.toNat % 26) :: lettersB s := rfl
      rw [e, sign, if_neg (by simp), if_pos (by rw [List.getD_cons_zero, h1]; omega), List.getD_cons_zero, h1]
    rw [List.length_cons, good.goodN, hs]
    dsimp only
    have e : (lettersB (c :: s)).drop 1 = lettersB s := rfl
    rw [e, ih]
    have h2 : (97 + c.toNat % 26 == 0) = false := by simp
    rw [h2]; simp
theorem good_lets (s : List UInt8) (h : s.length ≤ 65535) : good (lettersB s) = true := by
  rw [good_small _ (by rw [lettersB_len]; exact h), lettersB_len, good_letters]
theorem str_lets (s t : List UInt8) (h : s.length ≤ 65535) : Rd.str ⟨dataB (lettersB s) ++ t, 0⟩ = (lettersB s, ⟨t, 0⟩) := by
  have e : (lettersB s).take 65535 = lettersB s := List.take_of_length_le (by rw [lettersB_len]; exact h)
  rw [Rd.str, data_back, e]
  dsimp only
  rw [if_pos (good_lets s h)]
theorem pair_lets (s u t : List UInt8) (h : s.length ≤ 65535) (hu : u.length ≤ 65535) : Rd.pair ⟨dataB (lettersB s) ++ (dataB (lettersB u) ++ t), 0⟩ = ((lettersB s, lettersB u), ⟨t, 0⟩) := by
  rw [Rd.pair, str_lets s _ h]
  dsimp only
  rw [str_lets u _ hu, if_pos rfl]
/-- A property as 'right' makes it. -/
def rightN (k : Int) (n : Nat) : Nat := if k = 1 then n % 2 else if k = 2 then 1 + n % 65535 else if k = 3 ∨ k = 4 then 1 + n % 100000000 else 0
def rightS (k : Int) (s : List UInt8) : List UInt8 := if k = 1 ∨ k = 2 ∨ k = 3 ∨ k = 4 then [] else if k = 6 then s else lettersB s
def rightT (k : Int) (t : List UInt8) : List UInt8 := if k = 7 then lettersB t else []
def rightP (x : Pr) : Pr := ⟨x.id, rightN (ruleOf x.id).kind x.n, rightS (ruleOf x.id).kind x.s, rightT (ruleOf x.id).kind x.t⟩
/-- What is said so is taken so. -/
def Say (x : Pr) : Prop := ∀ t, valR (ruleOf x.id) x.id ⟨sayB (ruleOf x.id).kind x ++ t, 0⟩ = (x, ⟨t, 0⟩)
theorem bad_right (id : Int) (n : Nat) (h1 : 1 ≤ (ruleOf id).kind) (h4 : (ruleOf id).kind ≤ 4) : fits (ruleOf id).kind (rightN (ruleOf id).kind n) ∧ badN (ruleOf id) (rightN (ruleOf id).kind n) = false := by
  have hf : fits (ruleOf id).kind (rightN (ruleOf id).kind n) := by
    unfold rightN
    refine ⟨fun h => ?_, fun h => ?_, fun h => ?_, fun h => ?_⟩
    · rw [if_pos h]; omega
    · rw [if_neg (by omega), if_pos h]; omega
    · rw [if_neg (by omega), if_neg (by omega), if_pos (Or.inl h)]; omega
    · rw [if_neg (by omega), if_neg (by omega), if_pos (Or.inr h)]; omega
  refine ⟨hf, ?_⟩
  rw [bad_num id _ h1 h4 hf]
  have hk : (ruleOf id).kind = 1 ∨ (ruleOf id).kind = 2 ∨ (ruleOf id).kind = 3 ∨ (ruleOf id).kind = 4 := by omega
  have h11 : (ruleOf id).kind = 1 → id ≠ 11 ∧ id ≠ 33 ∧ id ≠ 39 := by
    intro hk
    refine ⟨?_, ?_, ?_⟩ <;> (rintro rfl; revert hk; decide)
  unfold rightN
  rcases hk with hk | hk | hk | hk
  · obtain ⟨i1, i2, i3⟩ := h11 hk
    rw [if_pos hk]
    have : ¬ (1 < n % 2) := by omega
    simp [this, i1, i2, i3]
  · rw [if_neg (by omega), if_pos hk]
    simp [hk]
  · rw [if_neg (by omega), if_neg (by omega), if_pos (Or.inl hk)]
    simp [hk]
  · rw [if_neg (by omega), if_neg (by omega), if_pos (Or.inr hk)]
    simp [hk]
theorem say_right (x : Pr) (h1 : 1 ≤ (ruleOf x.id).kind) (hs : x.s.length ≤ 65535) (ht : x.t.length ≤ 65535) : Say (rightP x) := by
  intro t
  obtain ⟨_, _, h7, _⟩ := ruleOf_cases x.id
  by_cases h4 : (ruleOf x.id).kind ≤ 4
  · obtain ⟨hf, hb⟩ := bad_right x.id x.n h1 h4
    have e : rightP x = ⟨x.id, rightN (ruleOf x.id).kind x.n, [], []⟩ := by
      unfold rightP rightS rightT
      rw [if_pos (by omega), if_neg (by omega)]
    rw [e]
    have := val_num x.id _ t h1 h4 hf
    dsimp only at this ⊢
    rw [this, chkR, if_neg (by rintro ⟨_, h⟩; exact absurd hb (by simp only [badN]; simp [h]))]
  · have hk : (ruleOf x.id).kind = 5 ∨ (ruleOf x.id).kind = 6 ∨ (ruleOf x.id).kind = 7 := by omega
    unfold rightP valR sayB
    dsimp only
    rcases hk with hk | hk | hk
    · simp only [hk, rightN, rightS, rightT]
      simp [str_lets x.s t hs]
    · simp only [hk, rightN, rightS, rightT]
      simp [data_back]
      exact List.take_of_length_le hs
    · simp only [hk, rightN, rightS, rightT]
      simp [pair_lets x.s x.t t hs ht]
/-- Properties that may be there, one behind the other. -/
inductive OkL (kind : Int) (isWill : Bool) : List Pr → Prop where
  | nil : OkL kind isWill []
  | snoc (l : List Pr) (x : Pr) : OkL kind isWill l → Say x → 1 ≤ (ruleOf x.id).kind → mayB x.id kind isWill = true → ¬ ((getR l x.id).2 = true ∧ manyB x.id kind isWill = false) → OkL kind isWill (l ++ [x])
theorem oneB_pos (x : Pr) (h : (ruleOf x.id).kind ≠ 0) : 0 < (oneB x).length := by
  obtain ⟨i1, i2⟩ := kind_id x.id h
  have := var_ne x.id.toNat (by omega) []
  rw [List.append_nil] at this
  have := List.length_pos_iff.2 this
  rw [oneB, List.length_append]; omega
theorem ok_len {kind : Int} {isWill : Bool} {l : List Pr} (h : OkL kind isWill l) : l.length ≤ (putsB l).length := by
  induction h with
  | nil => simp
  | snoc l x hl hs h1 hm hd ih =>
    have := oneB_pos x (by omega)
    rw [putsB_snoc, if_pos (by omega), List.length_append, List.length_append]
    simp; omega
theorem ok_go {kind : Int} {isWill : Bool} {l : List Pr} (h : OkL kind isWill l) : ∀ (m : Nat) (t : List UInt8), l.length ≤ m → propsGo kind isWill m ⟨putsB l ++ t, 0⟩ [] = propsGo kind isWill (m - l.length) ⟨t, 0⟩ l := by
  induction h with
  | nil => intro m t _; rfl
  | snoc l x hl hs h1 hm hd ih =>
    intro m t hlm
    obtain ⟨i1, i2⟩ := kind_id x.id (by omega)
    rw [List.length_append, List.length_singleton] at hlm ⊢
    rw [putsB_snoc, if_pos (by omega), List.append_assoc, ih m (oneB x ++ t) (by omega)]
    obtain ⟨k, hk⟩ : ∃ k, m - l.length = k + 1 := ⟨m - l.length - 1, by omega⟩
    rw [hk, props_step kind isWill x k t l i1 i2 hm hd, hs t, show m - (l.length + 1) = k from by omega]
theorem back_ok {kind : Int} {isWill : Bool} {l : List Pr} (h : OkL kind isWill l) (hl : (putsB l).length ≤ 268435455) (t : List UInt8) : takeP ⟨var (putsB l).length ++ (putsB l ++ t), 0⟩ kind isWill = (l, ⟨t, 0⟩) := by
  have h1 := ok_go h (putsB l).length [] (ok_len h)
  rw [List.append_nil, props_end] at h1
  rw [takeP_of kind isWill _ t hl, h1]
  simp
/-- The properties that 'right' makes. -/
def keepB (kind : Int) (isWill : Bool) (l : List Pr) (x : Pr) : Bool := mayB x.id kind isWill && !((getR l x.id).2 && decide (x.id ≠ 38))
def rightGo (kind : Int) (isWill : Bool) (l : List Pr) : List Pr := l.foldl (fun a x => if keepB kind isWill a x = true then a ++ [rightP x] else a) []
theorem rightGo_snoc (kind : Int) (isWill : Bool) (l : List Pr) (k : Nat) (h : k < l.length) : rightGo kind isWill (l.take (k + 1)) = if keepB kind isWill (rightGo kind isWill (l.take k)) l[k] = true then rightGo kind isWill (l.take k) ++ [rightP l[k]] else rightGo kind isWill (l.take k) := by
  rw [List.take_succ_eq_append_getElem h, rightGo, List.foldl_append]; rfl
theorem may_kind (id kind : Int) (isWill : Bool) (h : mayB id kind isWill = true) : 1 ≤ (ruleOf id).kind := by
  unfold mayB at h
  unfold ruleOf at h ⊢
  by_cases h1 : id = 1
  · simp only [if_pos h1]; decide
  simp only [if_neg h1] at h ⊢
  by_cases h2 : id = 2
  · simp only [if_pos h2]; decide
  simp only [if_neg h2] at h ⊢
  by_cases h3 : id = 3
  · simp only [if_pos h3]; decide
  simp only [if_neg h3] at h ⊢
  by_cases h8 : id = 8
  · simp only [if_pos h8]; decide
  simp only [if_neg h8] at h ⊢
  by_cases h9 : id = 9
  · simp only [if_pos h9]; decide
  simp only [if_neg h9] at h ⊢
  by_cases h11 : id = 11
  · simp only [if_pos h11]; decide
  simp only [if_neg h11] at h ⊢
  by_cases h17 : id = 17
  · simp only [if_pos h17]; decide
  simp only [if_neg h17] at h ⊢
  by_cases h18 : id = 18
  · simp only [if_pos h18]; decide
  simp only [if_neg h18] at h ⊢
  by_cases h19 : id = 19
  · simp only [if_pos h19]; decide
  simp only [if_neg h19] at h ⊢
  by_cases h21 : id = 21
  · simp only [if_pos h21]; decide
  simp only [if_neg h21] at h ⊢
  by_cases h22 : id = 22
  · simp only [if_pos h22]; decide
  simp only [if_neg h22] at h ⊢
  by_cases h23 : id = 23
  · simp only [if_pos h23]; decide
  simp only [if_neg h23] at h ⊢
  by_cases h25 : id = 25
  · simp only [if_pos h25]; decide
  simp only [if_neg h25] at h ⊢
  by_cases h24 : id = 24
  · simp only [if_pos h24]; decide
  simp only [if_neg h24] at h ⊢
  by_cases h26 : id = 26
  · simp only [if_pos h26]; decide
  simp only [if_neg h26] at h ⊢
  by_cases h28 : id = 28
  · simp only [if_pos h28]; decide
  simp only [if_neg h28] at h ⊢
  by_cases h31 : id = 31
  · simp only [if_pos h31]; decide
  simp only [if_neg h31] at h ⊢
  by_cases h33 : id = 33
  · simp only [if_pos h33]; decide
  simp only [if_neg h33] at h ⊢
  by_cases h34 : id = 34
  · simp only [if_pos h34]; decide
  simp only [if_neg h34] at h ⊢
  by_cases h35 : id = 35
  · simp only [if_pos h35]; decide
  simp only [if_neg h35] at h ⊢
  by_cases h36 : id = 36
  · simp only [if_pos h36]; decide
  simp only [if_neg h36] at h ⊢
  by_cases h37 : id = 37
  · simp only [if_pos h37]; decide
  simp only [if_neg h37] at h ⊢
  by_cases h40 : id = 40
  · simp only [if_pos h40]; decide
  simp only [if_neg h40] at h ⊢
  by_cases h41 : id = 41
  · simp only [if_pos h41]; decide
  simp only [if_neg h41] at h ⊢
  by_cases h42 : id = 42
  · simp only [if_pos h42]; decide
  simp only [if_neg h42] at h ⊢
  by_cases h38 : id = 38
  · simp only [if_pos h38]; decide
  simp only [if_neg h38] at h ⊢
  by_cases h39 : id = 39
  · simp only [if_pos h39]; decide
  simp only [if_neg h39] at h ⊢
  rw [zero_and] at h
  exact absurd h (by decide)
theorem rightGo_len (kind : Int) (isWill : Bool) (l : List Pr) : (rightGo kind isWill l).length ≤ l.length := by
  have h : ∀ (l a : List Pr), (l.foldl (fun a x => if keepB kind isWill a x = true then a ++ [rightP x] else a) a).length ≤ a.length + l.length := by
    intro l
    induction l with
    | nil => intro a; simp
    | cons x l ih =>
      intro a
      have := ih (if keepB kind isWill a x = true then a ++ [rightP x] else a)
      rw [List.foldl_cons, List.length_cons]
      split at this <;> rename_i hk
      · rw [if_pos hk]; rw [List.length_append, List.length_singleton] at this; omega
      · rw [if_neg hk]; omega
  have := h l []
  simpa [rightGo] using this
theorem rightGo_mem (kind : Int) (isWill : Bool) (l : List Pr) : ∀ x ∈ rightGo kind isWill l, ∃ y ∈ l, x = rightP y := by
  have h : ∀ (l a : List Pr), ∀ x ∈ l.foldl (fun a x => if keepB kind isWill a x = true then a ++ [rightP x] else a) a, x ∈ a ∨ ∃ y ∈ l, x = rightP y := by
    intro l
    induction l with
    | nil => intro a x hx; exact Or.inl hx
    | cons z l ih =>
      intro a x hx
      rw [List.foldl_cons] at hx
      rcases ih _ x hx with hx | ⟨y, hy, e⟩
      · split at hx
        · rcases List.mem_append.1 hx with hx | hx
          · exact Or.inl hx
          · simp at hx; exact Or.inr ⟨z, by simp, hx⟩
        · exact Or.inl hx
      · exact Or.inr ⟨y, by simp [hy], e⟩
  intro x hx
  rcases h l [] x hx with hx | hx
  · simp at hx
  · exact hx
theorem rightP_small (x : Pr) (hs : x.s.length ≤ 20) (ht : x.t.length ≤ 20) : (rightP x).n < 4294967296 ∧ (rightP x).s.length ≤ 20 ∧ (rightP x).t.length ≤ 20 := by
  refine ⟨?_, ?_, ?_⟩
  · show rightN _ _ < _
    unfold rightN
    repeat' split
    all_goals omega
  · show (rightS _ _).length ≤ _
    unfold rightS
    split
    · simp
    · split
      · exact hs
      · rw [lettersB_len]; exact hs
  · show (rightT _ _).length ≤ _
    unfold rightT
    split
    · rw [lettersB_len]; exact ht
    · simp
theorem oneB_small (x : Pr) (hs : x.s.length ≤ 20) (ht : x.t.length ≤ 20) : (oneB x).length ≤ 100 := by
  have v1 := varB_len' x.id.toNat
  have v2 := varB_len' x.n
  have d : ∀ s : List UInt8, s.length ≤ 20 → (dataB s).length ≤ 22 := fun s h => by
    have := List.length_take_le' 65535 s
    simp only [dataB, two, List.length_append, List.length_cons, List.length_nil]; omega
  have d1 := d x.s hs
  have d2 := d x.t ht
  have hs : (sayB (ruleOf x.id).kind x).length ≤ 50 := by
    unfold sayB
    split
    · simp
    split
    · simp [two]
    split
    · simp [four, two]
    split
    · omega
    split
    · omega
    split
    · rw [List.length_append]; omega
    · simp
  rw [oneB, List.length_append]; omega
theorem putsB_small (l : List Pr) (h : ∀ x ∈ l, x.s.length ≤ 20 ∧ x.t.length ≤ 20) : (putsB l).length ≤ 100 * l.length := by
  induction l with
  | nil => simp [putsB]
  | cons x l ih =>
    have h1 := oneB_small x (h x (by simp)).1 (h x (by simp)).2
    have h2 := ih (fun y hy => h y (by simp [hy]))
    rw [putsB] at h2 ⊢
    rw [List.flatMap_cons, List.length_append, List.length_cons]
    split
    · omega
    · rw [List.length_nil]; omega
theorem right_ok (kind : Int) (isWill : Bool) (l : List Pr) (h : ∀ x ∈ l, x.s.length ≤ 65535 ∧ x.t.length ≤ 65535) : ∀ k, k ≤ l.length → OkL kind isWill (rightGo kind isWill (l.take k)) ∧ (rightGo kind isWill (l.take k)).length ≤ k
  | 0, _ => ⟨OkL.nil, Nat.zero_le _⟩
  | k + 1, hk => by
    obtain ⟨ih, ihl⟩ := right_ok kind isWill l h k (by omega)
    rw [rightGo_snoc kind isWill l k (by omega)]
    by_cases hb : keepB kind isWill (rightGo kind isWill (l.take k)) l[k] = true
    · rw [if_pos hb]
      refine ⟨?_, by simp; omega⟩
      simp only [keepB, Bool.and_eq_true, Bool.not_eq_true', Bool.and_eq_false_iff, decide_eq_false_iff_not, Decidable.not_not] at hb
      obtain ⟨hm, hd⟩ := hb
      have h1 := may_kind _ _ _ hm
      obtain ⟨hs, ht⟩ := h l[k] (List.getElem_mem _)
      refine OkL.snoc _ _ ih (say_right _ h1 hs ht) h1 hm ?_
      rintro ⟨a, b⟩
      rcases hd with hd | hd
      · rw [show (rightP l[k]).id = l[k].id from rfl, hd] at a; exact absurd a (by decide)
      · rw [show (rightP l[k]).id = l[k].id from rfl, (may_eq _ kind isWill).2 hm] at b
        simp [hd] at b
    · rw [if_neg hb]
      exact ⟨ih, by omega⟩
/-- What may not be there, behind properties that may. -/
theorem else_form {kind : Int} {isWill : Bool} {l : List Pr} (h : OkL kind isWill l) (p : Pr) (hk : (ruleOf p.id).kind ≠ 0) (hm : mayB p.id kind isWill = false) (hl : (putsB (l ++ [p])).length ≤ 268435455) (t : List UInt8) :
    takeP ⟨var (putsB (l ++ [p])).length ++ (putsB (l ++ [p]) ++ t), 0⟩ kind isWill = ([], ⟨t, 2⟩) := by
  obtain ⟨i1, i2⟩ := kind_id p.id hk
  obtain ⟨_, _, _, h0, _⟩ := ruleOf_cases p.id
  have hp := oneB_pos p hk
  have hL := ok_len h
  have e : putsB (l ++ [p]) = putsB l ++ oneB p := by rw [putsB_snoc, if_pos (by omega)]
  have hB : (putsB (l ++ [p])).length = (putsB l).length + (oneB p).length := by rw [e, List.length_append]
  have h1 := ok_go h (putsB (l ++ [p])).length (oneB p) (by omega)
  obtain ⟨k, hk'⟩ : ∃ k, (putsB (l ++ [p])).length - l.length = k + 1 := ⟨(putsB (l ++ [p])).length - l.length - 1, by omega⟩
  have hid : ((p.id.toNat : Nat) : Int) = p.id := Int.toNat_of_nonneg (by omega)
  have hv := var_back p.id.toNat (sayB (ruleOf p.id).kind p) (by omega)
  have hne := var_ne p.id.toNat (by omega) (sayB (ruleOf p.id).kind p)
  rw [← e, hk', propsGo, oneB, hv, if_neg (by simp [hne])] at h1
  dsimp only at h1
  rw [hid, if_neg (by simp), if_pos hm] at h1
  rw [takeP_of kind isWill _ t hl, h1]
  simp
theorem else_twice {kind : Int} {isWill : Bool} {l : List Pr} (h : OkL kind isWill l) (p : Pr) (hm : mayB p.id kind isWill = true) (ht : (getR l p.id).2 = true) (h38 : p.id ≠ 38) (h11 : p.id ≠ 11) (hl : (putsB (l ++ [p])).length ≤ 268435455) (t : List UInt8) :
    takeP ⟨var (putsB (l ++ [p])).length ++ (putsB (l ++ [p]) ++ t), 0⟩ kind isWill = ([], ⟨t, 3⟩) := by
  have hk1 := may_kind _ _ _ hm
  have hk : (ruleOf p.id).kind ≠ 0 := by omega
  obtain ⟨i1, i2⟩ := kind_id p.id hk
  have hp := oneB_pos p hk
  have hL := ok_len h
  have hmany : manyB p.id kind isWill = false := by rw [(may_eq _ kind isWill).2 hm]; simp [h38, h11]
  have e : putsB (l ++ [p]) = putsB l ++ oneB p := by rw [putsB_snoc, if_pos (by omega)]
  have hB : (putsB (l ++ [p])).length = (putsB l).length + (oneB p).length := by rw [e, List.length_append]
  have h1 := ok_go h (putsB (l ++ [p])).length (oneB p) (by omega)
  obtain ⟨k, hk'⟩ : ∃ k, (putsB (l ++ [p])).length - l.length = k + 1 := ⟨(putsB (l ++ [p])).length - l.length - 1, by omega⟩
  have hid : ((p.id.toNat : Nat) : Int) = p.id := Int.toNat_of_nonneg (by omega)
  have hv := var_back p.id.toNat (sayB (ruleOf p.id).kind p) (by omega)
  have hne := var_ne p.id.toNat (by omega) (sayB (ruleOf p.id).kind p)
  rw [← e, hk', propsGo, oneB, hv, if_neg (by simp [hne])] at h1
  dsimp only at h1
  rw [hid, if_neg (by simp), if_neg (by simp [hm]), if_pos ⟨ht, hmany⟩] at h1
  rw [takeP_of kind isWill _ t hl, h1]
  simp
end Go.Proofs.Ythioageiebchlaa
namespace Go.Proofs.Ythioageiebchlaa

theorem raw_one (s : List UInt8) (n : Nat) (h : (Rd.raw ⟨s, 0⟩ n).2.e = 0) : s = (Rd.raw ⟨s, 0⟩ n).1 ++ (Rd.raw ⟨s, 0⟩ n).2.s ∧ (Rd.raw ⟨s, 0⟩ n).1.length = n := by
  unfold Rd.raw at h ⊢
  rw [if_neg (by simp)] at h ⊢
  by_cases hn : n > s.length
  · rw [if_pos hn] at h; exact absurd h (by simp)
  · rw [if_neg hn]
    refine ⟨(List.take_append_drop n s).symm, ?_⟩
    simp; omega
theorem raw_e0 (q : Rd) (n : Nat) (h : (q.raw n).2.e = 0) : q.e = 0 := by
  by_cases he : q.e = 0
  · exact he
  · rw [Rd.raw_bad q n he] at h; exact h
theorem rd_eta (q : Rd) (h : q.e = 0) : q = ⟨q.s, 0⟩ := by cases q; subst h; rfl
theorem num_e0 (q : Rd) (n : Nat) (h : (q.num n).2.e = 0) : q.e = 0 := raw_e0 q n h
theorem var_e0 (q : Rd) (h : q.var.2.e = 0) : q.e = 0 := by
  by_cases he : q.e = 0
  · exact he
  · rw [var_bad q he] at h; exact h
theorem num1_one (s : List UInt8) (h : (Rd.num ⟨s, 0⟩ 1).2.e = 0) : s = [b8 (Rd.num ⟨s, 0⟩ 1).1] ++ (Rd.num ⟨s, 0⟩ 1).2.s ∧ (Rd.num ⟨s, 0⟩ 1).1 < 256 := by
  obtain ⟨h1, h2⟩ := raw_one s 1 h
  have hl := Rd.num_lt ⟨s, 0⟩ 1
  refine ⟨?_, by omega⟩
  unfold Rd.num
  dsimp only
  generalize Rd.raw ⟨s, 0⟩ 1 = q at *
  obtain ⟨l, q⟩ := q
  match l, h2 with
  | [a], _ =>
    have : b8 (beN [a]) = a := by rw [show beN [a] = a.toNat from by simp [beN], b8_of]
    dsimp only at h1 ⊢
    rw [this]; exact h1
theorem num2_one (s : List UInt8) (h : (Rd.num ⟨s, 0⟩ 2).2.e = 0) : s = two (Rd.num ⟨s, 0⟩ 2).1 ++ (Rd.num ⟨s, 0⟩ 2).2.s ∧ (Rd.num ⟨s, 0⟩ 2).1 < 65536 := by
  obtain ⟨h1, h2⟩ := raw_one s 2 h
  have hl := Rd.num_lt ⟨s, 0⟩ 2
  refine ⟨?_, by omega⟩
  unfold Rd.num
  dsimp only
  generalize Rd.raw ⟨s, 0⟩ 2 = q at *
  obtain ⟨l, q⟩ := q
  match l, h2 with
  | [a, b], _ =>
    have ha := a.toNat_lt
    have hb := b.toNat_lt
    have : two (beN [a, b]) = [a, b] := by
      rw [show beN [a, b] = a.toNat * 256 + b.toNat from by simp [beN]]
      unfold two
      rw [b8_eq (show (a.toNat * 256 + b.toNat) / 256 % 256 = a.toNat % 256 from by omega), b8_eq (show (a.toNat * 256 + b.toNat) % 256 = b.toNat % 256 from by omega), b8_of, b8_of]
    dsimp only at h1 ⊢
    rw [this]; exact h1
theorem num4_one (s : List UInt8) (h : (Rd.num ⟨s, 0⟩ 4).2.e = 0) : s = four (Rd.num ⟨s, 0⟩ 4).1 ++ (Rd.num ⟨s, 0⟩ 4).2.s ∧ (Rd.num ⟨s, 0⟩ 4).1 < 4294967296 := by
  obtain ⟨h1, h2⟩ := raw_one s 4 h
  have hl := Rd.num_lt ⟨s, 0⟩ 4
  refine ⟨?_, by omega⟩
  unfold Rd.num
  dsimp only
  generalize Rd.raw ⟨s, 0⟩ 4 = q at *
  obtain ⟨l, q⟩ := q
  match l, h2 with
  | [a, b, c, d], _ =>
    have ha := a.toNat_lt
    have hb := b.toNat_lt
    have hc := c.toNat_lt
    have hd := d.toNat_lt
    have : four (beN [a, b, c, d]) = [a, b, c, d] := by
      rw [show beN [a, b, c, d] = ((a.toNat * 256 + b.toNat) * 256 + c.toNat) * 256 + d.toNat from by simp [beN]]
      unfold four two
      rw [b8_eq (show (((a.toNat * 256 + b.toNat) * 256 + c.toNat) * 256 + d.toNat) / 65536 / 256 % 256 = a.toNat % 256 from by omega), b8_eq (show (((a.toNat * 256 + b.toNat) * 256 + c.toNat) * 256 + d.toNat) / 65536 % 256 = b.toNat % 256 from by omega), b8_eq (show (((a.toNat * 256 + b.toNat) * 256 + c.toNat) * 256 + d.toNat) / 256 % 256 = c.toNat % 256 from by omega), b8_eq (show (((a.toNat * 256 + b.toNat) * 256 + c.toNat) * 256 + d.toNat) % 256 = d.toNat % 256 from by omega), b8_of, b8_of, b8_of, b8_of]
      rfl
    dsimp only at h1 ⊢
    rw [this]; exact h1
theorem data_one (s : List UInt8) (h : (Rd.data ⟨s, 0⟩).2.e = 0) : s = dataB (Rd.data ⟨s, 0⟩).1 ++ (Rd.data ⟨s, 0⟩).2.s ∧ (Rd.data ⟨s, 0⟩).1.length ≤ 65535 := by
  unfold Rd.data at h ⊢
  have h0 := raw_e0 _ _ h
  obtain ⟨h1, h2⟩ := num2_one s h0
  rw [rd_eta _ h0] at h ⊢
  obtain ⟨h3, h4⟩ := raw_one _ _ h
  refine ⟨?_, by omega⟩
  unfold dataB
  rw [List.take_of_length_le (by omega), h4, List.append_assoc, ← h3]
  exact h1
theorem data_e0 (q : Rd) (h : q.data.2.e = 0) : q.e = 0 := num_e0 q 2 (raw_e0 _ _ h)
theorem str_one (s : List UInt8) (h : (Rd.str ⟨s, 0⟩).2.e = 0) : s = dataB (Rd.str ⟨s, 0⟩).1 ++ (Rd.str ⟨s, 0⟩).2.s ∧ (Rd.str ⟨s, 0⟩).1.length ≤ 65535 := by
  unfold Rd.str at h ⊢
  by_cases hg : good (Rd.data ⟨s, 0⟩).1 = true
  · rw [if_pos hg] at h ⊢; exact data_one s h
  · rw [if_neg hg] at h
    exfalso
    dsimp only [Rd.fail] at h
    split at h
    · exact absurd h (by simp)
    · rename_i hx; exact hx h
theorem str_e0 (q : Rd) (h : q.str.2.e = 0) : q.e = 0 := by
  unfold Rd.str at h
  split at h
  · exact data_e0 q h
  · exfalso
    unfold Rd.fail at h
    split at h
    · exact absurd h (by simp)
    · rename_i hx; exact hx h
theorem pair_one (s : List UInt8) (h : (Rd.pair ⟨s, 0⟩).2.e = 0) : s = (dataB (Rd.pair ⟨s, 0⟩).1.1 ++ dataB (Rd.pair ⟨s, 0⟩).1.2) ++ (Rd.pair ⟨s, 0⟩).2.s := by
  unfold Rd.pair at h ⊢
  split at h
  · rename_i hx
    rw [if_pos hx]
    have h0 := str_e0 _ hx
    obtain ⟨h1, _⟩ := str_one s h0
    rw [rd_eta _ h0] at hx ⊢
    obtain ⟨h3, _⟩ := str_one _ hx
    dsimp only at h3 ⊢
    rw [List.append_assoc, ← h3]; exact h1
  · rename_i hx; exact absurd h hx
theorem chk_e0 (ru : Rule) (n : Nat) (q : Rd) (h : (chkR ru n q).e = 0) : chkR ru n q = q ∧ q.e = 0 := by
  unfold chkR at h ⊢
  split
  · rename_i hx; rw [if_pos hx] at h; exact absurd h (by simp)
  · rename_i hx; rw [if_neg hx] at h; exact ⟨rfl, h⟩
theorem val_one (id : Int) (s : List UInt8) (h1 : 1 ≤ (ruleOf id).kind) (h : (valR (ruleOf id) id ⟨s, 0⟩).2.e = 0) :
    s = sayB (ruleOf id).kind (valR (ruleOf id) id ⟨s, 0⟩).1 ++ (valR (ruleOf id) id ⟨s, 0⟩).2.s ∧ (valR (ruleOf id) id ⟨s, 0⟩).1.id = id := by
  obtain ⟨_, _, h7, _⟩ := ruleOf_cases id
  have hk : (ruleOf id).kind = 1 ∨ (ruleOf id).kind = 2 ∨ (ruleOf id).kind = 3 ∨ (ruleOf id).kind = 4 ∨ (ruleOf id).kind = 5 ∨ (ruleOf id).kind = 6 ∨ (ruleOf id).kind = 7 := by omega
  unfold valR at h ⊢
  unfold sayB
  rcases hk with hk | hk | hk | hk | hk | hk | hk
  · simp only [hk, if_true] at h ⊢
    obtain ⟨e, h⟩ := chk_e0 _ _ _ h
    rw [e]; exact ⟨(num1_one s h).1, trivial⟩
  · simp [hk] at h ⊢
    obtain ⟨e, h⟩ := chk_e0 _ _ _ h
    rw [e]; exact (num2_one s h).1
  · simp [hk] at h ⊢
    obtain ⟨e, h⟩ := chk_e0 _ _ _ h
    rw [e]; exact (num4_one s h).1
  · simp [hk] at h ⊢
    obtain ⟨e, h⟩ := chk_e0 _ _ _ h
    rw [e]; exact (var_one s _ _ rfl h).1
  · simp [hk] at h ⊢
    exact (str_one s h).1
  · simp [hk] at h ⊢
    exact (data_one s h).1
  · simp [hk] at h ⊢
    have := pair_one s h
    rw [List.append_assoc] at this; exact this
theorem props_one (kind : Int) (isWill : Bool) : ∀ (m : Nat) (s : List UInt8) (l : List Pr), s.length ≤ m → (propsGo kind isWill m ⟨s, 0⟩ l).2.e = 0 → ∃ l2, (propsGo kind isWill m ⟨s, 0⟩ l).1 = l ++ l2 ∧ s = putsB l2
  | 0, s, l, hs, _ => ⟨[], by rw [List.append_nil]; rfl, by rw [List.eq_nil_of_length_eq_zero (by omega : s.length = 0)]; rfl⟩
  | m + 1, s, l, hs, h => by
    rw [propsGo] at h ⊢
    by_cases h0 : s = []
    · rw [if_pos (Or.inl h0)]
      exact ⟨[], by simp, by rw [h0]; rfl⟩
    rw [if_neg (by simp [h0])] at h ⊢
    by_cases h1 : (Rd.var ⟨s, 0⟩).2.e = 0
    rotate_left
    · rw [if_pos h1] at h; exact absurd h h1
    rw [if_neg (by simpa using h1)] at h ⊢
    obtain ⟨hv, hv2⟩ : s = var (Rd.var ⟨s, 0⟩).1 ++ (Rd.var ⟨s, 0⟩).2.s ∧ (Rd.var ⟨s, 0⟩).1 ≤ 268435455 := var_one s _ _ rfl h1
    have hlt := var_less ⟨s, 0⟩ h1
    generalize Rd.var ⟨s, 0⟩ = q at *
    obtain ⟨id, q⟩ := q
    dsimp only at h h1 hv hv2 hlt ⊢
    rw [rd_eta q h1] at h ⊢
    cases hm : mayB id kind isWill
    · rw [if_pos hm] at h; exact absurd h (by simp)
    rw [if_neg (by simp [hm])] at h ⊢
    by_cases hd : (getR l id).2 = true ∧ manyB id kind isWill = false
    · rw [if_pos hd] at h; exact absurd h (by simp)
    rw [if_neg hd] at h ⊢
    have hk1 : 1 ≤ (ruleOf id).kind := by
      have := (ruleOf_cases id).2.2.2.2
      apply this
      intro e
      unfold mayB at hm
      rw [e] at hm
      revert hm
      unfold bits
      simp [IntKind.wrap_i64]
    by_cases h2 : (valR (ruleOf id) id ⟨q.s, 0⟩).2.e = 0
    rotate_left
    · rw [propsGo_stop _ _ _ _ _ (Or.inr h2)] at h; exact absurd h h2
    obtain ⟨e1, e2⟩ := val_one id q.s hk1 h2
    have hl := valR_left (ruleOf id) id ⟨q.s, 0⟩
    generalize valR (ruleOf id) id ⟨q.s, 0⟩ = V at *
    obtain ⟨p, q2⟩ := V
    dsimp only at h h2 e1 e2 hl ⊢
    rw [rd_eta q2 h2] at h ⊢
    obtain ⟨l2, a, b⟩ := props_one kind isWill m q2.s (l ++ [p]) (by omega) h
    refine ⟨p :: l2, by rw [a, List.append_assoc]; rfl, ?_⟩
    have hid : p.id.toNat = id := by rw [e2]; rfl
    show s = (if 0 < (ruleOf p.id).kind then oneB p else []) ++ putsB l2
    rw [if_pos (by rw [e2]; omega), oneB, hid, e2, List.append_assoc, ← b, ← e1]
    exact hv
theorem takeP_e0 (q : Rd) (kind : Int) (isWill : Bool) (h : (takeP q kind isWill).2.e = 0) : q.e = 0 := by
  unfold takeP at h
  by_cases h1 : (q.var.2.raw q.var.1).2.e ≠ 0
  · rw [if_pos h1] at h; exact absurd h h1
  · exact var_e0 q (raw_e0 _ _ (by simpa using h1))
theorem takeP_bad (q : Rd) (kind : Int) (isWill : Bool) (h : q.e ≠ 0) : takeP q kind isWill = ([], q) := by
  have h1 : (q.var.2.raw q.var.1) = ([], q) := by rw [var_bad q h, Rd.raw_bad q _ h]
  unfold takeP
  rw [h1, if_pos h]
theorem take_one (s : List UInt8) (kind : Int) (isWill : Bool) (h : (takeP ⟨s, 0⟩ kind isWill).2.e = 0) :
    s = (var (putsB (takeP ⟨s, 0⟩ kind isWill).1).length ++ putsB (takeP ⟨s, 0⟩ kind isWill).1) ++ (takeP ⟨s, 0⟩ kind isWill).2.s ∧ (putsB (takeP ⟨s, 0⟩ kind isWill).1).length ≤ s.length := by
  unfold takeP at h ⊢
  by_cases h1 : ((Rd.var ⟨s, 0⟩).2.raw (Rd.var ⟨s, 0⟩).1).2.e = 0
  rotate_left
  · rw [if_pos h1] at h; exact absurd h h1
  rw [if_neg (by simpa using h1)] at h ⊢
  have h0 := raw_e0 _ _ h1
  obtain ⟨hv, hv2⟩ : s = var (Rd.var ⟨s, 0⟩).1 ++ (Rd.var ⟨s, 0⟩).2.s ∧ (Rd.var ⟨s, 0⟩).1 ≤ 268435455 := var_one s _ _ rfl h0
  generalize Rd.var ⟨s, 0⟩ = q at *
  obtain ⟨n, q⟩ := q
  dsimp only at h h0 h1 hv hv2 ⊢
  rw [rd_eta q h0] at h h1 ⊢
  obtain ⟨e1, e2⟩ := raw_one _ _ h1
  generalize Rd.raw ⟨q.s, 0⟩ n = B at *
  obtain ⟨B, q2⟩ := B
  dsimp only at h h1 e1 e2 ⊢
  by_cases h2 : (propsGo kind isWill B.length ⟨B, 0⟩ []).2.e = 0
  · rw [if_pos h2]
    obtain ⟨l2, a, b⟩ := props_one kind isWill B.length B [] (Nat.le_refl _) h2
    rw [List.nil_append] at a
    dsimp only
    rw [a, ← b, e2, List.append_assoc, ← e1, ← hv]
    refine ⟨rfl, ?_⟩
    have := congrArg List.length hv
    have := congrArg List.length e1
    simp only [List.length_append] at *
    omega
  · rw [if_neg h2] at h
    exfalso
    dsimp only [Rd.fail] at h
    rw [if_pos h1] at h
    dsimp only at h
    split at h
    · exact absurd h (by decide)
    · exact h2 h
end Go.Proofs.Ythioageiebchlaa
