/- Plain laws: properties that were put are taken again. No condition. -/
import Derived.Test.YtlhkgalmiajinaaPropF
import Derived.Test.YtlhkgalmiajinaaPropH
import Derived.Test.YtlhkgalmiajinaaPlainA
namespace Go.Proofs.Ytlhkgalmiajinaa

theorem props_end (kind : Int) (isWill : Bool) (m : Nat) (e : Int) (l : List Pr) : propsGo kind isWill m ⟨[], e⟩ l = (l, ⟨[], e⟩) := by
  cases m
  · rfl
  · rw [propsGo, if_pos (Or.inl rfl)]
theorem props_bad (kind : Int) (isWill : Bool) (m : Nat) (s : List UInt8) (e : Int) (h : e ≠ 0) (l : List Pr) : propsGo kind isWill m ⟨s, e⟩ l = (l, ⟨s, e⟩) := by
  cases m
  · rfl
  · rw [propsGo, if_pos (Or.inr h)]
theorem var_ne (n : Nat) (h : n < 128) (t : List UInt8) : var n ++ t ≠ [] := by
  rw [var, show vmin n = n from by unfold vmin; split <;> omega, varB_last' 3 n h]; simp
theorem props_step (kind : Int) (isWill : Bool) (x : Pr) (m : Nat) (t : List UInt8) (l : List Pr) (h1 : 1 ≤ x.id) (h2 : x.id ≤ 42) (hm : mayB x.id kind isWill = true) (hg : ¬ ((getR l x.id).2 = true ∧ manyB x.id kind isWill = false)) :
    propsGo kind isWill (m + 1) ⟨oneB x ++ t, 0⟩ l = propsGo kind isWill m (valR (ruleOf x.id) x.id ⟨sayB (ruleOf x.id).kind x ++ t, 0⟩).2 (l ++ [(valR (ruleOf x.id) x.id ⟨sayB (ruleOf x.id).kind x ++ t, 0⟩).1]) := by
  have hid : ((x.id.toNat : Nat) : Int) = x.id := Int.toNat_of_nonneg (by omega)
  have hv := var_back x.id.toNat (sayB (ruleOf x.id).kind x ++ t) (by omega)
  have hne := var_ne x.id.toNat (by omega) (sayB (ruleOf x.id).kind x ++ t)
  rw [propsGo, oneB, List.append_assoc, hv, if_neg (by simp [hne])]
  dsimp only
  rw [hid, if_neg (by simp), if_neg (by simp [hm]), if_neg hg]
theorem takeP_of (kind : Int) (isWill : Bool) (B t : List UInt8) (h : B.length ≤ 268435455) :
    takeP ⟨var B.length ++ (B ++ t), 0⟩ kind isWill = if (propsGo kind isWill B.length ⟨B, 0⟩ []).2.e = 0 then ((propsGo kind isWill B.length ⟨B, 0⟩ []).1, ⟨t, 0⟩) else ([], ⟨t, if (propsGo kind isWill B.length ⟨B, 0⟩ []).2.e = 1 then 2 else (propsGo kind isWill B.length ⟨B, 0⟩ []).2.e⟩) := by
  unfold takeP
  rw [var_back _ _ h]
  dsimp only
  rw [raw_back]
  dsimp only
  rw [if_neg (by simp)]
  rfl
/-- The number fits its kind. -/
def fits (k : Int) (n : Nat) : Prop := (k = 1 → n < 256) ∧ (k = 2 → n < 65536) ∧ (k = 3 → n < 4294967296) ∧ (k = 4 → n ≤ 268435455)
theorem val_num (id : Int) (n : Nat) (t : List UInt8) (h1 : 1 ≤ (ruleOf id).kind) (h4 : (ruleOf id).kind ≤ 4) (hf : fits (ruleOf id).kind n) :
    valR (ruleOf id) id ⟨sayB (ruleOf id).kind ⟨id, n, [], []⟩ ++ t, 0⟩ = (⟨id, n, [], []⟩, chkR (ruleOf id) n ⟨t, 0⟩) := by
  obtain ⟨f1, f2, f3, f4⟩ := hf
  unfold valR sayB
  have hk : (ruleOf id).kind = 1 ∨ (ruleOf id).kind = 2 ∨ (ruleOf id).kind = 3 ∨ (ruleOf id).kind = 4 := by omega
  rcases hk with hk | hk | hk | hk
  · have := f1 hk
    rw [if_pos hk, if_pos hk, byte_back, b8_toNat, Nat.mod_eq_of_lt this]
  · have := f2 hk
    rw [if_neg (by omega), if_pos hk, if_neg (by omega), if_pos hk, two_back, Nat.mod_eq_of_lt this]
  · have := f3 hk
    rw [if_neg (by omega), if_neg (by omega), if_pos hk, if_neg (by omega), if_neg (by omega), if_pos hk, four_back, Nat.mod_eq_of_lt this]
  · have := f4 hk
    rw [if_neg (by omega), if_neg (by omega), if_neg (by omega), if_pos hk, if_neg (by omega), if_neg (by omega), if_neg (by omega), if_pos hk, var_back n t this]
theorem puts_one (x : Pr) (h : 0 < (ruleOf x.id).kind) : putsB [x] = oneB x := by
  simp [putsB, h]
def badN (ru : Rule) (n : Nat) : Bool := decide (n < ru.least ∨ ru.most < n)
theorem takeP_one (kind : Int) (isWill : Bool) (id : Int) (n : Nat) (h1 : 1 ≤ (ruleOf id).kind) (h4 : (ruleOf id).kind ≤ 4) (hf : fits (ruleOf id).kind n) (hm : mayB id kind isWill = true) :
    takeP ⟨var (putsB [⟨id, n, [], []⟩]).length ++ putsB [⟨id, n, [], []⟩], 0⟩ kind isWill = if badN (ruleOf id) n = true then ([], ⟨[], 3⟩) else ([⟨id, n, [], []⟩], ⟨[], 0⟩) := by
  obtain ⟨i1, i2⟩ := kind_id id (by omega)
  have hB : putsB [⟨id, n, [], []⟩] = oneB ⟨id, n, [], []⟩ := puts_one ⟨id, n, [], []⟩ (by show 0 < (ruleOf id).kind; omega)
  rw [hB]
  have hl : (oneB ⟨id, n, [], []⟩).length ≤ 100 ∧ 0 < (oneB ⟨id, n, [], []⟩).length := by
    have v1 := varB_len' id.toNat
    have v2 := varB_len' n
    have v3 : (var id.toNat).length ≠ 0 := fun h => var_ne id.toNat (by omega) [] (by simpa using List.eq_nil_of_length_eq_zero h)
    have hs : (sayB (ruleOf id).kind ⟨id, n, [], []⟩).length ≤ 8 := by
      unfold sayB
      split
      · simp
      split
      · simp [two]
      split
      · simp [four, two]
      split
      · dsimp only; omega
      split
      · simp [dataB, two]
      split
      · simp [dataB, two]
      · simp
    unfold oneB
    rw [List.length_append]
    dsimp only
    omega
  have ht := takeP_of kind isWill (oneB ⟨id, n, [], []⟩) [] (by omega)
  rw [List.append_nil] at ht
  rw [ht]
  obtain ⟨m, hm1⟩ : ∃ m, (oneB ⟨id, n, [], []⟩).length = m + 1 := ⟨_, (Nat.succ_pred_eq_of_pos hl.2).symm⟩
  have hstep := props_step kind isWill ⟨id, n, [], []⟩ m [] [] i1 i2 hm (by simp [getR])
  rw [List.append_nil] at hstep
  dsimp only at hstep
  rw [val_num id n [] h1 h4 hf] at hstep
  rw [hm1, hstep]
  dsimp only
  have hc : chkR (ruleOf id) n ⟨[], 0⟩ = if badN (ruleOf id) n = true then ⟨[], 3⟩ else ⟨[], 0⟩ := by
    unfold chkR badN
    by_cases hb : n < (ruleOf id).least ∨ (ruleOf id).most < n
    · rw [if_pos ⟨rfl, hb⟩, if_pos (by simpa using hb)]
    · rw [if_neg (fun h => hb h.2), if_neg (by simpa using hb)]
  rw [hc]
  by_cases hb : badN (ruleOf id) n = true
  · rw [if_pos hb, if_pos hb, props_bad _ _ _ _ _ (by decide)]
    simp
  · rw [if_neg hb, if_neg hb, props_end]
    simp
theorem bad_num (id : Int) (n : Nat) (g1 : 1 ≤ (ruleOf id).kind) (g4 : (ruleOf id).kind ≤ 4) (hf : fits (ruleOf id).kind n) :
    badN (ruleOf id) n = (decide ((ruleOf id).kind = 1) && decide (1 < n) || decide (n = 0) && (decide (id = 11) || decide (id = 33) || decide (id = 39))) := by
  obtain ⟨f1, f2, f3, f4⟩ := hf
  rw [Bool.eq_iff_iff]
  unfold badN
  unfold ruleOf at g1 g4 f1 f2 f3 f4 ⊢
  by_cases h1 : id = 1
  · simp only [if_pos h1] at g1 g4 f1 f2 f3 f4 ⊢
    subst h1
    clear g1
    first | (exfalso; revert g4; decide) | (simp at f1 f2 f3 f4 ⊢; done) | (simp at f1 f2 f3 f4 ⊢; omega)
  simp only [if_neg h1] at g1 g4 f1 f2 f3 f4 ⊢
  by_cases h2 : id = 2
  · simp only [if_pos h2] at g1 g4 f1 f2 f3 f4 ⊢
    subst h2
    clear g1
    first | (exfalso; revert g4; decide) | (simp at f1 f2 f3 f4 ⊢; done) | (simp at f1 f2 f3 f4 ⊢; omega)
  simp only [if_neg h2] at g1 g4 f1 f2 f3 f4 ⊢
  by_cases h3 : id = 3
  · simp only [if_pos h3] at g1 g4 f1 f2 f3 f4 ⊢
    subst h3
    clear g1
    first | (exfalso; revert g4; decide) | (simp at f1 f2 f3 f4 ⊢; done) | (simp at f1 f2 f3 f4 ⊢; omega)
  simp only [if_neg h3] at g1 g4 f1 f2 f3 f4 ⊢
  by_cases h8 : id = 8
  · simp only [if_pos h8] at g1 g4 f1 f2 f3 f4 ⊢
    subst h8
    clear g1
    first | (exfalso; revert g4; decide) | (simp at f1 f2 f3 f4 ⊢; done) | (simp at f1 f2 f3 f4 ⊢; omega)
  simp only [if_neg h8] at g1 g4 f1 f2 f3 f4 ⊢
  by_cases h9 : id = 9
  · simp only [if_pos h9] at g1 g4 f1 f2 f3 f4 ⊢
    subst h9
    clear g1
    first | (exfalso; revert g4; decide) | (simp at f1 f2 f3 f4 ⊢; done) | (simp at f1 f2 f3 f4 ⊢; omega)
  simp only [if_neg h9] at g1 g4 f1 f2 f3 f4 ⊢
  by_cases h11 : id = 11
  · simp only [if_pos h11] at g1 g4 f1 f2 f3 f4 ⊢
    subst h11
    clear g1
    first | (exfalso; revert g4; decide) | (simp at f1 f2 f3 f4 ⊢; done) | (simp at f1 f2 f3 f4 ⊢; omega)
  simp only [if_neg h11] at g1 g4 f1 f2 f3 f4 ⊢
  by_cases h17 : id = 17
  · simp only [if_pos h17] at g1 g4 f1 f2 f3 f4 ⊢
    subst h17
    clear g1
    first | (exfalso; revert g4; decide) | (simp at f1 f2 f3 f4 ⊢; done) | (simp at f1 f2 f3 f4 ⊢; omega)
  simp only [if_neg h17] at g1 g4 f1 f2 f3 f4 ⊢
  by_cases h18 : id = 18
  · simp only [if_pos h18] at g1 g4 f1 f2 f3 f4 ⊢
    subst h18
    clear g1
    first | (exfalso; revert g4; decide) | (simp at f1 f2 f3 f4 ⊢; done) | (simp at f1 f2 f3 f4 ⊢; omega)
  simp only [if_neg h18] at g1 g4 f1 f2 f3 f4 ⊢
  by_cases h19 : id = 19
  · simp only [if_pos h19] at g1 g4 f1 f2 f3 f4 ⊢
    subst h19
    clear g1
    first | (exfalso; revert g4; decide) | (simp at f1 f2 f3 f4 ⊢; done) | (simp at f1 f2 f3 f4 ⊢; omega)
  simp only [if_neg h19] at g1 g4 f1 f2 f3 f4 ⊢
  by_cases h21 : id = 21
  · simp only [if_pos h21] at g1 g4 f1 f2 f3 f4 ⊢
    subst h21
    clear g1
    first | (exfalso; revert g4; decide) | (simp at f1 f2 f3 f4 ⊢; done) | (simp at f1 f2 f3 f4 ⊢; omega)
  simp only [if_neg h21] at g1 g4 f1 f2 f3 f4 ⊢
  by_cases h22 : id = 22
  · simp only [if_pos h22] at g1 g4 f1 f2 f3 f4 ⊢
    subst h22
    clear g1
    first | (exfalso; revert g4; decide) | (simp at f1 f2 f3 f4 ⊢; done) | (simp at f1 f2 f3 f4 ⊢; omega)
  simp only [if_neg h22] at g1 g4 f1 f2 f3 f4 ⊢
  by_cases h23 : id = 23
  · simp only [if_pos h23] at g1 g4 f1 f2 f3 f4 ⊢
    subst h23
    clear g1
    first | (exfalso; revert g4; decide) | (simp at f1 f2 f3 f4 ⊢; done) | (simp at f1 f2 f3 f4 ⊢; omega)
  simp only [if_neg h23] at g1 g4 f1 f2 f3 f4 ⊢
  by_cases h25 : id = 25
  · simp only [if_pos h25] at g1 g4 f1 f2 f3 f4 ⊢
    subst h25
    clear g1
    first | (exfalso; revert g4; decide) | (simp at f1 f2 f3 f4 ⊢; done) | (simp at f1 f2 f3 f4 ⊢; omega)
  simp only [if_neg h25] at g1 g4 f1 f2 f3 f4 ⊢
  by_cases h24 : id = 24
  · simp only [if_pos h24] at g1 g4 f1 f2 f3 f4 ⊢
    subst h24
    clear g1
    first | (exfalso; revert g4; decide) | (simp at f1 f2 f3 f4 ⊢; done) | (simp at f1 f2 f3 f4 ⊢; omega)
  simp only [if_neg h24] at g1 g4 f1 f2 f3 f4 ⊢
  by_cases h26 : id = 26
  · simp only [if_pos h26] at g1 g4 f1 f2 f3 f4 ⊢
    subst h26
    clear g1
    first | (exfalso; revert g4; decide) | (simp at f1 f2 f3 f4 ⊢; done) | (simp at f1 f2 f3 f4 ⊢; omega)
  simp only [if_neg h26] at g1 g4 f1 f2 f3 f4 ⊢
  by_cases h28 : id = 28
  · simp only [if_pos h28] at g1 g4 f1 f2 f3 f4 ⊢
    subst h28
    clear g1
    first | (exfalso; revert g4; decide) | (simp at f1 f2 f3 f4 ⊢; done) | (simp at f1 f2 f3 f4 ⊢; omega)
  simp only [if_neg h28] at g1 g4 f1 f2 f3 f4 ⊢
  by_cases h31 : id = 31
  · simp only [if_pos h31] at g1 g4 f1 f2 f3 f4 ⊢
    subst h31
    clear g1
    first | (exfalso; revert g4; decide) | (simp at f1 f2 f3 f4 ⊢; done) | (simp at f1 f2 f3 f4 ⊢; omega)
  simp only [if_neg h31] at g1 g4 f1 f2 f3 f4 ⊢
  by_cases h33 : id = 33
  · simp only [if_pos h33] at g1 g4 f1 f2 f3 f4 ⊢
    subst h33
    clear g1
    first | (exfalso; revert g4; decide) | (simp at f1 f2 f3 f4 ⊢; done) | (simp at f1 f2 f3 f4 ⊢; omega)
  simp only [if_neg h33] at g1 g4 f1 f2 f3 f4 ⊢
  by_cases h34 : id = 34
  · simp only [if_pos h34] at g1 g4 f1 f2 f3 f4 ⊢
    subst h34
    clear g1
    first | (exfalso; revert g4; decide) | (simp at f1 f2 f3 f4 ⊢; done) | (simp at f1 f2 f3 f4 ⊢; omega)
  simp only [if_neg h34] at g1 g4 f1 f2 f3 f4 ⊢
  by_cases h35 : id = 35
  · simp only [if_pos h35] at g1 g4 f1 f2 f3 f4 ⊢
    subst h35
    clear g1
    first | (exfalso; revert g4; decide) | (simp at f1 f2 f3 f4 ⊢; done) | (simp at f1 f2 f3 f4 ⊢; omega)
  simp only [if_neg h35] at g1 g4 f1 f2 f3 f4 ⊢
  by_cases h36 : id = 36
  · simp only [if_pos h36] at g1 g4 f1 f2 f3 f4 ⊢
    subst h36
    clear g1
    first | (exfalso; revert g4; decide) | (simp at f1 f2 f3 f4 ⊢; done) | (simp at f1 f2 f3 f4 ⊢; omega)
  simp only [if_neg h36] at g1 g4 f1 f2 f3 f4 ⊢
  by_cases h37 : id = 37
  · simp only [if_pos h37] at g1 g4 f1 f2 f3 f4 ⊢
    subst h37
    clear g1
    first | (exfalso; revert g4; decide) | (simp at f1 f2 f3 f4 ⊢; done) | (simp at f1 f2 f3 f4 ⊢; omega)
  simp only [if_neg h37] at g1 g4 f1 f2 f3 f4 ⊢
  by_cases h40 : id = 40
  · simp only [if_pos h40] at g1 g4 f1 f2 f3 f4 ⊢
    subst h40
    clear g1
    first | (exfalso; revert g4; decide) | (simp at f1 f2 f3 f4 ⊢; done) | (simp at f1 f2 f3 f4 ⊢; omega)
  simp only [if_neg h40] at g1 g4 f1 f2 f3 f4 ⊢
  by_cases h41 : id = 41
  · simp only [if_pos h41] at g1 g4 f1 f2 f3 f4 ⊢
    subst h41
    clear g1
    first | (exfalso; revert g4; decide) | (simp at f1 f2 f3 f4 ⊢; done) | (simp at f1 f2 f3 f4 ⊢; omega)
  simp only [if_neg h41] at g1 g4 f1 f2 f3 f4 ⊢
  by_cases h42 : id = 42
  · simp only [if_pos h42] at g1 g4 f1 f2 f3 f4 ⊢
    subst h42
    clear g1
    first | (exfalso; revert g4; decide) | (simp at f1 f2 f3 f4 ⊢; done) | (simp at f1 f2 f3 f4 ⊢; omega)
  simp only [if_neg h42] at g1 g4 f1 f2 f3 f4 ⊢
  by_cases h38 : id = 38
  · simp only [if_pos h38] at g1 g4 f1 f2 f3 f4 ⊢
    subst h38
    clear g1
    first | (exfalso; revert g4; decide) | (simp at f1 f2 f3 f4 ⊢; done) | (simp at f1 f2 f3 f4 ⊢; omega)
  simp only [if_neg h38] at g1 g4 f1 f2 f3 f4 ⊢
  by_cases h39 : id = 39
  · simp only [if_pos h39] at g1 g4 f1 f2 f3 f4 ⊢
    subst h39
    clear g1
    first | (exfalso; revert g4; decide) | (simp at f1 f2 f3 f4 ⊢; done) | (simp at f1 f2 f3 f4 ⊢; omega)
  simp only [if_neg h39] at g1 g4 f1 f2 f3 f4 ⊢
  exact absurd g1 (by decide)
end Go.Proofs.Ytlhkgalmiajinaa
