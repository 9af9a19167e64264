/- The plain laws of layer 2: a sign by decoding is the sign by writing each; strings joined. No condition. -/
import Derived.Test.YthioageiebchlaaPure
import Derived.Test.YthioageiebchlaaWord
namespace Go.Proofs.Ythioageiebchlaa

def spell (v : Nat) : List UInt8 :=
  if v < 128 then [b8 v] else if v < 2048 then [b8 (192 + v / 64), b8 (128 + v % 64)]
  else if v < 65536 then [b8 (224 + v / 4096), b8 (128 + v / 64 % 64), b8 (128 + v % 64)]
  else [b8 (240 + v / 262144), b8 (128 + v / 4096 % 64), b8 (128 + v / 64 % 64), b8 (128 + v % 64)]
def rval (n : Nat) (s : List UInt8) : Nat := if n = 1 then (s.getD 0 0).toNat else sval n s
def okr (v : Nat) : Prop := v ≤ 1114111 ∧ (v < 55296 ∨ 57343 < v)
instance (v : Nat) : Decidable (okr v) := by unfold okr; infer_instance
/-- The reference's test: are the first n bytes a sign's? -/
def testS (n : Nat) (s : List UInt8) : Prop := okr (rval n s) ∧ spell (rval n s) = s.take n
instance (n : Nat) (s : List UInt8) : Decidable (testS n s) := by unfold testS; infer_instance

theorem u8_ext {a b : UInt8} : a = b ↔ a.toNat = b.toNat := ⟨fun h => by rw [h], fun h => UInt8.toNat.inj h⟩
theorem sval2 (c0 c1 : UInt8) (t : List UInt8) : sval 2 (c0 :: c1 :: t) = c0.toNat % 32 * 64 + c1.toNat % 64 := by simp [sval, dv]
theorem sval3 (c0 c1 c2 : UInt8) (t : List UInt8) : sval 3 (c0 :: c1 :: c2 :: t) = (c0.toNat % 16 * 64 + c1.toNat % 64) * 64 + c2.toNat % 64 := by simp [sval, dv]
theorem sval4 (c0 c1 c2 c3 : UInt8) (t : List UInt8) : sval 4 (c0 :: c1 :: c2 :: c3 :: t) = ((c0.toNat % 8 * 64 + c1.toNat % 64) * 64 + c2.toNat % 64) * 64 + c3.toNat % 64 := by simp [sval, dv]
theorem sign_of (s : List UInt8) (n : Nat) (h0 : s ≠ []) (h : ¬ (s.getD 0 0).toNat < 128) (hn : slen (s.getD 0 0).toNat = n) (hn0 : n ≠ 0) (hl : n ≤ s.length) (hc : conts ((s.take n).drop 1)) (ho : okv n (sval n s)) : sign s = (sval n s, n) := by
  rw [sign, if_neg h0, if_neg h]
  simp only [hn]
  rw [if_pos ⟨hn0, hl, hc, ho⟩]

theorem spell_len (v : Nat) : (spell v).length = if v < 128 then 1 else if v < 2048 then 2 else if v < 65536 then 3 else 4 := by
  unfold spell; (repeat' split) <;> rfl

theorem test_sign (s : List UInt8) (n : Nat) (h1 : 1 ≤ n) (h4 : n ≤ 4) (hl : n ≤ s.length) (h : testS n s) : sign s = (rval n s, n) := by
  obtain ⟨ho, hs⟩ := h
  have hlen := congrArg List.length hs
  rw [spell_len, List.length_take, Nat.min_eq_left hl] at hlen
  match n, h1, h4 with
  | 1, _, _ =>
    match s, hl with
    | c0 :: t, _ =>
      have hv : rval 1 (c0 :: t) = c0.toNat := rfl
      rw [hv] at hlen ⊢
      have h128 : c0.toNat < 128 := by
        revert hlen; (repeat' split) <;> omega
      rw [sign, if_neg (by simp), if_pos (by simpa using h128)]; rfl
  | 2, _, _ =>
    match s, hl with
    | c0 :: c1 :: t, _ =>
      have hv : rval 2 (c0 :: c1 :: t) = c0.toNat % 32 * 64 + c1.toNat % 64 := sval2 c0 c1 t
      have hb : 128 ≤ rval 2 (c0 :: c1 :: t) ∧ rval 2 (c0 :: c1 :: t) < 2048 := by
        revert hlen; (repeat' split) <;> omega
      rw [spell, if_neg (by omega), if_pos hb.2] at hs
      simp only [List.take_succ_cons, List.take_zero, List.cons.injEq, and_true, u8_ext, b8_toNat] at hs
      have hc0 := c0.toNat_lt
      have hc1 := c1.toNat_lt
      have e0 : ((c0 :: c1 :: t).getD 0 0).toNat = c0.toNat := rfl
      refine sign_of _ 2 (by simp) ?_ ?_ (by decide) (by simp) ?_ ?_
      · rw [e0]; omega
      · rw [e0]; unfold slen; rw [if_neg (by omega), if_pos (by omega)]
      · intro c hc; simp at hc; subst hc; omega
      · rw [sval2, ← hv]; unfold okr at ho; simp only [okv, least]; refine ⟨by simp; omega, ho⟩
  | 3, _, _ =>
    match s, hl with
    | c0 :: c1 :: c2 :: t, _ =>
      have hv : rval 3 (c0 :: c1 :: c2 :: t) = (c0.toNat % 16 * 64 + c1.toNat % 64) * 64 + c2.toNat % 64 := sval3 c0 c1 c2 t
      have hb : 2048 ≤ rval 3 (c0 :: c1 :: c2 :: t) ∧ rval 3 (c0 :: c1 :: c2 :: t) < 65536 := by
        revert hlen; (repeat' split) <;> omega
      rw [spell, if_neg (by omega), if_neg (by omega), if_pos hb.2] at hs
      simp only [List.take_succ_cons, List.take_zero, List.cons.injEq, and_true, u8_ext, b8_toNat] at hs
      have hc0 := c0.toNat_lt
      have hc1 := c1.toNat_lt
      have hc2 := c2.toNat_lt
      have e0 : ((c0 :: c1 :: c2 :: t).getD 0 0).toNat = c0.toNat := rfl
      refine sign_of _ 3 (by simp) ?_ ?_ (by decide) (by simp) ?_ ?_
      · rw [e0]; omega
      · rw [e0]; unfold slen; rw [if_neg (by omega), if_neg (by omega), if_pos (by omega)]
      · intro c hc; simp at hc; rcases hc with rfl | rfl <;> omega
      · rw [sval3, ← hv]; unfold okr at ho; simp only [okv, least]; refine ⟨by simp; omega, ho⟩
  | 4, _, _ =>
    match s, hl with
    | c0 :: c1 :: c2 :: c3 :: t, _ =>
      have hv : rval 4 (c0 :: c1 :: c2 :: c3 :: t) = ((c0.toNat % 8 * 64 + c1.toNat % 64) * 64 + c2.toNat % 64) * 64 + c3.toNat % 64 := sval4 c0 c1 c2 c3 t
      have hb : 65536 ≤ rval 4 (c0 :: c1 :: c2 :: c3 :: t) := by
        revert hlen; (repeat' split) <;> omega
      rw [spell, if_neg (by omega), if_neg (by omega), if_neg (by omega)] at hs
      simp only [List.take_succ_cons, List.take_zero, List.cons.injEq, and_true, u8_ext, b8_toNat] at hs
      have hc0 := c0.toNat_lt
      have hc1 := c1.toNat_lt
      have hc2 := c2.toNat_lt
      have hc3 := c3.toNat_lt
      have e0 : ((c0 :: c1 :: c2 :: c3 :: t).getD 0 0).toNat = c0.toNat := rfl
      refine sign_of _ 4 (by simp) ?_ ?_ (by decide) (by simp) ?_ ?_
      · rw [e0]; omega
      · rw [e0]; unfold slen; rw [if_neg (by omega), if_neg (by omega), if_neg (by omega), if_pos (by omega)]
      · intro c hc; simp at hc; rcases hc with rfl | rfl | rfl <;> omega
      · rw [sval4, ← hv]; unfold okr at ho; simp only [okv, least]; refine ⟨by simp; omega, ho⟩

theorem sign_test (s : List UInt8) (h : (sign s).2 ≠ 0) : 1 ≤ (sign s).2 ∧ (sign s).2 ≤ 4 ∧ (sign s).2 ≤ s.length ∧ testS (sign s).2 s ∧ (sign s).1 = rval (sign s).2 s := by
  unfold sign at h ⊢
  split at h
  · simp at h
  rename_i hne
  rw [if_neg hne]
  split at h
  · rename_i h128
    rw [if_pos h128]
    match s, hne with
    | c0 :: t, _ =>
      have e0 : ((c0 :: t).getD 0 0).toNat = c0.toNat := rfl
      rw [e0] at h128 ⊢
      refine ⟨by simp, by simp, by simp, ⟨⟨?_, ?_⟩, ?_⟩, rfl⟩
      · show c0.toNat ≤ _; omega
      · show c0.toNat < _ ∨ _; omega
      · show spell c0.toNat = [c0]
        rw [spell, if_pos h128, b8_of]
  · rename_i h128
    rw [if_neg h128]
    simp only [] at h ⊢
    split at h
    · rename_i hh
      rw [if_pos hh]
      obtain ⟨hn0, hl, hc, ho⟩ := hh
      dsimp only at h ⊢
      have h4 : slen (s.getD 0 0).toNat ≤ 4 := by unfold slen; (repeat' split) <;> omega
      have hn1 : slen (s.getD 0 0).toNat ≠ 1 := by
        intro e; unfold slen at e; rw [if_neg h128] at e; revert e; (repeat' split) <;> omega
      have hsl : slen (s.getD 0 0).toNat = slen (s.getD 0 0).toNat := rfl
      generalize hn : slen (s.getD 0 0).toNat = n at *
      have hr : rval n s = sval n s := by rw [rval, if_neg hn1]
      refine ⟨by omega, h4, hl, ⟨?_, ?_⟩, hr.symm⟩
      · rw [hr]; exact ho.2
      · rw [hr]
        match n, hn0, hn1, h4 with
        | 2, _, _, _ =>
          match s, hl with
          | c0 :: c1 :: t, _ =>
            have e0 : ((c0 :: c1 :: t).getD 0 0).toNat = c0.toNat := rfl
            rw [e0] at hn h128
            have h0 : c0.toNat / 32 = 6 := by unfold slen at hn; revert hn; (repeat' split) <;> omega
            have g1 := hc c1 (by simp)
            have hv := sval2 c0 c1 t
            have hlo := ho.1
            simp only [least] at hlo
            rw [spell, if_neg (by simp at hlo; omega), if_pos (by omega)]
            simp only [List.take_succ_cons, List.take_zero, List.cons.injEq, and_true, u8_ext, b8_toNat]
            omega
        | 3, _, _, _ =>
          match s, hl with
          | c0 :: c1 :: c2 :: t, _ =>
            have e0 : ((c0 :: c1 :: c2 :: t).getD 0 0).toNat = c0.toNat := rfl
            rw [e0] at hn h128
            have h0 : c0.toNat / 16 = 14 := by unfold slen at hn; revert hn; (repeat' split) <;> omega
            have g1 := hc c1 (by simp)
            have g2 := hc c2 (by simp)
            have hv := sval3 c0 c1 c2 t
            have hlo := ho.1
            simp only [least] at hlo
            rw [spell, if_neg (by simp at hlo; omega), if_neg (by simp at hlo; omega), if_pos (by omega)]
            simp only [List.take_succ_cons, List.take_zero, List.cons.injEq, and_true, u8_ext, b8_toNat]
            omega
        | 4, _, _, _ =>
          match s, hl with
          | c0 :: c1 :: c2 :: c3 :: t, _ =>
            have e0 : ((c0 :: c1 :: c2 :: c3 :: t).getD 0 0).toNat = c0.toNat := rfl
            rw [e0] at hn h128
            have h0 : c0.toNat / 8 = 30 := by unfold slen at hn; revert hn; (repeat' split) <;> omega
            have g1 := hc c1 (by simp)
            have g2 := hc c2 (by simp)
            have g3 := hc c3 (by simp)
            have hv := sval4 c0 c1 c2 c3 t
            have hlo := ho.1
            simp only [least] at hlo
            rw [spell, if_neg (by simp at hlo; omega), if_neg (by simp at hlo; omega), if_neg (by simp at hlo; omega)]
            simp only [List.take_succ_cons, List.take_zero, List.cons.injEq, and_true, u8_ext, b8_toNat]
            omega
    · simp at h
end Go.Proofs.Ythioageiebchlaa
namespace Go.Proofs.Ythioageiebchlaa

theorem sign_zero (s : List UInt8) (h : (sign s).2 = 0) : sign s = (0, 0) := by
  rw [sign] at h ⊢
  split
  · rfl
  rename_i hne
  rw [if_neg hne] at h
  split
  · rename_i h1; rw [if_pos h1] at h; cases h
  rename_i h1
  rw [if_neg h1] at h
  simp only [] at h ⊢
  split
  · rename_i h2; rw [if_pos h2] at h; exact absurd h h2.1
  · rfl
theorem rval_spell (v : Nat) (h : v < 2097152) (t : List UInt8) : rval (spell v).length (spell v ++ t) = v := by
  unfold spell
  split
  · simp only [List.length_cons, List.length_nil, Nat.zero_add, List.cons_append, List.nil_append]
    rw [rval, if_pos rfl, List.getD_cons_zero, b8_toNat]; omega
  split
  · simp only [List.length_cons, List.length_nil, Nat.zero_add, Nat.reduceAdd, List.cons_append, List.nil_append]
    rw [rval, if_neg (by decide), sval2, b8_toNat, b8_toNat]; omega
  split
  · simp only [List.length_cons, List.length_nil, Nat.zero_add, Nat.reduceAdd, List.cons_append, List.nil_append]
    rw [rval, if_neg (by decide), sval3, b8_toNat, b8_toNat, b8_toNat]; omega
  · simp only [List.length_cons, List.length_nil, Nat.zero_add, Nat.reduceAdd, List.cons_append, List.nil_append]
    rw [rval, if_neg (by decide), sval4, b8_toNat, b8_toNat, b8_toNat, b8_toNat]; omega
def headLen (c : Nat) : Nat := if c < 128 then 1 else if c < 224 then 2 else if c < 240 then 3 else 4
theorem spell_head (v : Nat) (h : v < 2097152) : (spell v).length = headLen ((spell v).getD 0 0).toNat := by
  unfold spell headLen
  split
  · simp only [List.length_cons, List.length_nil, Nat.zero_add, List.getD_cons_zero]
    rw [b8_toNat, if_pos (by omega)]
  split
  · simp only [List.length_cons, List.length_nil, Nat.zero_add, Nat.reduceAdd, List.getD_cons_zero]
    rw [b8_toNat, if_neg (by omega), if_pos (by omega)]
  split
  · simp only [List.length_cons, List.length_nil, Nat.zero_add, Nat.reduceAdd, List.getD_cons_zero]
    rw [b8_toNat, if_neg (by omega), if_neg (by omega), if_pos (by omega)]
  · simp only [List.length_cons, List.length_nil, Nat.zero_add, Nat.reduceAdd, List.getD_cons_zero]
    rw [b8_toNat, if_neg (by omega), if_neg (by omega), if_neg (by omega)]
theorem spell_pos (v : Nat) : 1 ≤ (spell v).length ∧ (spell v).length ≤ 4 := by
  rw [spell_len]; (repeat' split) <;> omega
theorem spell_sign (v : Nat) (ho : okr v) (t : List UInt8) : sign (spell v ++ t) = (v, (spell v).length) := by
  have hv : v < 2097152 := by have := ho.1; omega
  have h := test_sign (spell v ++ t) (spell v).length (spell_pos v).1 (spell_pos v).2 (by simp) ⟨by rw [rval_spell v hv]; exact ho, by rw [rval_spell v hv]; simp⟩
  rw [rval_spell v hv] at h
  exact h
theorem rval_lt (s : List UInt8) (n : Nat) (h : okr (rval n s)) : rval n s < 2097152 := by have := h.1; omega
/-- What begins like a sign's bytes, and is a sign, is as long as they. -/
theorem spell_same (v : Nat) (hv : v < 2097152) (s : List UInt8) (h0 : s.getD 0 0 = (spell v).getD 0 0) (hn : (sign s).2 ≠ 0) : (sign s).2 = (spell v).length := by
  obtain ⟨t1, t4, tl, tt, _⟩ := sign_test s hn
  obtain ⟨t0, ts⟩ := tt
  have e1 := spell_head _ (rval_lt _ _ t0)
  have e0 : (spell (rval (sign s).2 s)).getD 0 0 = s.getD 0 0 := by
    rw [ts]
    match hs : s, (show 1 ≤ s.length by omega) with
    | c :: s', _ =>
      obtain ⟨m, hm⟩ : ∃ m, (sign (c :: s')).2 = m + 1 := ⟨(sign (c :: s')).2 - 1, by omega⟩
      rw [hm]; rfl
  rw [e0, h0, ← spell_head v hv, ts, List.length_take, Nat.min_eq_left tl] at e1
  exact e1
theorem spell_getD (v : Nat) (t : List UInt8) : (spell v ++ t).getD 0 0 = (spell v).getD 0 0 := by
  have h1 := (spell_pos v).1
  match hs : spell v with
  | [] => rw [hs] at h1; simp at h1
  | c :: s' => rfl
theorem spell_bad (v : Nat) (hv : v < 2097152) (ho : ¬ okr v) (t : List UInt8) : sign (spell v ++ t) = (0, 0) := by
  apply sign_zero
  by_cases hn : (sign (spell v ++ t)).2 = 0
  · exact hn
  exfalso
  have e := spell_same v hv _ (spell_getD v t) hn
  obtain ⟨t1, t4, tl, tt, _⟩ := sign_test _ hn
  rw [e] at tt
  have := tt.1
  rw [rval_spell v hv] at this
  exact ho this
theorem spell_cut (v : Nat) (hv : v < 2097152) : sign ((spell v).take ((spell v).length - 1)) = (0, 0) := by
  apply sign_zero
  by_cases hn : (sign ((spell v).take ((spell v).length - 1))).2 = 0
  · exact hn
  exfalso
  obtain ⟨t1, t4, tl, _⟩ := sign_test _ hn
  have h0 : ((spell v).take ((spell v).length - 1)).getD 0 0 = (spell v).getD 0 0 := by
    rw [List.length_take] at tl
    obtain ⟨m, hm⟩ : ∃ m, (spell v).length - 1 = m + 1 := ⟨(spell v).length - 2, by omega⟩
    rw [hm]
    match hs : spell v with
    | [] => rfl
    | c :: s' => rfl
  have e := spell_same v hv _ h0 hn
  rw [e, List.length_take] at tl
  have := (spell_pos v).1
  omega

/-! ### Strings, one behind the other -/
theorem rval_take (n : Nat) (s s' : List UInt8) (h1 : 1 ≤ n) (h : s.take n = s'.take n) : rval n s = rval n s' := by
  have h0 : s.getD 0 0 = s'.getD 0 0 := by
    obtain ⟨m, rfl⟩ : ∃ m, n = m + 1 := ⟨n - 1, by omega⟩
    match s, s', h with
    | [], [], _ => rfl
    | [], _ :: _, h => simp at h
    | _ :: _, [], h => simp at h
    | a :: _, b :: _, h => simp only [List.take_succ_cons, List.cons.injEq] at h; exact h.1
  unfold rval sval
  rw [h0, h]
theorem sign_take (s s' : List UInt8) (hn : (sign s).2 ≠ 0) (hl : (sign s).2 ≤ s'.length) (h : s.take (sign s).2 = s'.take (sign s).2) : sign s' = sign s := by
  obtain ⟨t1, t4, tl, tt, tv⟩ := sign_test s hn
  have e := rval_take _ _ _ t1 h
  rw [test_sign s' (sign s).2 t1 t4 hl ⟨by rw [← e]; exact tt.1, by rw [← e, ← h]; exact tt.2⟩, ← e, ← tv]
theorem goodN_more (j : Nat) : ∀ l : List UInt8, l.length ≤ j → good.goodN (j + 1) l = good.goodN j l := by
  induction j with
  | zero =>
    intro l h
    have : l = [] := List.eq_nil_of_length_eq_zero (by omega)
    subst this
    rfl
  | succ j ih =>
    intro l h
    rw [good.goodN, good.goodN.eq_2 l j]
    by_cases h0 : (sign l).2 = 0
    · simp [h0]
    · rw [ih (l.drop (sign l).2) (by simp; omega)]
theorem goodN_eq (l : List UInt8) (k : Nat) : good.goodN (l.length + k) l = good.goodN l.length l := by
  induction k with
  | zero => rfl
  | succ k ih => rw [← Nat.add_assoc, goodN_more _ _ (by omega), ih]
theorem goodN_le (l : List UInt8) (j : Nat) (h : l.length ≤ j) : good.goodN j l = good.goodN l.length l := by
  obtain ⟨k, rfl⟩ : ∃ k, j = l.length + k := ⟨j - l.length, by omega⟩
  exact goodN_eq l k
theorem goodN_step (l : List UInt8) (hne : l ≠ []) : good.goodN l.length l = (!((sign l).2 == 0) && !((sign l).1 == 0) && good.goodN (l.drop (sign l).2).length (l.drop (sign l).2)) := by
  obtain ⟨j, hj⟩ : ∃ j, l.length = j + 1 := ⟨l.length - 1, by have := List.length_pos_iff.2 hne; omega⟩
  have he : l.isEmpty = false := by simpa using hne
  rw [hj, good.goodN, he, Bool.false_or]
  by_cases h0 : (sign l).2 = 0
  · simp [h0]
  · rw [goodN_le (l.drop (sign l).2) j (by simp; omega)]
theorem good_join (j : Nat) : ∀ (a b : List UInt8), a.length ≤ j → good.goodN a.length a = true → good.goodN (a ++ b).length (a ++ b) = good.goodN b.length b := by
  induction j with
  | zero =>
    intro a b h _
    have : a = [] := List.eq_nil_of_length_eq_zero (by omega)
    subst this
    rfl
  | succ j ih =>
    intro a b h hg
    by_cases he : a = []
    · subst he; rfl
    rw [goodN_step a he, Bool.and_eq_true, Bool.and_eq_true] at hg
    obtain ⟨⟨h1, h2⟩, h3⟩ := hg
    have hn : (sign a).2 ≠ 0 := by simpa using h1
    have hle := (sign_le a).1
    have e := sign_take a (a ++ b) hn (by simp; omega) (by rw [List.take_append_of_le_length hle])
    rw [goodN_step (a ++ b) (by simp [he]), e, h1, h2, List.drop_append_of_le_length hle, Bool.true_and, Bool.true_and]
    exact ih _ _ (by simp; omega) h3
theorem good_cut (a : List UInt8) (he : a ≠ []) (hg : good.goodN a.length a = true) : good.goodN (a.drop (sign a).2).length (a.drop (sign a).2) = true ∧ good.goodN (a.take (sign a).2).length (a.take (sign a).2) = true := by
  rw [goodN_step a he, Bool.and_eq_true, Bool.and_eq_true] at hg
  obtain ⟨⟨h1, h2⟩, h3⟩ := hg
  have hn : (sign a).2 ≠ 0 := by simpa using h1
  have hle := (sign_le a).1
  have e := sign_take a (a.take (sign a).2) hn (by simp; omega) (by rw [List.take_take, Nat.min_self])
  refine ⟨h3, ?_⟩
  have hne : a.take (sign a).2 ≠ [] := by
    intro h; have := congrArg List.length h; simp at this; rcases this with h | h; exact hn h; exact he h
  rw [goodN_step _ hne, e, h1, h2, List.drop_eq_nil_of_le (by simp; omega)]
  rfl
theorem good_small (l : List UInt8) (h : l.length ≤ 65535) : good l = good.goodN l.length l := by
  rw [good, decide_eq_true h, Bool.true_and]
end Go.Proofs.Ythioageiebchlaa
