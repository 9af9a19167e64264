/- The plain laws of layer 2: a sign by decoding is the sign by writing each; strings joined. No condition. -/
import Derived.Test.YtlhkgalmiajinaaPure
namespace Go.Proofs.Ytlhkgalmiajinaa

def spell (v : Nat) : List UInt8 :=
  if v < 128 then [b8 v] else if v < 2048 then [b8 (192 + v / 64), b8 (128 + v % 64)]
  else if v < 65536 then [b8 (224 + v / 4096), b8 (128 + v / 64 % 64), b8 (128 + v % 64)]
  else [b8 (240 + v / 262144), b8 (128 + v / 4096 % 64), b8 (128 + v / 64 % 64), b8 (128 + v % 64)]
def rval (n : Nat) (s : List UInt8) : Nat := if n = 1 then (s.getD 0 0).toNat else sval n s
def okr (v : Nat) : Prop := v ≤ 1114111 ∧ (v < 55296 ∨ 57343 < v)
instance (v : Nat) : Decidable (okr v) := by unfold okr; infer_instance
/-- The reference's test: are the first n bytes a sign's? -/
def testS (n : Nat) (s : List UInt8) : Prop := okr (rval n s) ∧ spell (rval n s) = s.take n
instance (n : Nat) (s : List UInt8) : Decidable (testS n s) := by unfold testS; infer_instance

theorem u8_ext {a b : UInt8} : a = b ↔ a.toNat = b.toNat := ⟨fun h => by rw [h], fun h => UInt8.toNat.inj h⟩
theorem sval2 (c0 c1 : UInt8) (t : List UInt8) : sval 2 (c0 :: c1 :: t) = c0.toNat % 32 * 64 + c1.toNat % 64 := by simp [sval, dv]
theorem sval3 (c0 c1 c2 : UInt8) (t : List UInt8) : sval 3 (c0 :: c1 :: c2 :: t) = (c0.toNat % 16 * 64 + c1.toNat % 64) * 64 + c2.toNat % 64 := by simp [sval, dv]
theorem sval4 (c0 c1 c2 c3 : UInt8) (t : List UInt8) : sval 4 (c0 :: c1 :: c2 :: c3 :: t) = ((c0.toNat % 8 * 64 + c1.toNat % 64) * 64 + c2.toNat % 64) * 64 + c3.toNat % 64 := by simp [sval, dv]
theorem sign_of (s : List UInt8) (n : Nat) (h0 : s ≠ []) (h : ¬ (s.getD 0 0).toNat < 128) (hn : slen (s.getD 0 0).toNat = n) (hn0 : n ≠ 0) (hl : n ≤ s.length) (hc : conts ((s.take n).drop 1)) (ho : okv n (sval n s)) : sign s = (sval n s, n) := by
  rw [sign, if_neg h0, if_neg h]
  simp only [hn]
  rw [if_pos ⟨hn0, hl, hc, ho⟩]

theorem spell_len (v : Nat) : (spell v).length = if v < 128 then 1 else if v < 2048 then 2 else if v < 65536 then 3 else 4 := by
  unfold spell; (repeat' split) <;> rfl

theorem test_sign (s : List UInt8) (n : Nat) (h1 : 1 ≤ n) (h4 : n ≤ 4) (hl : n ≤ s.length) (h : testS n s) : sign s = (rval n s, n) := by
  obtain ⟨ho, hs⟩ := h
  have hlen := congrArg List.length hs
  rw [spell_len, List.length_take, Nat.min_eq_left hl] at hlen
  match n, h1, h4 with
  | 1, _, _ =>
    match s, hl with
    | c0 :: t, _ =>
      have hv : rval 1 (c0 :: t) = c0.toNat := rfl
      rw [hv] at hlen ⊢
      have h128 : c0.toNat < 128 := by
        revert hlen; (repeat' split) <;> omega
      rw [sign, if_neg (by simp), if_pos (by simpa using h128)]; rfl
  | 2, _, _ =>
    match s, hl with
    | c0 :: c1 :: t, _ =>
      have hv : rval 2 (c0 :: c1 :: t) = c0.toNat % 32 * 64 + c1.toNat % 64 := sval2 c0 c1 t
      have hb : 128 ≤ rval 2 (c0 :: c1 :: t) ∧ rval 2 (c0 :: c1 :: t) < 2048 := by
        revert hlen; (repeat' split) <;> omega
      rw [spell, if_neg (by omega), if_pos hb.2] at hs
      simp only [List.take_succ_cons, List.take_zero, List.cons.injEq, and_true, u8_ext, b8_toNat] at hs
      have hc0 := c0.toNat_lt
      have hc1 := c1.toNat_lt
      have e0 : ((c0 :: c1 :: t).getD 0 0).toNat = c0.toNat := rfl
      refine sign_of _ 2 (by simp) ?_ ?_ (by decide) (by simp) ?_ ?_
      · rw [e0]; omega
      · rw [e0]; unfold slen; rw [if_neg (by omega), if_pos (by omega)]
      · intro c hc; simp at hc; subst hc; omega
      · rw [sval2, ← hv]; unfold okr at ho; simp only [okv, least]; refine ⟨by simp; omega, ho⟩
  | 3, _, _ =>
    match s, hl with
    | c0 :: c1 :: c2 :: t, _ =>
      have hv : rval 3 (c0 :: c1 :: c2 :: t) = (c0.toNat % 16 * 64 + c1.toNat % 64) * 64 + c2.toNat % 64 := sval3 c0 c1 c2 t
      have hb : 2048 ≤ rval 3 (c0 :: c1 :: c2 :: t) ∧ rval 3 (c0 :: c1 :: c2 :: t) < 65536 := by
        revert hlen; (repeat' split) <;> omega
      rw [spell, if_neg (by omega), if_neg (by omega), if_pos hb.2] at hs
      simp only [List.take_succ_cons, List.take_zero, List.cons.injEq, and_true, u8_ext, b8_toNat] at hs
      have hc0 := c0.toNat_lt
      have hc1 := c1.toNat_lt
      have hc2 := c2.toNat_lt
      have e0 : ((c0 :: c1 :: c2 :: t).getD 0 0).toNat = c0.toNat := rfl
      refine sign_of _ 3 (by simp) ?_ ?_ (by decide) (by simp) ?_ ?_
      · rw [e0]; omega
      · rw [e0]; unfold slen; rw [if_neg (by omega), if_neg (by omega), if_pos (by omega)]
      · intro c hc; simp at hc; rcases hc with rfl | rfl <;> omega
      · rw [sval3, ← hv]; unfold okr at ho; simp only [okv, least]; refine ⟨by simp; omega, ho⟩
  | 4, _, _ =>
    match s, hl with
    | c0 :: c1 :: c2 :: c3 :: t, _ =>
      have hv : rval 4 (c0 :: c1 :: c2 :: c3 :: t) = ((c0.toNat % 8 * 64 + c1.toNat % 64) * 64 + c2.toNat % 64) * 64 + c3.toNat % 64 := sval4 c0 c1 c2 c3 t
      have hb : 65536 ≤ rval 4 (c0 :: c1 :: c2 :: c3 :: t) := by
        revert hlen; (repeat' split) <;> omega
      rw [spell, if_neg (by omega), if_neg (by omega), if_neg (by omega)] at hs
      simp only [List.take_succ_cons, List.take_zero, List.cons.injEq, and_true, u8_ext, b8_toNat] at hs
      have hc0 := c0.toNat_lt
      have hc1 := c1.toNat_lt
      have hc2 := c2.toNat_lt
      have hc3 := c3.toNat_lt
      have e0 : ((c0 :: c1 :: c2 :: c3 :: t).getD 0 0).toNat = c0.toNat := rfl
      refine sign_of _ 4 (by simp) ?_ ?_ (by decide) (by simp) ?_ ?_
      · rw [e0]; omega
      · rw [e0]; unfold slen; rw [if_neg (by omega), if_neg (by omega), if_neg (by omega), if_pos (by omega)]
      · intro c hc; simp at hc; rcases hc with rfl | rfl | rfl <;> omega
      · rw [sval4, ← hv]; unfold okr at ho; simp only [okv, least]; refine ⟨by simp; omega, ho⟩

theorem sign_test (s : List UInt8) (h : (sign s).2 ≠ 0) : 1 ≤ (sign s).2 ∧ (sign s).2 ≤ 4 ∧ (sign s).2 ≤ s.length ∧ testS (sign s).2 s ∧ (sign s).1 = rval (sign s).2 s := by
  unfold sign at h ⊢
  split at h
  · simp at h
  rename_i hne
  rw [if_neg hne]
  split at h
  · rename_i h128
    rw [if_pos h128]
    match s, hne with
    | c0 :: t, _ =>
      have e0 : ((c0 :: t).getD 0 0).toNat = c0.toNat := rfl
      rw [e0] at h128 ⊢
      refine ⟨by simp, by simp, by simp, ⟨⟨?_, ?_⟩, ?_⟩, rfl⟩
      · show c0.toNat ≤ _; omega
      · show c0.toNat < _ ∨ _; omega
      · show spell c0.toNat = [c0]
        rw [spell, if_pos h128, b8_of]
  · rename_i h128
    rw [if_neg h128]
    simp only [] at h ⊢
    split at h
    · rename_i hh
      rw [if_pos hh]
      obtain ⟨hn0, hl, hc, ho⟩ := hh
      dsimp only at h ⊢
      have h4 : slen (s.getD 0 0).toNat ≤ 4 := by unfold slen; (repeat' split) <;> omega
      have hn1 : slen (s.getD 0 0).toNat ≠ 1 := by
        intro e; unfold slen at e; rw [if_neg h128] at e; revert e; (repeat' split) <;> omega
      have hsl : slen (s.getD 0 0).toNat = slen (s.getD 0 0).toNat := rfl
      generalize hn : slen (s.getD 0 0).toNat = n at *
      have hr : rval n s = sval n s := by rw [rval, if_neg hn1]
      refine ⟨by omega, h4, hl, ⟨?_, ?_⟩, hr.symm⟩
      · rw [hr]; exact ho.2
      · rw [hr]
        match n, hn0, hn1, h4 with
        | 2, _, _, _ =>
          match s, hl with
          | c0 :: c1 :: t, _ =>
            have e0 : ((c0 :: c1 :: t).getD 0 0).toNat = c0.toNat := rfl
            rw [e0] at hn h128
            have h0 : c0.toNat / 32 = 6 := by unfold slen at hn; revert hn; (repeat' split) <;> omega
            have g1 := hc c1 (by simp)
            have hv := sval2 c0 c1 t
            have hlo := ho.1
            simp only [least] at hlo
            rw [spell, if_neg (by simp at hlo; omega), if_pos (by omega)]
            simp only [List.take_succ_cons, List.take_zero, List.cons.injEq, and_true, u8_ext, b8_toNat]
            omega
        | 3, _, _, _ =>
          match s, hl with
          | c0 :: c1 :: c2 :: t, _ =>
            have e0 : ((c0 :: c1 :: c2 :: t).getD 0 0).toNat = c0.toNat := rfl
            rw [e0] at hn h128
            have h0 : c0.toNat / 16 = 14 := by unfold slen at hn; revert hn; (repeat' split) <;> omega
            have g1 := hc c1 (by simp)
            have g2 := hc c2 (by simp)
            have hv := sval3 c0 c1 c2 t
            have hlo := ho.1
            simp only [least] at hlo
            rw [spell, if_neg (by simp at hlo; omega), if_neg (by simp at hlo; omega), if_pos (by omega)]
            simp only [List.take_succ_cons, List.take_zero, List.cons.injEq, and_true, u8_ext, b8_toNat]
            omega
        | 4, _, _, _ =>
          match s, hl with
          | c0 :: c1 :: c2 :: c3 :: t, _ =>
            have e0 : ((c0 :: c1 :: c2 :: c3 :: t).getD 0 0).toNat = c0.toNat := rfl
            rw [e0] at hn h128
            have h0 : c0.toNat / 8 = 30 := by unfold slen at hn; revert hn; (repeat' split) <;> omega
            have g1 := hc c1 (by simp)
            have g2 := hc c2 (by simp)
            have g3 := hc c3 (by simp)
            have hv := sval4 c0 c1 c2 c3 t
            have hlo := ho.1
            simp only [least] at hlo
            rw [spell, if_neg (by simp at hlo; omega), if_neg (by simp at hlo; omega), if_neg (by simp at hlo; omega)]
            simp only [List.take_succ_cons, List.take_zero, List.cons.injEq, and_true, u8_ext, b8_toNat]
            omega
    · simp at h
end Go.Proofs.Ytlhkgalmiajinaa
