/- Plain laws of layer 7: what is read is written as it was; short answers; an identifier of 0. No condition. -/
import Derived.Test.YthioageiebchlaaPub
import Derived.Test.YthioageiebchlaaPlainG
namespace Go.Proofs.Ythioageiebchlaa

theorem fail_e0 (r : Rd) (x : Int) (hx : x ≠ 0) : (r.fail x).e ≠ 0 := by
  unfold Rd.fail
  split
  · exact hx
  · rename_i h; exact h
theorem ident_one (s : List UInt8) (h : (Rd.ident ⟨s, 0⟩).2.e = 0) : s = two (Rd.ident ⟨s, 0⟩).1 ++ (Rd.ident ⟨s, 0⟩).2.s ∧ (Rd.ident ⟨s, 0⟩).1 < 65536 ∧ (Rd.ident ⟨s, 0⟩).1 ≠ 0 := by
  unfold Rd.ident at h ⊢
  dsimp only at h ⊢
  by_cases h0 : (Rd.num ⟨s, 0⟩ 2).1 = 0
  · rw [if_pos h0] at h; exact absurd h (fail_e0 _ 3 (by decide))
  · rw [if_neg h0] at h ⊢
    obtain ⟨a, b⟩ := num2_one s h
    exact ⟨a, b, h0⟩
theorem ident_e0 (r : Rd) (h : r.ident.2.e = 0) : r.e = 0 := by
  unfold Rd.ident at h
  dsimp only at h
  split at h
  · exact absurd h (fail_e0 _ 3 (by decide))
  · exact num_e0 r 2 h
theorem ends_e0 (r : Rd) (h : r.ends = 0) : r.e = 0 ∧ r.s = [] := by
  unfold Rd.ends at h
  split at h
  · exact absurd h (by decide)
  · rename_i hx
    refine ⟨h, ?_⟩
    by_cases hs : r.s = []
    · exact hs
    · exact absurd (Or.inr ⟨h, hs⟩) hx
theorem pbEnd_e0 (r : Rd) (h : (pbEnd r).ends = 0) : r.e = 0 := raw_e0 r _ (ends_e0 _ h).1
theorem pb_one (f : Nat) (hf : f < 16) (s : List UInt8) (h : (pbParse f s).2 = 0) : pbFlags (pbParse f s).1 = f ∧ pbText (pbParse f s).1 = s := by
  unfold pbParse at h ⊢
  by_cases hE : pbE (f / 2 % 4) s = 0
  rotate_left
  · rw [if_neg hE] at h; exact absurd h hE
  rw [if_pos hE]
  dsimp only
  refine ⟨?_, ?_⟩
  · unfold pbFlags
    dsimp only
    by_cases h8 : f / 8 % 2 = 1
    · by_cases h1 : f % 2 = 1
      · simp only [h8, h1, decide_true, if_true]; omega
      · simp only [h8, h1, decide_true, decide_false, if_true, Bool.false_eq_true, if_false]; omega
    · by_cases h1 : f % 2 = 1
      · simp only [h8, h1, decide_true, decide_false, if_true, Bool.false_eq_true, if_false]; omega
      · simp only [h8, h1, decide_false, Bool.false_eq_true, if_false]; omega
  · unfold pbE at hE
    have h3 := pbEnd_e0 _ hE
    unfold pbRest at h3 ⊢
    have h2 := takeP_e0 _ 3 false h3
    unfold pbText pbId at *
    dsimp only
    by_cases hq : 0 < f / 2 % 4
    · simp only [if_pos hq] at h2 h3 ⊢
      have h1 := ident_e0 _ h2
      obtain ⟨e1, _⟩ := str_one s h1
      rw [rd_eta _ h1] at h2 h3 ⊢
      obtain ⟨e2, _⟩ := ident_one _ h2
      rw [rd_eta _ h2] at h3 ⊢
      obtain ⟨e3, _⟩ := take_one _ 3 false h3
      rw [propsB, ← e3, ← e2]
      exact e1.symm
    · simp only [if_neg hq] at h2 h3 ⊢
      obtain ⟨e1, _⟩ := str_one s h2
      rw [rd_eta _ h2] at h3 ⊢
      obtain ⟨e3, _⟩ := take_one _ 3 false h3
      rw [propsB, List.nil_append, ← e3]
      exact e1.symm
/-! ### Short answers -/
theorem ident_back (n : Nat) (h0 : n ≠ 0) (h : n < 65536) (t : List UInt8) : Rd.ident ⟨two n ++ t, 0⟩ = (n, ⟨t, 0⟩) := by
  unfold Rd.ident
  rw [two_back, Nat.mod_eq_of_lt h]
  dsimp only
  rw [if_neg h0]
theorem may0 (k : Int) (h4 : 4 ≤ k) (h7 : k ≤ 7) : mayC k 0 = true := by
  have : k = 4 ∨ k = 5 ∨ k = 6 ∨ k = 7 := by omega
  rcases this with rfl | rfl | rfl | rfl <;> decide
theorem short_none (k : Int) (h4 : 4 ≤ k) (h7 : k ≤ 7) (n : Nat) (h0 : n ≠ 0) (h : n < 65536) : akParse k (two n) = (⟨k, n, 0, []⟩, 0) := by
  have hi := ident_back n h0 h []
  rw [List.append_nil] at hi
  unfold akParse akE
  rw [if_neg (by omega), hi]
  dsimp only
  have hc : akCode ⟨[], 0⟩ = (0, ⟨[], 0⟩) := rfl
  have hm : akMay k (0, ⟨[], 0⟩) = ⟨[], 0⟩ := by unfold akMay; rw [if_pos (may0 k h4 h7)]
  rw [hc, hm]
  rfl
theorem short_code (k : Int) (h4 : 4 ≤ k) (h7 : k ≤ 7) (n : Nat) (h0 : n ≠ 0) (h : n < 65536) : akParse k (two n ++ [0]) = (⟨k, n, 0, []⟩, 0) := by
  unfold akParse akE
  rw [if_neg (by omega), ident_back n h0 h [0]]
  dsimp only
  have hc : akCode ⟨[0], 0⟩ = (0, ⟨[], 0⟩) := rfl
  have hm : akMay k (0, ⟨[], 0⟩) = ⟨[], 0⟩ := by unfold akMay; rw [if_pos (may0 k h4 h7)]
  rw [hc, hm]
  rfl
theorem short_props (k : Int) (h4 : 4 ≤ k) (h7 : k ≤ 7) (n : Nat) (h0 : n ≠ 0) (h : n < 65536) : akParse k (two n ++ [0, 0]) = (⟨k, n, 0, []⟩, 0) := by
  unfold akParse akE
  rw [if_neg (by omega), ident_back n h0 h [0, 0]]
  dsimp only
  have hc : akCode ⟨[0, 0], 0⟩ = (0, ⟨[0], 0⟩) := rfl
  have hm : akMay k (0, ⟨[0], 0⟩) = ⟨[0], 0⟩ := by unfold akMay; rw [if_pos (may0 k h4 h7)]
  rw [hc, hm]
  have hp : akProps k ⟨[0], 0⟩ = ([], ⟨[], 0⟩) := by
    unfold akProps
    rw [if_neg (by simp)]
    rfl
  rw [hp]
  rfl
/-! ### An identifier of 0 -/
theorem zero_ident (t : List UInt8) : Rd.ident ⟨two 0 ++ t, 0⟩ = (0, ⟨t, 3⟩) := by
  unfold Rd.ident
  rw [two_back]
  rfl
theorem zero_ack (k : Int) (h4 : 4 ≤ k) (h7 : k ≤ 7) : akParse k [0, 0] = (noAk, 3) := by
  have hi := zero_ident []
  rw [List.append_nil, show two 0 = [0, 0] from rfl] at hi
  unfold akParse akE
  rw [if_neg (by omega), hi]
  dsimp only
  have hc : akCode ⟨[], 3⟩ = (0, ⟨[], 3⟩) := rfl
  have hm : akMay k (0, ⟨[], 3⟩) = ⟨[], 3⟩ := by unfold akMay; rw [if_pos (may0 k h4 h7)]
  rw [hc, hm]
  rfl
theorem zero_pub (q : Nat) (h0 : 0 < q) (h3 : q < 3) (f : Nat) (hf : f / 2 % 4 = q) (t pay : List UInt8) (ht : t.length ≤ 65535) : pbParse f (dataB (lettersB t) ++ (two 0 ++ pay)) = (noPb, 3) := by
  have _ := h3
  have hr : pbE q (dataB (lettersB t) ++ (two 0 ++ pay)) = 3 := by
    unfold pbE pbRest pbId
    rw [str_lets t _ ht, if_pos h0]
    dsimp only
    rw [zero_ident, takeP_bad _ _ _ (show (3 : Int) ≠ 0 by decide), pbEnd, Rd.raw_bad _ _ (show (3 : Int) ≠ 0 by decide)]
    rfl
  unfold pbParse
  rw [hf, hr, if_neg (by decide)]
end Go.Proofs.Ythioageiebchlaa
