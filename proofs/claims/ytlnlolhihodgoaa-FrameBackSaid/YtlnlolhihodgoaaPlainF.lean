/- The plain laws of layer 5: packets out of bytes. -/
import Derived.Test.YtlnlolhihodgoaaFrameRef
namespace Go.Proofs.Ytlnlolhihodgoaa
open Go.RowKit

theorem nextR_cases (m : Int) (s : List UInt8) : ((nextR m s 0).e = 0 ∧ (nextR m s 0).x = 0 ∧ (nextR m s 0).s.length < s.length) ∨ ((nextR m s 0).e = 1 ∧ (nextR m s 0).s = s ∧ (nextR m s 0).x = 0) ∨ ((nextR m s 0).e ≠ 0 ∧ (nextR m s 0).e ≠ 1 ∧ (nextR m s 0).s = [] ∧ (nextR m s 0).x = (nextR m s 0).e) := by
  have h := varGo_left2 3 1 0 ⟨s.drop 1, 0⟩
  have h' : (Rd.var ⟨s.drop 1, 0⟩).2.s.length ≤ s.length - 1 := by rw [← List.length_drop]; exact h
  by_cases h0 : s = []
  · rw [nextR, if_neg (by simp), if_pos h0]; right; left; exact ⟨rfl, rfl, rfl⟩
  have hl := List.length_pos_iff.2 h0
  rw [nextR, if_neg (by simp), if_neg h0]
  split
  · right; right; exact ⟨by decide, by decide, rfl, rfl⟩
  split
  · right; left; exact ⟨rfl, rfl, rfl⟩
  split
  · right; right; rename_i h1 h2; exact ⟨h2, h1, rfl, rfl⟩
  split
  · right; right; exact ⟨by decide, by decide, rfl, rfl⟩
  split
  · right; left; exact ⟨rfl, rfl, rfl⟩
  · left; refine ⟨rfl, rfl, ?_⟩
    dsimp only
    rw [List.length_drop]; omega
/-- What 'all' comes to, by the reference's words. -/
def endR (R : List Fm × Int × List UInt8) : List Fm × Int × List UInt8 × Int := (R.1, R.2.1, if R.2.1 = 1 then R.2.2 else [], if R.2.1 = 1 then 0 else R.2.1)
theorem allR_refR (m : Int) : ∀ (n n' : Nat) (s : List UInt8) (l : List Fm), s.length < n → s.length < n' → allR m n s 0 l = endR (refR m n' s l)
  | 0, _, s, _, h, _ => absurd h (Nat.not_lt_zero _)
  | _ + 1, 0, s, _, _, h => absurd h (Nat.not_lt_zero _)
  | n + 1, n' + 1, s, l, h, h' => by
    rw [allR, refR]
    rcases nextR_cases m s with ⟨h1, h2, h3⟩ | ⟨h1, h2, h3⟩ | ⟨h0, h1, h2, h3⟩
    · rw [if_neg (by simp [h1]), if_neg (by simp [h1]), h2]
      exact allR_refR m n n' _ _ (by omega) (by omega)
    · rw [if_pos (by simp [h1]), if_pos (by simp [h1]), h1, h2, h3]; rfl
    · rw [if_pos h0, if_pos h0, h2, h3, endR, if_neg h1, if_neg h1]
theorem refR_fuel (m : Int) : ∀ (n n' : Nat) (s : List UInt8) (l : List Fm), s.length < n → s.length < n' → refR m n s l = refR m n' s l
  | 0, _, s, _, h, _ => absurd h (Nat.not_lt_zero _)
  | _ + 1, 0, s, _, _, h => absurd h (Nat.not_lt_zero _)
  | n + 1, n' + 1, s, l, h, h' => by
    rw [refR, refR]
    rcases nextR_cases m s with ⟨h1, h2, h3⟩ | ⟨h1, h2, h3⟩ | ⟨h0, h1, h2, h3⟩
    · rw [if_neg (by simp [h1]), if_neg (by simp [h1])]
      exact refR_fuel m n n' _ _ (by omega) (by omega)
    · rw [if_pos (by simp [h1]), if_pos (by simp [h1])]
    · rw [if_pos h0, if_pos h0]
theorem refR_e (m : Int) : ∀ (n : Nat) (s : List UInt8) (l : List Fm), (refR m n s l).2.1 ≠ 0
  | 0, _, _ => by simp [refR]
  | n + 1, s, l => by
    rw [refR]
    split
    · rename_i h; exact h
    · exact refR_e m n _ _
theorem refR_left (m : Int) : ∀ (n : Nat) (s : List UInt8) (l : List Fm), (refR m n s l).2.2.length ≤ s.length
  | 0, _, _ => by simp [refR]
  | n + 1, s, l => by
    rw [refR]
    split
    · exact Nat.le_refl _
    · exact Nat.le_trans (refR_left m n _ _) (nextR_len m s 0)
theorem refR_cnt (m : Int) : ∀ (n : Nat) (s : List UInt8) (l : List Fm), (refR m n s l).1.length ≤ l.length + n
  | 0, _, _ => by simp [refR]
  | n + 1, s, l => by
    rw [refR]
    split
    · exact Nat.le_add_right _ _
    · have := refR_cnt m n (nextR m s 0).s (l ++ [(nextR m s 0).fm])
      simp at this; omega
theorem nextR_bad (m : Int) (s : List UInt8) (x : Int) (h : x ≠ 0) : nextR m s x = noF x s x := by rw [nextR, if_pos h]
theorem nextR_head (c : Nat) (hc : c < 256) : nextR 10 [b8 c, 0] 0 = if chk ((c / 16 : Nat) : Int) ((c % 16 : Nat) : Int) = true then ⟨((c / 16 : Nat) : Int), ((c % 16 : Nat) : Int), [], 0, [], 0⟩ else noF 2 [] 2 := by
  have hb : ([b8 c, 0].getD 0 0).toNat = c := by simp [b8_toNat]; omega
  split
  · rename_i h
    rw [nextR_go 10 [b8 c, 0] c 0 ⟨[], 0⟩ (by simp) hb (chkE_ok _ _ h) (by rfl)]
    rfl
  · rename_i h
    exact nextR_two 10 _ c (by simp) hb (by simpa using h)
end Go.Proofs.Ytlnlolhihodgoaa
