/- Lengths and bounds of what is taken: plain laws. No condition. -/
import Derived.Test.YthioageiebchlaaPropF
import Derived.Test.YthioageiebchlaaPropG
import Derived.Test.YthioageiebchlaaPub
import Derived.Test.YthioageiebchlaaIn
namespace Go.Proofs.Ythioageiebchlaa
open Go.RowKit

theorem ident_left (r : Rd) : r.ident.2.s.length ≤ r.s.length := by
  have := r.raw_left 2
  have hs : r.ident.2.s = (r.num 2).2.s := by
    unfold Rd.ident
    dsimp only
    split
    · unfold Rd.fail; split <;> rfl
    · rfl
  rw [hs]; exact this
theorem raw_e (r : Rd) (n : Nat) (h : r.e ≠ 0) : (r.raw n).2 = r := by rw [Rd.raw_bad r n h]
theorem takeP_left (r : Rd) (kind : Int) (isWill : Bool) : (takeP r kind isWill).2.s.length ≤ r.s.length := by
  have h1 := var_left r
  have h2 := Rd.raw_left r.var.2 r.var.1
  have key : ∀ x, ((r.var.2.raw r.var.1).2.fail x).s = (r.var.2.raw r.var.1).2.s := fun x => by unfold Rd.fail; split <;> rfl
  unfold takeP
  split
  · dsimp only; omega
  · split
    · dsimp only; omega
    · dsimp only; rw [key]; omega
theorem propsGo_len (kind : Int) (isWill : Bool) : ∀ (m : Nat) (q : Rd) (l : List Pr), (propsGo kind isWill m q l).1.length ≤ l.length + m
  | 0, q, l => Nat.le_refl _
  | m + 1, q, l => by
    rw [propsGo]
    split
    · dsimp only; omega
    split
    · dsimp only; omega
    split
    · dsimp only; omega
    split
    · dsimp only; omega
    · have := propsGo_len kind isWill m (valR (ruleOf q.var.1) q.var.1 q.var.2).2 (l ++ [(valR (ruleOf q.var.1) q.var.1 q.var.2).1])
      rw [List.length_append, List.length_singleton] at this
      omega
theorem takeP_len (q : Rd) (kind : Int) (isWill : Bool) : (takeP q kind isWill).1.length ≤ q.s.length := by
  have h1 := var_left q
  have h2 := Rd.raw_le q.var.2 q.var.1
  unfold takeP
  split
  · simp
  · split
    · have := propsGo_len kind isWill (q.var.2.raw q.var.1).1.length ⟨(q.var.2.raw q.var.1).1, 0⟩ []
      dsimp only at this ⊢
      rw [List.length_nil] at this
      omega
    · simp
theorem data_len (r : Rd) : r.data.1.length ≤ r.s.length := Nat.le_trans (Rd.raw_le _ _) (Rd.raw_left _ 2)
theorem str_len (r : Rd) : r.str.1.length ≤ r.s.length := by
  unfold Rd.str
  split
  · exact data_len r
  · simp
theorem valR_ok (ru : Rule) (id : Int) (q : Rd) : (valR ru id q).1.n < 4294967296 ∧ (valR ru id q).1.s.length ≤ q.s.length ∧ (valR ru id q).1.t.length ≤ q.s.length := by
  have h1 := num_lt1 q
  have h2 := num_lt2 q
  have h4 := num_lt4 q
  have hv := var_lt32 q
  have hs := str_len q
  have hd := data_len q
  have h5 := Rd.str_left q
  have h6 := str_len q.str.2
  unfold valR
  split
  · exact ⟨by dsimp only; omega, by simp, by simp⟩
  split
  · exact ⟨by dsimp only; omega, by simp, by simp⟩
  split
  · exact ⟨by dsimp only; omega, by simp, by simp⟩
  split
  · exact ⟨by dsimp only; omega, by simp, by simp⟩
  split
  · exact ⟨by dsimp only; omega, hs, by simp⟩
  split
  · exact ⟨by dsimp only; omega, hd, by simp⟩
  · refine ⟨by dsimp only; omega, ?_, ?_⟩
    · unfold Rd.pair
      split
      · exact hs
      · simp
    · unfold Rd.pair
      split
      · exact Nat.le_trans h6 h5
      · simp
theorem propsGo_ok (kind : Int) (isWill : Bool) (B : Nat) : ∀ (m : Nat) (q : Rd) (l : List Pr), q.s.length ≤ B → (∀ x ∈ l, x.n < 4294967296 ∧ x.s.length ≤ B ∧ x.t.length ≤ B) → ∀ x ∈ (propsGo kind isWill m q l).1, x.n < 4294967296 ∧ x.s.length ≤ B ∧ x.t.length ≤ B
  | 0, q, l, _, h => h
  | m + 1, q, l, hq, h => by
    rw [propsGo]
    split
    · exact h
    split
    · exact h
    split
    · exact h
    split
    · exact h
    · have h1 := var_left q
      have h2 := valR_left (ruleOf q.var.1) q.var.1 q.var.2
      have h3 := valR_ok (ruleOf q.var.1) q.var.1 q.var.2
      refine propsGo_ok kind isWill B m _ _ (by omega) ?_
      intro x hx
      rcases List.mem_append.1 hx with hx | hx
      · exact h x hx
      · simp at hx
        subst hx
        omega
theorem takeP_ok (q : Rd) (kind : Int) (isWill : Bool) (hq : q.s.length ≤ 1000000) : ∀ x ∈ (takeP q kind isWill).1, x.n < 4294967296 ∧ x.s.length ≤ 9223372036854775807 ∧ x.t.length ≤ 9223372036854775807 := by
  have h1 := var_left q
  have h2 := Rd.raw_le q.var.2 q.var.1
  unfold takeP
  split
  · intro x hx; simp at hx
  · split
    · intro x hx
      have := propsGo_ok kind isWill 1000000 (q.var.2.raw q.var.1).1.length ⟨(q.var.2.raw q.var.1).1, 0⟩ [] (by show (q.var.2.raw q.var.1).1.length ≤ _; omega) (by intro y hy; simp at hy) x hx
      omega
    · intro x hx; simp at hx
theorem num_short (n : Nat) (s : List UInt8) (h : s.length < n) : (Rd.num ⟨s, 0⟩ n).2.e = 1 := by
  rw [Rd.num, Rd.raw_end _ _ rfl h]
theorem data_short (s : List UInt8) (hs : s.length ≤ 65535) (k : Nat) (hk : k < (dataB s).length) : Rd.data ⟨(dataB s).take k, 0⟩ = ([], ⟨(Rd.data ⟨(dataB s).take k, 0⟩).2.s, 1⟩) := by
  have hl : (s.take 65535) = s := List.take_of_length_le hs
  unfold dataB at hk ⊢
  rw [hl] at hk ⊢
  rw [List.length_append, two_len] at hk
  by_cases h2 : k < 2
  · have h1 := num_short 2 ((two s.length ++ s).take k) (by simp; omega)
    unfold Rd.data
    rw [Rd.raw_bad _ _ (by rw [h1]; decide)]
    have : ∀ q : Rd, q.e = 1 → q = ⟨q.s, 1⟩ := fun q h => by cases q; simp_all
    exact Prod.ext rfl (this _ h1)
  · have h1 : (two s.length ++ s).take k = two s.length ++ s.take (k - 2) := by
      rw [List.take_append, List.take_of_length_le (by rw [two_len]; omega), two_len]
    rw [h1]
    unfold Rd.data
    rw [two_back, Nat.mod_eq_of_lt (by omega : s.length < 65536), Rd.raw_end _ _ rfl (by simp; omega)]
end Go.Proofs.Ythioageiebchlaa
