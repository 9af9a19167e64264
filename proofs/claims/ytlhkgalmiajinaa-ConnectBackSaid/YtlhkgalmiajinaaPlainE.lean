/- What connect.Parse tells where something is wrong: plain laws. No condition. -/
import Derived.Test.YtlhkgalmiajinaaPlainD
namespace Go.Proofs.Ytlhkgalmiajinaa
open Go.RowKit
set_option linter.unusedVariables false
set_option linter.unusedSimpArgs false

def wantE (e : Int) : Int := if e = 1 then 2 else e
theorem ends_bad (r : Rd) (h : r.e ≠ 0) : r.ends = wantE r.e := by
  unfold Rd.ends wantE
  by_cases h1 : r.e = 1
  · rw [if_pos (Or.inl h1), if_pos h1]
  · rw [if_neg (by rintro (q | ⟨q, _⟩); exact h1 q; exact h q), if_neg h1]
theorem str_bad (r : Rd) (h : r.e ≠ 0) : r.str.2 = r := by
  unfold Rd.str
  rw [data_bad r h]
  split
  · rfl
  · exact fail_bad r 2 h
theorem willP_bad (b : Bool) (r : Rd) (h : r.e ≠ 0) : (willP b r).2 = r := by
  unfold willP; split
  · rw [takeP_bad r 1 true h]
  · rfl
theorem willT_bad (b : Bool) (r : Rd) (h : r.e ≠ 0) : (willT b r).2 = r := by
  unfold willT; split
  · exact str_bad r h
  · rfl
theorem dataT_bad (b : Bool) (r : Rd) (h : r.e ≠ 0) : (dataT b r).2 = r := by
  unfold dataT; split
  · rw [data_bad r h]
  · rfl
theorem cnTail_bad (f : Nat) (r : Rd) (h : r.e ≠ 0) : (cnTail f r).r = r := by
  unfold cnTail
  dsimp only
  rw [num_bad r 2 h]
  dsimp only
  rw [takeP_bad r 1 false h]
  dsimp only
  have h1 := str_bad r h
  rw [h1]
  have h2 := willP_bad (decide (f / 4 % 2 = 1)) r h
  rw [h2]
  have h3 := willT_bad (decide (f / 4 % 2 = 1)) r h
  rw [h3]
  have h4 := dataT_bad (decide (f / 4 % 2 = 1)) r h
  rw [h4]
  have h5 := willT_bad (decide (f / 128 % 2 = 1)) r h
  rw [h5]
  exact dataT_bad (decide (f / 64 % 2 = 1)) r h
theorem cnFail_bad (f : Nat) (r : Rd) (h : r.e ≠ 0) : cnFail f r = r := by
  unfold cnFail; split
  · exact fail_bad r 2 h
  · rfl
theorem wantE_ne (e : Int) (h : e ≠ 0) : wantE e ≠ 0 := by unfold wantE; split <;> omega
theorem cnFrom_bad (r : Rd) (h : r.e ≠ 0) : cnFrom r = (noCn, wantE r.e) := by
  unfold cnFrom
  dsimp only
  rw [num_bad r 1 h]
  dsimp only
  rw [cnFail_bad 0 r h, cnTail_bad 0 r h, ends_bad r h, if_neg (wantE_ne _ h)]
theorem num_e1 (r : Rd) (n : Nat) (h : r.e = 0) (he : (r.num n).2.e ≠ 0) : (r.num n).2.e = 1 := by
  unfold Rd.num at he ⊢
  by_cases hl : n ≤ r.s.length
  · rw [Rd.raw_ok r n h hl] at he; exact absurd rfl he
  · rw [Rd.raw_end r n h (by omega)]
theorem cnFrom_flags (r : Rd) (h : r.e = 0) (hb : (r.num 1).2.e ≠ 0 ∨ cnBad (r.num 1).1 = true) : cnFrom r = (noCn, 2) := by
  unfold cnFrom
  dsimp only
  by_cases he : (r.num 1).2.e = 0
  · have hbad : cnBad (r.num 1).1 = true := by
      rcases hb with hb | hb
      · exact absurd he hb
      · exact hb
    have hf : cnFail (r.num 1).1 (r.num 1).2 = ⟨(r.num 1).2.s, 2⟩ := by rw [cnFail, if_pos hbad, Rd.fail, if_pos he]
    rw [hf, cnTail_bad _ _ (show (2 : Int) ≠ 0 by decide), ends_bad _ (show (2 : Int) ≠ 0 by decide)]
    rfl
  · have h1 := num_e1 r 1 h he
    rw [cnFail_bad _ _ he, cnTail_bad _ _ he, ends_bad _ he, h1]
    rfl
theorem cnFrom_good (r : Rd) (he : (r.num 1).2.e = 0) (hb : cnBad (r.num 1).1 = false) : cnFrom r = if (cnTail (r.num 1).1 (r.num 1).2).r.ends = 0 then ((cnTail (r.num 1).1 (r.num 1).2).c, 0) else (noCn, (cnTail (r.num 1).1 (r.num 1).2).r.ends) := by
  unfold cnFrom
  dsimp only
  rw [show cnFail (r.num 1).1 (r.num 1).2 = (r.num 1).2 from by rw [cnFail, hb]; rfl]
/-! ### A connack -/
theorem ckFrom_bad (f c : Nat) (r : Rd) (h : (ckFail f c r).e ≠ 0) : ckFrom f c r = (noCk, wantE (ckFail f c r).e) := by
  unfold ckFrom
  dsimp only
  rw [takeP_bad _ 2 false h]
  dsimp only
  have : ckProto f c (ckFail f c r) = ckFail f c r := by
    unfold ckProto
    rw [if_neg (fun q => h q.1)]
  rw [this, ends_bad _ h, if_neg (wantE_ne _ h)]
theorem num1_at (c : UInt8) (t : List UInt8) : Rd.num ⟨c :: t, 0⟩ 1 = (c.toNat, ⟨t, 0⟩) := num1_cons c t
theorem ck_short (s : List UInt8) (h : s.length < 2) : ckParse s = (noCk, 2) := by
  unfold ckParse
  dsimp only
  have key : ∀ (f : Nat) (r : Rd), r.e = 1 → ckFrom f 0 r = (noCk, 2) := by
    intro f r he
    have h1 : ckFail f 0 r = r := by
      unfold ckFail
      split
      · exact fail_bad r 2 (by omega)
      · rfl
    rw [ckFrom_bad f 0 r (by rw [h1]; omega), h1, he]; rfl
  match s, h with
  | [], _ =>
    have h1 : Rd.num ⟨[], 0⟩ 1 = (0, ⟨[], 1⟩) := num1_nil
    rw [h1]
    dsimp only
    rw [num_bad _ 1 (by decide)]
    exact key 0 ⟨[], 1⟩ rfl
  | [c], _ =>
    rw [num1_at]
    dsimp only
    rw [num1_nil]
    exact key c.toNat ⟨[], 1⟩ rfl
theorem ck_two (f c : UInt8) (t : List UInt8) : ckParse (f :: c :: t) = if 1 < f.toNat ∨ mayC 2 c.toNat = false then (noCk, 2) else
    (if (takeP ⟨t, 0⟩ 2 false).2.e = 0 ∧ f.toNat = 1 ∧ c.toNat ≠ 0 then (noCk, 3) else if (takeP ⟨t, 0⟩ 2 false).2.ends = 0 then (⟨decide (f.toNat = 1), c.toNat, (takeP ⟨t, 0⟩ 2 false).1⟩, 0) else (noCk, (takeP ⟨t, 0⟩ 2 false).2.ends)) := by
  unfold ckParse
  rw [num1_at]
  dsimp only
  rw [num1_at]
  dsimp only
  by_cases h : 1 < f.toNat ∨ mayC 2 c.toNat = false
  · rw [if_pos h]
    have hf : ckFail f.toNat c.toNat ⟨t, 0⟩ = ⟨t, 2⟩ := by
      rw [ckFail, if_pos]
      · rfl
      · rcases h with h | h
        · exact Or.inl h
        · exact Or.inr ⟨rfl, h⟩
    rw [ckFrom_bad _ _ _ (by rw [hf]; show (2 : Int) ≠ 0; decide), hf]; rfl
  · rw [if_neg h]
    have hf : ckFail f.toNat c.toNat ⟨t, 0⟩ = ⟨t, 0⟩ := by
      rw [ckFail, if_neg]
      rintro (q | ⟨_, q⟩)
      · exact h (Or.inl q)
      · exact h (Or.inr q)
    unfold ckFrom
    dsimp only
    rw [hf]
    by_cases hp : (takeP ⟨t, 0⟩ 2 false).2.e = 0 ∧ f.toNat = 1 ∧ c.toNat ≠ 0
    · rw [if_pos hp]
      have : ckProto f.toNat c.toNat (takeP ⟨t, 0⟩ 2 false).2 = ⟨(takeP ⟨t, 0⟩ 2 false).2.s, 3⟩ := by rw [ckProto, if_pos hp, Rd.fail, if_pos hp.1]
      rw [this, ends_bad _ (show (3 : Int) ≠ 0 by decide)]; rfl
    · rw [if_neg hp]
      have : ckProto f.toNat c.toNat (takeP ⟨t, 0⟩ 2 false).2 = (takeP ⟨t, 0⟩ 2 false).2 := by rw [ckProto, if_neg hp]
      rw [this]
end Go.Proofs.Ytlhkgalmiajinaa
