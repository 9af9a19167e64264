/- What prop.Take comes to: 'takeP'. Conditions: strings that may be. -/
import Derived.Test.YthioageiebchlaaPropE
import Derived.Test.YthioageiebchlaaIn
namespace Go.Proofs.Ythioageiebchlaa
open Go.RowKit

/-- The properties, one behind the other: those, and what is left, with the error. -/
def propsGo (kind : Int) (isWill : Bool) : Nat → Rd → List Pr → List Pr × Rd
  | 0, q, l => (l, q)
  | n + 1, q, l =>
    if q.s = [] ∨ q.e ≠ 0 then (l, q)
    else if q.var.2.e ≠ 0 then (l, q.var.2)
    else if mayB q.var.1 kind isWill = false then (l, ⟨q.var.2.s, 2⟩)
    else if (getR l q.var.1).2 = true ∧ manyB q.var.1 kind isWill = false then (l, ⟨q.var.2.s, 3⟩)
    else propsGo kind isWill n (valR (ruleOf q.var.1) q.var.1 q.var.2).2 (l ++ [(valR (ruleOf q.var.1) q.var.1 q.var.2).1])
def takeP (r : Rd) (kind : Int) (isWill : Bool) : List Pr × Rd :=
  if (r.var.2.raw r.var.1).2.e ≠ 0 then ([], (r.var.2.raw r.var.1).2)
  else if (propsGo kind isWill (r.var.2.raw r.var.1).1.length ⟨(r.var.2.raw r.var.1).1, 0⟩ []).2.e = 0 then ((propsGo kind isWill (r.var.2.raw r.var.1).1.length ⟨(r.var.2.raw r.var.1).1, 0⟩ []).1, (r.var.2.raw r.var.1).2)
  else ([], (r.var.2.raw r.var.1).2.fail (if (propsGo kind isWill (r.var.2.raw r.var.1).1.length ⟨(r.var.2.raw r.var.1).1, 0⟩ []).2.e = 1 then 2 else (propsGo kind isWill (r.var.2.raw r.var.1).1.length ⟨(r.var.2.raw r.var.1).1, 0⟩ []).2.e))
theorem raw_cons (q : Rd) (n : Nat) (h : (q.raw n).2.e = 0) (hn : 0 < n) : (q.raw n).2.s.length < q.s.length ∨ False := by
  unfold Rd.raw at h ⊢
  split
  · rename_i h1; rw [if_pos h1] at h; exact absurd h h1
  · rename_i h1
    rw [if_neg h1] at h
    split
    · rename_i h2; rw [if_pos h2] at h; exact absurd h (by simp)
    · left; simp; omega
theorem num_less (q : Rd) (h : (q.num 1).2.e = 0) : (q.num 1).2.s.length < q.s.length := (raw_cons q 1 h (by decide)).elim id False.elim
theorem varGo_less (j : Nat) : ∀ (u v : Nat) (r : Rd), (Rd.varGo u v j r).2.e = 0 → (Rd.varGo u v j r).2.s.length < r.s.length := by
  induction j with
  | zero =>
    intro u v r h
    rw [Rd.varGo] at h ⊢
    split
    · rename_i h1; rw [if_pos h1] at h; exact absurd h h1
    · rename_i h1
      have := num_less r (by simpa using h1)
      split
      · split <;> exact this
      · exact this
  | succ j ih =>
    intro u v r h
    rw [Rd.varGo] at h ⊢
    split
    · rename_i h1; rw [if_pos h1] at h; exact absurd h h1
    · rename_i h1
      have h0 := num_less r (by simpa using h1)
      rw [if_neg h1] at h
      split
      · split <;> exact h0
      · rename_i h2
        rw [if_neg h2] at h
        exact Nat.lt_trans (ih _ _ _ h) h0
theorem var_less (q : Rd) (h : q.var.2.e = 0) : q.var.2.s.length < q.s.length := varGo_less 3 1 0 q h
theorem var_left (q : Rd) : q.var.2.s.length ≤ q.s.length := varGo_left2 3 1 0 q
theorem data_left (q : Rd) : q.data.2.s.length ≤ q.s.length := Nat.le_trans (Rd.raw_left _ _) (Rd.raw_left _ _)
theorem pair_left (q : Rd) : q.pair.2.s.length ≤ q.s.length := by
  unfold Rd.pair
  split <;> exact Nat.le_trans (Rd.str_left _) (Rd.str_left _)
theorem chkR_s (ru : Rule) (n : Nat) (q : Rd) : (chkR ru n q).s = q.s := by unfold chkR; split <;> rfl
theorem valR_left (ru : Rule) (id : Int) (q : Rd) : (valR ru id q).2.s.length ≤ q.s.length := by
  unfold valR
  repeat' split
  all_goals dsimp only
  all_goals try rw [chkR_s]
  · exact Rd.raw_left _ _
  · exact Rd.raw_left _ _
  · exact Rd.raw_left _ _
  · exact var_left q
  · exact Rd.str_left q
  · exact data_left q
  · exact pair_left q
theorem valR_bad (ru : Rule) (id : Int) (q : Rd) (h : q.e ≠ 0) : (valR ru id q).2 = q := by
  have hn : ∀ n, q.num n = (0, q) := fun n => num_bad q n h
  have hc : ∀ n, chkR ru n q = q := fun n => if_neg (fun x => h x.1)
  have hs : q.str = ([], q) := by
    have hd := data_bad q h
    unfold Rd.str
    rw [hd]
    split
    · rfl
    · rw [fail_bad _ _ h]
  have hp : q.pair.2 = q := by
    unfold Rd.pair
    rw [hs]; dsimp only; rw [hs]; dsimp only
    rw [if_neg h]
  unfold valR
  rw [hn, hn, hn, var_bad q h, data_bad q h, hs, hp]
  dsimp only
  rw [hc]
  repeat' split
  all_goals rfl
theorem propsGo_stop (kind : Int) (isWill : Bool) (n : Nat) (q : Rd) (l : List Pr) (h : q.s = [] ∨ q.e ≠ 0) : propsGo kind isWill n q l = (l, q) := by
  cases n with
  | zero => rfl
  | succ n => rw [propsGo, if_pos h]
def sliceN : Value → Nat
  | .slice _ n _ => n
  | _ => 0
def PTakeTo (b : Nat) (R : List Pr × Rd) (w : World) (e : Ending) (w' : World) : Prop :=
  ∃ v', e = .returned v' ∧ w'.ownsRow w.heap.size 116 4 v' R.1.length (R.1.flatMap prE) ∧ (R.1 = [] → v' = .slice none 0 0) ∧ InAt w' b R.2 ∧ Fr [b] w w'
/-- What holds at the loop's head. -/
def PLoop (kind : Int) (isWill : Bool) (S : List UInt8) (l : List Pr) (q : Rd) : Prop :=
  q.s.length ≤ S.length ∧ (q.e = 0 → l.length + q.s.length ≤ S.length ∧ ∃ fuel, q.s.length ≤ fuel ∧ propsGo kind isWill fuel q l = propsGo kind isWill S.length ⟨S, 0⟩ []) ∧ (q.e ≠ 0 → l.length ≤ S.length + 1 ∧ (propsGo kind isWill S.length ⟨S, 0⟩ []).2.e = q.e)
theorem ploop_start (kind : Int) (isWill : Bool) (S : List UInt8) : PLoop kind isWill S [] ⟨S, 0⟩ :=
  ⟨Nat.le_refl _, fun _ => ⟨by simp, S.length, Nat.le_refl _, rfl⟩, fun h => absurd rfl h⟩
theorem ploop_step (kind : Int) (isWill : Bool) (S : List UInt8) (l : List Pr) (q : Rd) (h : PLoop kind isWill S l q) (he : q.e = 0) (hs : q.s ≠ []) :
    (q.var.2.e ≠ 0 → ∀ p, PLoop kind isWill S (l ++ [p]) q.var.2) ∧
    (q.var.2.e = 0 → mayB q.var.1 kind isWill = false → ∀ p, PLoop kind isWill S (l ++ [p]) ⟨q.var.2.s, 2⟩) ∧
    (q.var.2.e = 0 → mayB q.var.1 kind isWill = true → (getR l q.var.1).2 = true → manyB q.var.1 kind isWill = false → ∀ p, PLoop kind isWill S (l ++ [p]) ⟨q.var.2.s, 3⟩) ∧
    (q.var.2.e = 0 → mayB q.var.1 kind isWill = true → ((getR l q.var.1).2 = false ∨ manyB q.var.1 kind isWill = true) → PLoop kind isWill S (l ++ [(valR (ruleOf q.var.1) q.var.1 q.var.2).1]) (valR (ruleOf q.var.1) q.var.1 q.var.2).2) := by
  obtain ⟨h0, h1, _⟩ := h
  obtain ⟨h2, fuel, h3, h4⟩ := h1 he
  have hsl := List.length_pos_iff.2 hs
  obtain ⟨f, rfl⟩ : ∃ f, fuel = f + 1 := ⟨fuel - 1, by omega⟩
  have hvl := var_left q
  rw [propsGo, if_neg (by rintro (h | h); exact hs h; exact h he)] at h4
  refine ⟨fun e1 p => ?_, fun e1 e2 p => ?_, fun e1 e2 e3 e4 p => ?_, fun e1 e2 e3 => ?_⟩
  · rw [if_pos e1] at h4
    exact ⟨by omega, fun h => absurd h e1, fun _ => ⟨by simp; omega, by rw [← h4]⟩⟩
  · rw [if_neg (by simpa using e1), if_pos e2] at h4
    exact ⟨by show q.var.2.s.length ≤ _; omega, fun h => absurd h (by show ¬ (2 : Int) = 0; decide), fun _ => ⟨by simp; omega, by rw [← h4]⟩⟩
  · rw [if_neg (by simpa using e1), if_neg (by simp [e2]), if_pos ⟨e3, e4⟩] at h4
    exact ⟨by show q.var.2.s.length ≤ _; omega, fun h => absurd h (by show ¬ (3 : Int) = 0; decide), fun _ => ⟨by simp; omega, by rw [← h4]⟩⟩
  · have hl := var_less q e1
    have hr := valR_left (ruleOf q.var.1) q.var.1 q.var.2
    rw [if_neg (by simpa using e1), if_neg (by simp [e2]), if_neg (by rintro ⟨a, c⟩; rcases e3 with e3 | e3 <;> simp_all)] at h4
    refine ⟨by omega, fun _ => ⟨by simp; omega, f, by omega, h4⟩, fun hne => ⟨by simp; omega, ?_⟩⟩
    rw [← h4, propsGo_stop _ _ _ _ _ (Or.inr hne)]
end Go.Proofs.Ythioageiebchlaa
