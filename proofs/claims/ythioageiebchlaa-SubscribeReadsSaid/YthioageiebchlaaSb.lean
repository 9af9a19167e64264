/- The plain words of layer 8: subscribe, unsubscribe, their answers. No condition. -/
import Derived.Test.YthioageiebchlaaPropF
import Derived.Test.YthioageiebchlaaPropG
import Derived.Test.YthioageiebchlaaPub
import Derived.Test.YthioageiebchlaaLens
namespace Go.Proofs.Ythioageiebchlaa
open Go.RowKit

structure Sb where
  filter : List UInt8
  qos : Nat
  nl : Bool
  ap : Bool
  handling : Nat
structure Su where
  id : Nat
  props : List Pr
  subs : List Sb
structure Un where
  id : Nat
  props : List Pr
  filters : List (List UInt8)
structure Sa where
  kind : Int
  id : Nat
  props : List Pr
  codes : List UInt8
def noSu : Su := ⟨0, [], []⟩
def noUn : Un := ⟨0, [], []⟩
def noSa : Sa := ⟨0, 0, [], []⟩
def sbE (x : Sb) : List Value := [.string ⟨x.filter.toArray⟩, .int .u8 (x.qos : Int), .bool x.nl, .bool x.ap, .int .u8 (x.handling : Int)]
theorem sbE_len (x : Sb) : (sbE x).length = 5 := rfl
def strE (s : List UInt8) : List Value := [.string ⟨s.toArray⟩]
theorem strE_len (s : List UInt8) : (strE s).length = 1 := rfl
/-- A subscribe as a value; v, u: its properties, its filters. -/
def suC (s : Su) (v u : Value) : List Value := [.int .u32 (s.id : Int), v, u]
def unC (s : Un) (v u : Value) : List Value := [.int .u32 (s.id : Int), v, u]
def saC (a : Sa) (v : Value) : List Value := [.int .i64 a.kind, .int .u32 (a.id : Int), v, .string ⟨a.codes.toArray⟩]
def sbOpt (x : Sb) : Nat := x.qos % 4 + x.handling % 4 * 16 + (if x.nl = true then 4 else 0) + (if x.ap = true then 8 else 0)
def headB (id : Nat) (l : List Pr) : List UInt8 := two id ++ propsB l
def sbB (x : Sb) : List UInt8 := dataB x.filter ++ [b8 (sbOpt x)]
def subsB (l : List Sb) : List UInt8 := l.flatMap sbB
def filtersB (l : List (List UInt8)) : List UInt8 := l.flatMap dataB
def suText (s : Su) : List UInt8 := headB s.id s.props ++ subsB s.subs
def unText (u : Un) : List UInt8 := headB u.id u.props ++ filtersB u.filters
def saText (a : Sa) : List UInt8 := headB a.id a.props ++ a.codes
/-- What stands at the beginning: behind it there is something. -/
def Rd.more (r : Rd) : Rd := if r.s = [] then r.fail 3 else r
structure Bg where
  id : Nat
  props : List Pr
  r : Rd
def beginR (k : Int) (s : List UInt8) : Bg := ⟨(Rd.ident ⟨s, 0⟩).1, (takeP (Rd.ident ⟨s, 0⟩).2 k false).1, (takeP (Rd.ident ⟨s, 0⟩).2 k false).2.more⟩
def optFail (b : Nat) (r : Rd) : Rd := if 63 < b then r.fail 2 else if b % 4 = 3 ∨ b / 16 % 4 = 3 then r.fail 3 else r
def sbOf (f : List UInt8) (b : Nat) : Sb := ⟨f, b % 4, decide (b / 4 % 2 = 1), decide (b / 8 % 2 = 1), b / 16 % 4⟩
def sbTake (r : Rd) : Sb × Rd := (sbOf r.str.1 (r.str.2.num 1).1, optFail (r.str.2.num 1).1 (r.str.2.num 1).2)
def sbGo : Nat → Rd → List Sb → List Sb × Rd
  | 0, r, l => (l, r)
  | n + 1, r, l => if r.s = [] ∨ r.e ≠ 0 then (l, r) else sbGo n (sbTake r).2 (l ++ [(sbTake r).1])
def unGo : Nat → Rd → List (List UInt8) → List (List UInt8) × Rd
  | 0, r, l => (l, r)
  | n + 1, r, l => if r.s = [] ∨ r.e ≠ 0 then (l, r) else unGo n r.str.2 (l ++ [r.str.1])
def subsR (r : Rd) : List Sb × Rd := sbGo r.s.length r []
def filtersR (r : Rd) : List (List UInt8) × Rd := unGo r.s.length r []
def suParse (s : List UInt8) : Su × Int :=
  if (subsR (beginR 8 s).r).2.ends = 0 then (⟨(beginR 8 s).id, (beginR 8 s).props, (subsR (beginR 8 s).r).1⟩, 0) else (noSu, (subsR (beginR 8 s).r).2.ends)
def unParse (s : List UInt8) : Un × Int :=
  if (filtersR (beginR 10 s).r).2.ends = 0 then (⟨(beginR 10 s).id, (beginR 10 s).props, (filtersR (beginR 10 s).r).1⟩, 0) else (noUn, (filtersR (beginR 10 s).r).2.ends)
def saMay (k : Int) (q : List UInt8 × Rd) : Rd := if (q.1.all fun c => mayC k c.toNat) = true then q.2 else q.2.fail 2
def saRest (k : Int) (s : List UInt8) : List UInt8 × Rd := (beginR k s).r.raw (beginR k s).r.s.length
def saParse (k : Int) (s : List UInt8) : Sa × Int :=
  if k ≠ 9 ∧ k ≠ 11 then (noSa, 5)
  else if (saMay k (saRest k s)).ends = 0 then (⟨k, (beginR k s).id, (beginR k s).props, (saRest k s).1⟩, 0) else (noSa, (saMay k (saRest k s)).ends)
theorem optFail_s (b : Nat) (r : Rd) : (optFail b r).s = r.s := by
  unfold optFail Rd.fail
  repeat' split
  all_goals rfl
theorem more_s (r : Rd) : r.more.s = r.s := by
  unfold Rd.more Rd.fail
  repeat' split
  all_goals rfl
theorem str_bad' (r : Rd) (h : r.e ≠ 0) : r.str = ([], r) := by
  have hd := data_bad r h
  unfold Rd.str
  rw [hd]
  split
  · rfl
  · rw [fail_bad _ _ h]
theorem sbTake_left (r : Rd) : (sbTake r).2.s.length ≤ r.s.length := by
  unfold sbTake
  rw [optFail_s]
  exact Nat.le_trans (Rd.raw_left _ _) (Rd.str_left r)
theorem optFail_e (b : Nat) (r : Rd) (h : (optFail b r).e = 0) : r.e = 0 := by
  by_cases he : r.e = 0
  · exact he
  · unfold optFail at h
    rw [fail_bad _ _ he, fail_bad _ _ he] at h
    split at h
    · exact absurd h he
    · split at h <;> exact absurd h he
theorem sbTake_less (r : Rd) (h : (sbTake r).2.e = 0) : (sbTake r).2.s.length < r.s.length := by
  unfold sbTake at h ⊢
  have h1 := optFail_e _ _ h
  dsimp only at h1 ⊢
  rw [optFail_s]
  exact Nat.lt_of_lt_of_le (num_less _ h1) (Rd.str_left r)
theorem sbGo_stop (n : Nat) (r : Rd) (l : List Sb) (h : r.s = [] ∨ r.e ≠ 0) : sbGo n r l = (l, r) := by
  cases n with
  | zero => rfl
  | succ n => rw [sbGo, if_pos h]
theorem unGo_stop (n : Nat) (r : Rd) (l : List (List UInt8)) (h : r.s = [] ∨ r.e ≠ 0) : unGo n r l = (l, r) := by
  cases n with
  | zero => rfl
  | succ n => rw [unGo, if_pos h]
theorem data_e (r : Rd) (h : r.data.2.e = 0) : r.data.2.s.length < r.s.length := by
  have h1 : (r.num 2).2.e = 0 := by
    by_cases q : (r.num 2).2.e = 0
    · exact q
    · rw [Rd.data, Rd.raw_bad _ _ q] at h; exact absurd h q
  have h2 := raw_cons r 2 h1 (by decide)
  rcases h2 with h2 | h2
  · exact Nat.lt_of_le_of_lt (Rd.raw_left _ _) h2
  · exact absurd h2 id
theorem str_less (r : Rd) (h : r.str.2.e = 0) : r.str.2.s.length < r.s.length := by
  unfold Rd.str at h ⊢
  split
  · rename_i g; rw [if_pos g] at h; exact data_e r h
  · rename_i g
    rw [if_neg g] at h
    have : (r.data.2.fail 2).e ≠ 0 := by
      unfold Rd.fail
      split
      · show (2 : Int) ≠ 0; decide
      · assumption
    exact absurd h this
theorem sbGo_fuel : ∀ (n m : Nat) (r : Rd) (l : List Sb), r.s.length ≤ n → r.s.length ≤ m → sbGo n r l = sbGo m r l
  | 0, m, r, l, hn, _ => by
    have : r.s = [] := List.eq_nil_of_length_eq_zero (by omega)
    rw [sbGo_stop 0 r l (Or.inl this), sbGo_stop m r l (Or.inl this)]
  | n + 1, 0, r, l, _, hm => by
    have : r.s = [] := List.eq_nil_of_length_eq_zero (by omega)
    rw [sbGo_stop _ r l (Or.inl this), sbGo_stop _ r l (Or.inl this)]
  | n + 1, m + 1, r, l, hn, hm => by
    rw [sbGo, sbGo]
    split
    · rfl
    · rename_i hc
      by_cases he : (sbTake r).2.e = 0
      · have := sbTake_less r he
        exact sbGo_fuel n m _ _ (by omega) (by omega)
      · rw [sbGo_stop _ _ _ (Or.inr he), sbGo_stop _ _ _ (Or.inr he)]
theorem unGo_fuel : ∀ (n m : Nat) (r : Rd) (l : List (List UInt8)), r.s.length ≤ n → r.s.length ≤ m → unGo n r l = unGo m r l
  | 0, m, r, l, hn, _ => by
    have : r.s = [] := List.eq_nil_of_length_eq_zero (by omega)
    rw [unGo_stop 0 r l (Or.inl this), unGo_stop m r l (Or.inl this)]
  | n + 1, 0, r, l, _, hm => by
    have : r.s = [] := List.eq_nil_of_length_eq_zero (by omega)
    rw [unGo_stop _ r l (Or.inl this), unGo_stop _ r l (Or.inl this)]
  | n + 1, m + 1, r, l, hn, hm => by
    rw [unGo, unGo]
    split
    · rfl
    · rename_i hc
      by_cases he : r.str.2.e = 0
      · have := str_less r he
        exact unGo_fuel n m _ _ (by omega) (by omega)
      · rw [unGo_stop _ _ _ (Or.inr he), unGo_stop _ _ _ (Or.inr he)]
/-- What holds at the loop's head: of the rows R in all these are taken, r is left. -/
def SbL (R : List Sb × Rd) (n : Nat) (l : List Sb) (r : Rd) : Prop := r.s.length ≤ n ∧ (r.e = 0 → l.length + r.s.length ≤ n) ∧ l.length ≤ n + 1 ∧ sbGo r.s.length r l = R
theorem sbL_start (r : Rd) : SbL (subsR r) r.s.length [] r := ⟨Nat.le_refl _, fun _ => by simp, by simp, rfl⟩
theorem sbL_step {R : List Sb × Rd} {n : Nat} {l : List Sb} {r : Rd} (h : SbL R n l r) (hs : r.s ≠ []) (he : r.e = 0) : SbL R n (l ++ [(sbTake r).1]) (sbTake r).2 := by
  obtain ⟨h1, h2, h4, h3⟩ := h
  have hp := List.length_pos_iff.2 hs
  have h2' := h2 he
  have hl := sbTake_left r
  refine ⟨by omega, fun hq => ?_, by rw [List.length_append]; simp; omega, ?_⟩
  · have := sbTake_less r hq
    rw [List.length_append]; simp; omega
  · rw [← h3]
    obtain ⟨m, hm⟩ : ∃ m, r.s.length = m + 1 := ⟨r.s.length - 1, by omega⟩
    rw [hm, sbGo, if_neg (by simp [hs, he])]
    by_cases hq : (sbTake r).2.e = 0
    · have := sbTake_less r hq
      exact sbGo_fuel _ _ _ _ (Nat.le_refl _) (by omega)
    · rw [sbGo_stop _ _ _ (Or.inr hq), sbGo_stop _ _ _ (Or.inr hq)]
theorem sbL_end {R : List Sb × Rd} {n : Nat} {l : List Sb} {r : Rd} (h : SbL R n l r) (hs : r.s = [] ∨ r.e ≠ 0) : R = (l, r) := by
  rw [← h.2.2.2, sbGo_stop _ _ _ hs]
def UnL (R : List (List UInt8) × Rd) (n : Nat) (l : List (List UInt8)) (r : Rd) : Prop := r.s.length ≤ n ∧ (r.e = 0 → l.length + r.s.length ≤ n) ∧ l.length ≤ n + 1 ∧ unGo r.s.length r l = R
theorem unL_start (r : Rd) : UnL (filtersR r) r.s.length [] r := ⟨Nat.le_refl _, fun _ => by simp, by simp, rfl⟩
theorem unL_step {R : List (List UInt8) × Rd} {n : Nat} {l : List (List UInt8)} {r : Rd} (h : UnL R n l r) (hs : r.s ≠ []) (he : r.e = 0) : UnL R n (l ++ [r.str.1]) r.str.2 := by
  obtain ⟨h1, h2, h4, h3⟩ := h
  have hp := List.length_pos_iff.2 hs
  have h2' := h2 he
  have hl := Rd.str_left r
  refine ⟨by omega, fun hq => ?_, by rw [List.length_append]; simp; omega, ?_⟩
  · have := str_less r hq
    rw [List.length_append]; simp; omega
  · rw [← h3]
    obtain ⟨m, hm⟩ : ∃ m, r.s.length = m + 1 := ⟨r.s.length - 1, by omega⟩
    rw [hm, unGo, if_neg (by simp [hs, he])]
    by_cases hq : r.str.2.e = 0
    · have := str_less r hq
      exact unGo_fuel _ _ _ _ (Nat.le_refl _) (by omega)
    · rw [unGo_stop _ _ _ (Or.inr hq), unGo_stop _ _ _ (Or.inr hq)]
theorem unL_end {R : List (List UInt8) × Rd} {n : Nat} {l : List (List UInt8)} {r : Rd} (h : UnL R n l r) (hs : r.s = [] ∨ r.e ≠ 0) : R = (l, r) := by
  rw [← h.2.2.2, unGo_stop _ _ _ hs]
theorem begin_left (k : Int) (s : List UInt8) : (beginR k s).r.s.length ≤ s.length := by
  show ((takeP (Rd.ident ⟨s, 0⟩).2 k false).2.more).s.length ≤ _
  rw [more_s]
  exact Nat.le_trans (takeP_left _ _ _) (by
    show (Rd.ident ⟨s, 0⟩).2.s.length ≤ _
    have h1 : ((Rd.num ⟨s, 0⟩ 2).2).s.length ≤ s.length := Rd.raw_left _ _
    unfold Rd.ident Rd.fail
    repeat' split
    all_goals exact h1)
end Go.Proofs.Ythioageiebchlaa
