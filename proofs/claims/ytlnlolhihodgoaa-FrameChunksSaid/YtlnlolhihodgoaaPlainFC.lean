/- The plain law of CHUNKS. -/
import Derived.Test.YtlnlolhihodgoaaPlainF
namespace Go.Proofs.Ytlnlolhihodgoaa
open Go.RowKit

theorem varGo_app (t : List UInt8) (j : Nat) : ∀ (u v : Nat) (s : List UInt8), (Rd.varGo u v j ⟨s, 0⟩).2.e ≠ 1 → Rd.varGo u v j ⟨s ++ t, 0⟩ = ((Rd.varGo u v j ⟨s, 0⟩).1, ⟨(Rd.varGo u v j ⟨s, 0⟩).2.s ++ t, (Rd.varGo u v j ⟨s, 0⟩).2.e⟩) := by
  induction j with
  | zero =>
    intro u v s h
    cases s with
    | nil => rw [varGo_nil] at h; exact absurd rfl h
    | cons c s =>
      rw [List.cons_append, varGo_cons, varGo_cons]
      split
      · split <;> rfl
      · rfl
  | succ j ih =>
    intro u v s h
    cases s with
    | nil => rw [varGo_nil] at h; exact absurd rfl h
    | cons c s =>
      rw [varGo_cons] at h
      rw [List.cons_append, varGo_cons, varGo_cons]
      split
      · split <;> rfl
      · rename_i hc
        rw [if_neg hc] at h
        exact ih _ _ _ h
theorem var_app (s t : List UInt8) (h : (Rd.var ⟨s, 0⟩).2.e ≠ 1) : Rd.var ⟨s ++ t, 0⟩ = ((Rd.var ⟨s, 0⟩).1, ⟨(Rd.var ⟨s, 0⟩).2.s ++ t, (Rd.var ⟨s, 0⟩).2.e⟩) := varGo_app t 3 1 0 s h
theorem nextR_app (m : Int) (s t : List UInt8) (h : (nextR m s 0).e ≠ 1) : nextR m (s ++ t) 0 = ⟨(nextR m s 0).k, (nextR m s 0).f, (nextR m s 0).b, (nextR m s 0).e, if (nextR m s 0).e = 0 then (nextR m s 0).s ++ t else [], (nextR m s 0).x⟩ := by
  by_cases h0 : s = []
  · rw [nextR_one _ _ h0] at h; exact absurd rfl h
  obtain ⟨a, s', rfl⟩ := List.exists_cons_of_ne_nil h0
  by_cases hk : chk ((a.toNat / 16 : Nat) : Int) ((a.toNat % 16 : Nat) : Int) = true
  rotate_left
  · have hk' : chk ((a.toNat / 16 : Nat) : Int) ((a.toNat % 16 : Nat) : Int) = false := by simpa using hk
    rw [nextR_two m (a :: s') a.toNat (by simp) rfl hk', nextR_two m (a :: s' ++ t) a.toNat (by simp) rfl hk']
    rfl
  have hq0 : ∃ n q, Rd.var ⟨s', 0⟩ = (n, q) := ⟨_, _, rfl⟩
  obtain ⟨n, q, hq⟩ := hq0
  rw [nextR_go m (a :: s') a.toNat n q (by simp) rfl (chkE_ok _ _ hk) hq] at h ⊢
  by_cases q1 : q.e = 1
  · rw [if_pos q1] at h; exact absurd rfl h
  have hq2 : Rd.var ⟨s' ++ t, 0⟩ = (n, ⟨q.s ++ t, q.e⟩) := by
    have := var_app s' t (by rw [hq]; exact q1)
    rw [hq] at this; exact this
  rw [nextR_go m (a :: s' ++ t) a.toNat n ⟨q.s ++ t, q.e⟩ (by simp) rfl (chkE_ok _ _ hk) hq2]
  rw [if_neg q1] at h ⊢
  rw [if_neg (show ¬ (Rd.mk (q.s ++ t) q.e).e = 1 from q1)]
  by_cases q0 : q.e = 0
  · rw [if_neg (by simpa using q0)] at h ⊢
    rw [if_neg (show ¬ (Rd.mk (q.s ++ t) q.e).e ≠ 0 by simpa using q0)]
    by_cases hb : m < 1 + (var n).length + n
    · rw [if_pos hb, if_pos hb]; rfl
    rw [if_neg hb] at h ⊢
    rw [if_neg hb]
    by_cases hn : q.s.length < n
    · rw [if_pos hn] at h; exact absurd rfl h
    rw [if_neg hn]
    rw [if_neg (show ¬ (Rd.mk (q.s ++ t) q.e).s.length < n by simp; omega)]
    dsimp only
    rw [if_pos rfl, List.take_append_of_le_length (by omega), List.drop_append_of_le_length (by omega)]
  · rw [if_pos q0]
    rw [if_pos (show (Rd.mk (q.s ++ t) q.e).e ≠ 0 from q0)]
    simp [noF, q0]
def qR (m : Int) (n : Nat) (s : List UInt8) (l : List Fm) : List Fm × Int := ((refR m n s l).1, (refR m n s l).2.1)
theorem qR_fuel (m : Int) (n n' : Nat) (s : List UInt8) (l : List Fm) (h : s.length < n) (h' : s.length < n') : qR m n s l = qR m n' s l := by
  rw [qR, qR, refR_fuel m n n' s l h h']
theorem refR_app (m : Int) (t : List UInt8) : ∀ (n : Nat) (s : List UInt8) (l : List Fm), (s ++ t).length < n → qR m n (s ++ t) l = if (refR m n s l).2.1 = 1 then qR m n ((refR m n s l).2.2 ++ t) (refR m n s l).1 else ((refR m n s l).1, (refR m n s l).2.1)
  | 0, s, l, h => absurd h (Nat.not_lt_zero _)
  | n + 1, s, l, h => by
    have hst : (s ++ t).length = s.length + t.length := List.length_append
    rcases nextR_cases m s with ⟨h1, h2, h3⟩ | ⟨h1, h2, h3⟩ | ⟨h0, h1, h2, h3⟩
    · have ha := nextR_app m s t (by rw [h1]; decide)
      have e1 : refR m (n + 1) s l = refR m n (nextR m s 0).s (l ++ [(nextR m s 0).fm]) := refR_ok _ _ _ _ _ rfl h1
      have e2 : refR m (n + 1) (s ++ t) l = refR m n ((nextR m s 0).s ++ t) (l ++ [(nextR m s 0).fm]) := by
        rw [refR_ok _ _ _ _ _ ha h1]; dsimp only; rw [if_pos h1]; rfl
      have ih := refR_app m t n (nextR m s 0).s (l ++ [(nextR m s 0).fm]) (by rw [List.length_append]; omega)
      rw [qR, e2, e1]
      rw [qR] at ih
      rw [ih]
      have hle := refR_left m n (nextR m s 0).s (l ++ [(nextR m s 0).fm])
      split
      · exact qR_fuel _ _ _ _ _ (by rw [List.length_append]; omega) (by rw [List.length_append]; omega)
      · rfl
    · have e1 : refR m (n + 1) s l = (l, 1, s) := by rw [refR_err _ _ _ _ _ rfl (by rw [h1]; decide), h1]
      rw [e1]; rfl
    · have ha := nextR_app m s t h1
      have e1 : refR m (n + 1) s l = (l, (nextR m s 0).e, s) := refR_err _ _ _ _ _ rfl h0
      have e2 : refR m (n + 1) (s ++ t) l = (l, (nextR m s 0).e, s ++ t) := by
        rw [refR_err _ _ _ _ _ ha h0]
      rw [qR, e2, e1, if_neg h1]
theorem allR_bad (m : Int) (n : Nat) (s : List UInt8) (x : Int) (l : List Fm) (h : x ≠ 0) : allR m (n + 1) s x l = (l, x, s, x) := by
  rw [allR, nextR_bad _ _ _ h, if_pos (show (noF x s x).e ≠ 0 from h)]; rfl
def Inv (m : Int) (S : List UInt8) (k : Nat) (l : List Fm) (buf : List UInt8) (x : Int) : Prop :=
  ∀ t, (S.take k ++ t).length < 400 → qR m 400 (S.take k ++ t) [] = if x = 0 then qR m 400 (buf ++ t) l else (l, x)
theorem inv_start (m : Int) (S : List UInt8) : Inv m S 0 [] [] 0 := by intro t _; rw [if_pos rfl]; rfl
theorem chunk_step (m : Int) (S c : List UInt8) (k : Nat) (l : List Fm) (buf : List UInt8) (x : Int) (hI : Inv m S k l buf x) (hc : S.take (k + c.length) = S.take k ++ c) (hS : S.length < 400) (hk : k + c.length ≤ S.length) (hb : buf.length ≤ k) (A : List Fm × Int × List UInt8 × Int) (hA : allR m 400 (if x = 0 then buf ++ c else buf) x l = A) :
    Inv m S (k + c.length) A.1 A.2.2.1 A.2.2.2 ∧ A.2.2.1.length ≤ k + c.length ∧ A.1.length ≤ l.length + 400 ∧ qR m 400 (S.take k ++ c) [] = (A.1, A.2.1) := by
  have hlk : (S.take k).length = k := by rw [List.length_take]; omega
  by_cases hx : x = 0
  · subst hx
    rw [if_pos rfl, allR_refR m 400 400 (buf ++ c) l (by rw [List.length_append]; omega) (by rw [List.length_append]; omega)] at hA
    have hle := refR_left m 400 (buf ++ c) l
    have hcn := refR_cnt m 400 (buf ++ c) l
    have he := refR_e m 400 (buf ++ c) l
    have happ := fun t => refR_app m t 400 (buf ++ c) l
    have hQ := hI c (by rw [List.length_append, hlk]; omega)
    rw [if_pos rfl] at hQ
    replace hQ : qR m 400 (S.take k ++ c) [] = ((refR m 400 (buf ++ c) l).1, (refR m 400 (buf ++ c) l).2.1) := hQ
    rw [List.length_append] at hle
    subst hA
    generalize refR m 400 (buf ++ c) l = R at *
    refine ⟨?_, ?_, hcn, hQ⟩
    · intro t ht
      rw [hc] at ht ⊢
      simp only [List.length_append, hlk] at ht
      rw [List.append_assoc]
      have h1 := hI (c ++ t) (by simp only [List.length_append, hlk]; omega)
      rw [if_pos rfl, ← List.append_assoc buf c t, happ t (by simp only [List.length_append]; omega)] at h1
      rw [h1]
      by_cases h : R.2.1 = 1
      · simp only [endR, if_pos h]; rfl
      · simp only [endR, if_neg h]; rw [if_neg he]
    · simp only [endR]
      split
      · omega
      · simp
  · rw [if_neg hx, allR_bad m 399 _ _ _ hx] at hA
    subst hA
    refine ⟨?_, by show buf.length ≤ _; omega, by show l.length ≤ _; omega, ?_⟩
    · intro t ht
      rw [hc] at ht ⊢
      rw [List.append_assoc] at ht ⊢
      rw [hI _ ht, if_neg hx, if_neg hx]
    · rw [hI _ (by rw [List.length_append, hlk]; omega), if_neg hx]
end Go.Proofs.Ytlnlolhihodgoaa
