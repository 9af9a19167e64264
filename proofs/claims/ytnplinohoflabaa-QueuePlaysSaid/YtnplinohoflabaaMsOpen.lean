/- Messages handed in, as a list. No condition. -/
import Derived.Test.YtnplinohoflabaaMsF
import Derived.Test.YtnplinohoflabaaPropOpen
namespace Go.Proofs.Ytnplinohoflabaa
open Go.RowKit
set_option linter.unusedVariables false
set_option linter.unusedSimpArgs false

/-- Messages, and what their properties read as, in the world they are handed in. -/
def MsIn (w : World) (v : Value) (f : List (Ms × List Pr)) : Prop :=
  f.length ≤ 9223372036854775807 ∧ View w v f.length (f.flatMap fun p => msC p.1) ∧
  ∀ p ∈ f, View w (.slice p.1.A p.1.n p.1.c) p.2.length (p.2.flatMap prE) ∧ p.2.length ≤ 9223372036854775807 ∧ (∀ x ∈ p.2, x.n < 4294967296 ∧ x.s.length ≤ 9223372036854775807 ∧ x.t.length ≤ 9223372036854775807) ∧
    (0 ≤ p.1.q ∧ p.1.q < 256) ∧ (-9223372036854775808 ≤ p.1.at_ ∧ p.1.at_ ≤ 9223372036854775807) ∧ p.1.fr.length ≤ 9223372036854775807 ∧ p.1.tp.length ≤ 9223372036854775807 ∧ p.1.py.length ≤ 9223372036854775807
section
open Go.ChangeShapes Go.WideShapes Go.Deep
theorem open_slice1 {H : Type} {enc : TypeId × Value → H} {w : World} {base : Nat} {spare : Nat → Bool} {held : Bool} {m : Nat} {T e : TypeId} {u : Value} {y : DataW H × List MemPlace} (hT : Try.prog.underlying T = some (.slice e)) (h : DataW.trod enc Try.prog w base spare held m T [u] = some y) : ∃ a n c, u = .slice a n c := by
  rcases open_slice hT h with ⟨h0, _⟩ | ⟨a, len, cap, _, _, _, _, hcs, _⟩
  · exact ⟨none, 0, 0, by simpa using h0⟩
  · exact ⟨_, _, _, by simpa using hcs⟩
/-- The seven cells of one message. -/
theorem open_ms {H : Type} {enc : TypeId × Value → H} {w : World} {base : Nat} {spare : Nat → Bool} {held : Bool} {V : Nat → Value} {fs : Array Field} (hu : Try.prog.underlying 29 = some (.struct fs))
    (hV : ∀ (j : Nat) (f : Field), fs[j]? = some f → ∃ (m : Nat) (y : DataW H × List MemPlace), DataW.trod enc Try.prog w base spare held m f.type [V j] = some y) :
    ∃ p : Ms × List Pr, (∀ j, j < 7 → (msC p.1)[j]? = some (V j)) ∧ View w (.slice p.1.A p.1.n p.1.c) p.2.length (p.2.flatMap prE) ∧ p.2.length ≤ 9223372036854775807 ∧ (∀ x ∈ p.2, x.n < 4294967296 ∧ x.s.length ≤ 9223372036854775807 ∧ x.t.length ≤ 9223372036854775807) ∧
      (0 ≤ p.1.q ∧ p.1.q < 256) ∧ (-9223372036854775808 ≤ p.1.at_ ∧ p.1.at_ ≤ 9223372036854775807) ∧ p.1.fr.length ≤ 9223372036854775807 ∧ p.1.tp.length ≤ 9223372036854775807 ∧ p.1.py.length ≤ 9223372036854775807 := by
  rw [Try.underlying29] at hu
  cases hu
  obtain ⟨m0, y0, h0⟩ := hV 0 _ rfl
  obtain ⟨m1, y1, h1⟩ := hV 1 _ rfl
  obtain ⟨m2, y2, h2⟩ := hV 2 _ rfl
  obtain ⟨m3, y3, h3⟩ := hV 3 _ rfl
  obtain ⟨m4, y4, h4⟩ := hV 4 _ rfl
  obtain ⟨m5, y5, h5⟩ := hV 5 _ rfl
  obtain ⟨m6, y6, h6⟩ := hV 6 _ rfl
  obtain ⟨s0, e0, _, l0⟩ := DataW.trod_string Try.underlying9 h0
  obtain ⟨k1, e1, _, w1⟩ := DataW.trod_int Try.underlying3 h1
  obtain ⟨k2, e2, _, w2⟩ := DataW.trod_int Try.underlying5 h2
  obtain ⟨k3, e3, _⟩ := DataW.trod_bool Try.underlying4 h3
  obtain ⟨a, n, c, e4⟩ := open_slice1 Try.underlying27 h4
  obtain ⟨s5, e5, _, l5⟩ := DataW.trod_string Try.underlying9 h5
  obtain ⟨s6, e6, _, l6⟩ := DataW.trod_string Try.underlying9 h6
  rw [e4] at h4
  obtain ⟨A, n', c', ps, eq, hn, hl, hv, hok⟩ := open_PropT Try.underlying27 (⟨m4, by simpa [Value.cells] using h4⟩ : DataW.Trod enc Try.prog w base spare held 27 (.slice a n c) y4.1 y4.2)
  cases eq
  obtain ⟨f0, rfl, g0⟩ := str_list s0
  obtain ⟨f5, rfl, g5⟩ := str_list s5
  obtain ⟨f6, rfl, g6⟩ := str_list s6
  simp only [List.cons.injEq, and_true] at e0 e1 e2 e3 e5 e6
  unfold maxLen at l0 l5 l6
  have hq := wf_u8 w2
  have ha := wf_i64 w1
  refine ⟨(⟨f0, k1, k2, k3, a, n, c, f5, f6⟩, ps), ?_, by dsimp only; rw [← hn] at hv ⊢; exact hv, by dsimp only; omega, hok, hq, ha, by dsimp only; omega, by dsimp only; omega, by dsimp only; omega⟩
  intro j hj
  match j, hj with
  | 0, _ => simp [msC, e0]
  | 1, _ => simp [msC, e1]
  | 2, _ => simp [msC, e2]
  | 3, _ => simp [msC, e3]
  | 4, _ => simp [msC, e4]
  | 5, _ => simp [msC, e5]
  | 6, _ => simp [msC, e6]
theorem open_Message {H : Type} {enc : TypeId × Value → H} {w : World} {base : Nat} {spare : Nat → Bool} {held : Bool} {a : Option Addr} {n c : Nat} {d : DataW H} {ps : List MemPlace} (h : DataW.Trod enc Try.prog w base spare held 22 (.slice a n c) d ps) :
    ∃ (A : Option Addr) (n' c' : Nat) (f : List (Ms × List Pr)), Value.slice a n c = .slice A n' c' ∧ MsIn w (.slice A n' c') f := by
  obtain ⟨fuel, hf⟩ := h
  obtain ⟨A, n', c', V, hv, ⟨hc, hcm⟩, hA, hV⟩ := open_flat (v := .slice a n c) Try.underlying22 Try.underlying29 (by kernel_rfl) (by kernel_rfl) (by decide) (by simpa [Value.cells] using hf)
  have hch := fun i (hi : i < n') => open_ms (V := V i) Try.underlying29 (hV i hi)
  obtain ⟨f, hf⟩ := choose_lt hch
  unfold maxLen at hcm
  have hlen : ((List.range n').map f).length = n' := by simp
  have hk : ∀ p : Ms × List Pr, (msC p.1).length = 7 := fun p => msC_len p.1
  refine ⟨A, n', c', (List.range n').map f, hv, by omega, ?_, fun p hp => ?_⟩
  · rw [hlen]
    refine ⟨A, c', rfl, ?_⟩
    rcases hA with rfl | ⟨b, off, hAe, hcell⟩
    · exact Or.inl rfl
    · refine Or.inr ⟨b, off, hAe, fun j u hj => ?_⟩
      have hjl : j < n' * 7 := by
        have := (List.getElem?_eq_some_iff.1 hj).1
        rw [flat_len 7 _ hk, hlen] at this; exact this
      have hi : j / 7 < n' := by omega
      have hm : j % 7 < 7 := by omega
      rw [show j = j / 7 * 7 + j % 7 from by omega, flat_at 7 _ hk _ (j / 7) (by rw [hlen]; exact hi) (j % 7) hm] at hj
      have h1 := (hf (j / 7) hi).1 (j % 7) hm
      have hc4 : w.cell? ⟨b, off + (j / 7 * 7 + j % 7), none⟩ = some (V (j / 7) (j % 7)) := hcell (j / 7) hi (j % 7) hm
      rw [show off + (j / 7 * 7 + j % 7) = off + j from by omega] at hc4
      rw [hc4, ← hj, ← h1]
      simp
  · obtain ⟨i, hi, rfl⟩ := List.mem_map.1 hp
    exact (hf i (List.mem_range.1 hi)).2
end
end Go.Proofs.Ytnplinohoflabaa
