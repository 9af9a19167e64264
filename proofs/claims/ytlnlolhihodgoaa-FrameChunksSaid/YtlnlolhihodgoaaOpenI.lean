/- An argument that is a slice of integers, opened to its cells. No condition. -/
import Derived.Test.YtlnlolhihodgoaaOpen
namespace Go.Proofs.Ytlnlolhihodgoaa
open Go.ChangeShapes Go.WideShapes Go.Deep Go.RowKit

def IntsAt (w : World) (A : Option Addr) (n : Nat) (f : Nat → Int) : Prop :=
  n = 0 ∨ ∃ b off, A = some ⟨b, off, none⟩ ∧ b < w.heap.size ∧ ∀ i, i < n → w.cell? ⟨b, off + i, none⟩ = some (.int .i64 (f i))
theorem open_islice {H : Type} {enc : TypeId × Value → H} {w : World} {base : Nat} {spare : Nat → Bool} {held : Bool} {a : Option Addr} {n c : Nat} {d : DataW H} {ps : List MemPlace} (h : DataW.Trod enc Try.prog w base spare held 22 (.slice a n c) d ps) :
    ∃ (A : Option Addr) (n' c' : Nat) (f : Nat → Int), Value.slice a n c = .slice A n' c' ∧ n' ≤ 9223372036854775807 ∧ IntsAt w A n' f ∧ ∀ i, i < n' → -9223372036854775808 ≤ f i ∧ f i ≤ 9223372036854775807 := by
  obtain ⟨fuel, hf⟩ := h
  rcases open_slice Try.underlying22 (cs := [.slice a n c]) (by simpa [Value.cells] using hf) with ⟨h0, _⟩ | ⟨a', len, cap, m, n', D, Pl, hcs, hb, hl, hm, hmm, hx, hi⟩
  · cases h0
    exact ⟨none, 0, 0, fun _ => 0, rfl, by decide, Or.inl rfl, fun i hi => absurd hi (Nat.not_lt_zero _)⟩
  · cases hcs
    unfold maxLen at hm
    have hlm : n ≤ m := by rw [hmm]; split <;> omega
    have hat : ∀ i, i < n → ∃ k : Int, w.cell? (a'.add (i * 1)) = some (.int .i64 k) ∧ (-9223372036854775808 ≤ k ∧ k ≤ 9223372036854775807) := by
      intro i hil
      obtain ⟨cs', hc, ht'⟩ := hi i (by omega)
      rw [show Try.prog.cellsOf 3 = 1 from by kernel_rfl] at hc
      obtain ⟨_, hcl, hat'⟩ := World.cells?_some hc
      have hcell := hat' 0 (by decide)
      match cs', hcl with
      | [u], _ =>
        obtain ⟨k, e0, _, hk⟩ := DataW.trod_int Try.underlying3 ht'
        simp only [List.cons.injEq, and_true] at e0
        subst e0
        refine ⟨k, ?_, wf_i64 hk⟩
        rw [add_add] at hcell
        simpa using hcell
    obtain ⟨f, hf⟩ := choose_lt hat
    refine ⟨some a', n, c, f, rfl, by omega, ?_, fun i hi => (hf i hi).2⟩
    by_cases hz : n = 0
    · exact Or.inl hz
    right
    obtain ⟨b, off, spot⟩ := a'
    have hspot : spot = none := by
      have := World.cell?_spot (hf 0 (by omega)).1
      simpa [Addr.add] using this
    subst hspot
    have key : ∀ i, i < n → w.cell? ⟨b, off + i, none⟩ = some (.int .i64 (f i)) := by
      intro i hi
      have := (hf i hi).1
      rw [Go.WideShapes.add_plain, Nat.mul_one] at this
      exact this
    exact ⟨b, off, rfl, World.block_lt_of_cell? w _ (key 0 (by omega)), key⟩
end Go.Proofs.Ytlnlolhihodgoaa
