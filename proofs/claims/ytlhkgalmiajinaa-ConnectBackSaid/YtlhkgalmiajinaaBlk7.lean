/- Blocks of seven cells. No condition. -/
import Derived.Test.YtlhkgalmiajinaaBase
namespace Go.Proofs.Ytlhkgalmiajinaa
open Go.RowKit
set_option linter.unusedVariables false
set_option linter.unusedSimpArgs false

theorem blk7_facts {w : World} {b : Nat} {t : TypeId} {v0 v1 v2 v3 v4 v5 v6 : Value} (h : w.heap[b]? = some (.cells #[v0, v1, v2, v3, v4, v5, v6] t (0, 0))) :
    (w.cell? ⟨b, 0, none⟩ = some v0 ∧ w.cell? ⟨b, 1, none⟩ = some v1 ∧ w.cell? ⟨b, 2, none⟩ = some v2 ∧ w.cell? ⟨b, 3, none⟩ = some v3 ∧ w.cell? ⟨b, 4, none⟩ = some v4 ∧ w.cell? ⟨b, 5, none⟩ = some v5 ∧ w.cell? ⟨b, 6, none⟩ = some v6) ∧
    (w.frozen? ⟨b, 0, none⟩ = false ∧ w.frozen? ⟨b, 1, none⟩ = false ∧ w.frozen? ⟨b, 2, none⟩ = false ∧ w.frozen? ⟨b, 3, none⟩ = false ∧ w.frozen? ⟨b, 4, none⟩ = false ∧ w.frozen? ⟨b, 5, none⟩ = false ∧ w.frozen? ⟨b, 6, none⟩ = false) ∧ b < w.heap.size :=
  ⟨⟨blk_cell h 0, blk_cell h 1, blk_cell h 2, blk_cell h 3, blk_cell h 4, blk_cell h 5, blk_cell h 6⟩, ⟨blk_frozen h 0, blk_frozen h 1, blk_frozen h 2, blk_frozen h 3, blk_frozen h 4, blk_frozen h 5, blk_frozen h 6⟩, blk_lt h⟩
def set7 (w : World) (b : Nat) (v0 v1 v2 v3 v4 v5 v6 : Value) : World := ((((((w.setCell ⟨b, 0, none⟩ v0).setCell ⟨b, 1, none⟩ v1).setCell ⟨b, 2, none⟩ v2).setCell ⟨b, 3, none⟩ v3).setCell ⟨b, 4, none⟩ v4).setCell ⟨b, 5, none⟩ v5).setCell ⟨b, 6, none⟩ v6
theorem blk7_set {w : World} {b : Nat} {t : TypeId} {v0 v1 v2 v3 v4 v5 v6 : Value} (h : w.heap[b]? = some (.cells #[v0, v1, v2, v3, v4, v5, v6] t (0, 0))) (x0 x1 x2 x3 x4 x5 x6 : Value) : (set7 w b x0 x1 x2 x3 x4 x5 x6).heap[b]? = some (.cells #[x0, x1, x2, x3, x4, x5, x6] t (0, 0)) :=
  have a0 : (w.setCell ⟨b, 0, none⟩ x0).heap[b]? = some (.cells #[x0, v1, v2, v3, v4, v5, v6] t (0, 0)) := blk_set h 0 x0
  have a1 : ((w.setCell ⟨b, 0, none⟩ x0).setCell ⟨b, 1, none⟩ x1).heap[b]? = some (.cells #[x0, x1, v2, v3, v4, v5, v6] t (0, 0)) := blk_set a0 1 x1
  have a2 := blk_set a1 2 x2
  have a3 := blk_set a2 3 x3
  have a4 := blk_set a3 4 x4
  have a5 := blk_set a4 5 x5
  have a6 := blk_set a5 6 x6
  by simpa [set7] using a6
theorem fr7_set {S : List Nat} {w w' : World} (h : Fr S w w') {b : Nat} (hb : w.heap.size ≤ b) (x0 x1 x2 x3 x4 x5 x6 : Value) : Fr S w (set7 w' b x0 x1 x2 x3 x4 x5 x6) :=
  ((((((h.setCell (Or.inl hb) _).setCell (Or.inl hb) _).setCell (Or.inl hb) _).setCell (Or.inl hb) _).setCell (Or.inl hb) _).setCell (Or.inl hb) _).setCell (Or.inl hb) _
theorem own_set7 {w : World} {base : Nat} {e : TypeId} {size n : Nat} {v : Value} {xs : List Value} (h : w.ownsRow base e size v n xs) {b : Nat} (hne : some b ≠ v.ownBlock) (x0 x1 x2 x3 x4 x5 x6 : Value) : (set7 w b x0 x1 x2 x3 x4 x5 x6).ownsRow base e size v n xs :=
  have a0 := own_set h (p := ⟨b, 0, none⟩) hne x0
  have a1 := own_set a0 (p := ⟨b, 1, none⟩) hne x1
  have a2 := own_set a1 (p := ⟨b, 2, none⟩) hne x2
  have a3 := own_set a2 (p := ⟨b, 3, none⟩) hne x3
  have a4 := own_set a3 (p := ⟨b, 4, none⟩) hne x4
  have a5 := own_set a4 (p := ⟨b, 5, none⟩) hne x5
  own_set a5 (p := ⟨b, 6, none⟩) hne x6
theorem set7_fr (w : World) (b : Nat) (x0 x1 x2 x3 x4 x5 x6 : Value) : Fr [b] w (set7 w b x0 x1 x2 x3 x4 x5 x6) :=
  (((((((Fr.refl [b] w).setCell (Or.inr (by simp)) _).setCell (Or.inr (by simp)) _).setCell (Or.inr (by simp)) _).setCell (Or.inr (by simp)) _).setCell (Or.inr (by simp)) _).setCell (Or.inr (by simp)) _).setCell (Or.inr (by simp)) _
end Go.Proofs.Ytlhkgalmiajinaa
