/- Blocks of any number of cells: all set at once; what each cell reads. No condition. -/
import Derived.Test.YthioageiebchlaaBase
import Derived.Laws.IdiomCopy
import Derived.Deep.MidRow
namespace Go.Proofs.Ythioageiebchlaa
open Go.RowKit
set_option linter.unusedVariables false
set_option linter.unusedSimpArgs false

/-- The cells of block b from i on are set to these. -/
def sets : List Value → World → Nat → Nat → World
  | [], w, _, _ => w
  | v :: vs, w, b, i => sets vs (w.setCell ⟨b, i, none⟩ v) b (i + 1)
theorem sets_aux (b : Nat) (t : TypeId) : ∀ (vs : List Value) (w : World) (i : Nat) (cs : Array Value), w.heap[b]? = some (.cells cs t (0, 0)) → i + vs.length ≤ cs.size →
    ∃ cs' : Array Value, (sets vs w b i).heap[b]? = some (.cells cs' t (0, 0)) ∧ cs'.size = cs.size ∧ ∀ j, cs'[j]? = if i ≤ j ∧ j < i + vs.length then vs[j - i]? else cs[j]? := by
  intro vs
  induction vs with
  | nil => intro w i cs h _; exact ⟨cs, h, rfl, fun j => by rw [if_neg (by rintro ⟨h1, h2⟩; simp at h2; omega)]⟩
  | cons v vs ih =>
    intro w i cs h hl
    rw [List.length_cons] at hl
    obtain ⟨cs', h1, h2, h3⟩ := ih (w.setCell ⟨b, i, none⟩ v) (i + 1) _ (blk_set h i v) (by simp; omega)
    refine ⟨cs', h1, by simpa using h2, fun j => ?_⟩
    rw [h3 j, List.length_cons]
    by_cases hj : j = i
    · subst hj
      rw [if_neg (by omega), if_pos (by omega), Array.getElem?_setIfInBounds_self_of_lt (by omega)]
      simp
    · by_cases hk : i + 1 ≤ j ∧ j < i + 1 + vs.length
      · rw [if_pos hk, if_pos (by omega), show j - i = (j - (i + 1)) + 1 from by omega]
        simp
      · rw [if_neg hk, if_neg (by omega), Array.getElem?_setIfInBounds_ne (by omega)]
theorem blks_set {w : World} {b : Nat} {t : TypeId} {cs : Array Value} (h : w.heap[b]? = some (.cells cs t (0, 0))) (vs : List Value) (hl : vs.length = cs.size) : (sets vs w b 0).heap[b]? = some (.cells vs.toArray t (0, 0)) := by
  obtain ⟨cs', h1, h2, h3⟩ := sets_aux b t vs w 0 cs h (by omega)
  rw [h1]
  congr 2
  apply Array.ext_getElem?
  intro j
  rw [h3 j]
  by_cases hj : j < vs.length
  · rw [if_pos (by omega)]; simp
  · rw [if_neg (by omega), Array.getElem?_eq_none (by omega), Array.getElem?_eq_none (by simp; omega)]
theorem frs_set {S : List Nat} {w : World} {b : Nat} (hb : w.heap.size ≤ b ∨ b ∈ S) : ∀ (vs : List Value) (w' : World) (i : Nat), Fr S w w' → Fr S w (sets vs w' b i) := by
  intro vs
  induction vs with
  | nil => intro w' i h; exact h
  | cons v vs ih => intro w' i h; exact ih _ _ (h.setCell hb v)
theorem owns_set {base : Nat} {e : TypeId} {size n : Nat} {v : Value} {xs : List Value} {b : Nat} (hne : some b ≠ v.ownBlock) : ∀ (vs : List Value) (w : World) (i : Nat), w.ownsRow base e size v n xs → (sets vs w b i).ownsRow base e size v n xs := by
  intro vs
  induction vs with
  | nil => intro w i h; exact h
  | cons u vs ih => intro w i h; exact ih _ _ (own_set h (p := ⟨b, i, none⟩) hne u)
theorem blks_far {g b : Nat} {o : Obj} (hne : g ≠ b) : ∀ (vs : List Value) (w : World) (i : Nat), w.heap[g]? = some o → (sets vs w b i).heap[g]? = some o := by
  intro vs
  induction vs with
  | nil => intro w i h; exact h
  | cons u vs ih => intro w i h; exact ih _ _ (blk_far h hne u)
theorem sets_fr (vs : List Value) (w : World) (b : Nat) : Fr [b] w (sets vs w b 0) := frs_set (Or.inr (by simp)) vs w 0 (Fr.refl _ _)
theorem sets_eq (vs : List Value) (w : World) (b i : Nat) : sets vs w b i = w.setCells b i vs := by
  induction vs generalizing w i with
  | nil => rfl
  | cons u vs ih => rw [sets, ih]; rfl
theorem run_sets {P : Program} {w : World} {b : Nat} {t : TypeId} {cs : Array Value} (h : w.heap[b]? = some (.cells cs t (0, 0))) (vs : List Value) (hl : vs.length = cs.size) (h1 : ∀ v ∈ vs, v.oneCell' = true) : (storeCells ⟨b, 0, none⟩ vs 0).run P w = .ok () (sets vs w b 0) := by
  rw [sets_eq]
  refine run_storeCells_cells b 0 vs 0 w (fun j hj => ?_) (fun j hj => blk_frozen h _) h1
  rw [blk_cell h]
  simp only [Nat.zero_add]
  rw [Array.getElem?_eq_getElem (by omega)]
  rfl
theorem sets_size (vs : List Value) (w : World) (b i : Nat) : (sets vs w b i).heap.size = w.heap.size := by
  induction vs generalizing w i with
  | nil => rfl
  | cons u vs ih => rw [sets, ih]; simp [World.setCell]
/-! Whole rows. -/
theorem fr_row {S : List Nat} {w w' : World} (h : Fr S w w') {g : Nat} (hg : w.heap.size ≤ g ∨ g ∈ S) (cs : Array Value) : Fr S w (w'.setRow g cs) := by
  refine ⟨by rw [setRow_os]; exact h.os, by rw [setRow_tape]; exact h.tape, by rw [setRow_output]; exact h.output, by rw [setRow_size]; exact h.size, fun k hk hn => ?_⟩
  have hne : k ≠ g := by
    rintro rfl
    rcases hg with hg | hg
    · omega
    · exact hn hg
  rw [setRow_other _ _ _ _ hne]
  exact h.block k hk hn
theorem wpList_mv {P : Program} {ops : Array Oper} {rest : List Oper} {o : Oper} {a : Act} {w : World} {Q : Exit → Act → World → Prop} (hg : o.guard = none) (x : Operand) (ho : o.op = .move x)
    (h : wpList P ops Q rest (a.put o.dst (a.eval x)) w) : wpList P ops Q (o :: rest) a w :=
  wpList_plain hg fun _ hK => by
    unfold Oper.wp execOp
    simp only [ho, Sem.run_pure]
    exact hK _ _ h
theorem range_blk {w : World} {b : Nat} {t : TypeId} {cs : List Value} {A : Array Value} (h : w.heap[b]? = some (.cells A t (0, 0))) (hA : A = cs.toArray) : w.rangeAt b 0 cs := by
  intro j v hv
  subst hA
  rw [Nat.zero_add, blk_cell h]
  simpa using hv
theorem blk5n_facts {w : World} {b : Nat} {t : TypeId} {v0 v1 v2 v3 v4 : Value} (h : w.heap[b]? = some (.cells #[v0, v1, v2, v3, v4] t (0, 0))) :
    (w.cell? ⟨b, 0, none⟩ = some v0 ∧ w.cell? ⟨b, 1, none⟩ = some v1 ∧ w.cell? ⟨b, 2, none⟩ = some v2 ∧ w.cell? ⟨b, 3, none⟩ = some v3 ∧ w.cell? ⟨b, 4, none⟩ = some v4) ∧
    (w.frozen? ⟨b, 0, none⟩ = false ∧ w.frozen? ⟨b, 1, none⟩ = false ∧ w.frozen? ⟨b, 2, none⟩ = false ∧ w.frozen? ⟨b, 3, none⟩ = false ∧ w.frozen? ⟨b, 4, none⟩ = false) ∧ b < w.heap.size :=
  ⟨⟨blk_cell h 0, blk_cell h 1, blk_cell h 2, blk_cell h 3, blk_cell h 4⟩, ⟨blk_frozen h 0, blk_frozen h 1, blk_frozen h 2, blk_frozen h 3, blk_frozen h 4⟩, blk_lt h⟩
theorem blk14n_facts {w : World} {b : Nat} {t : TypeId} {v0 v1 v2 v3 v4 v5 v6 v7 v8 v9 v10 v11 v12 v13 : Value} (h : w.heap[b]? = some (.cells #[v0, v1, v2, v3, v4, v5, v6, v7, v8, v9, v10, v11, v12, v13] t (0, 0))) :
    (w.cell? ⟨b, 0, none⟩ = some v0 ∧ w.cell? ⟨b, 1, none⟩ = some v1 ∧ w.cell? ⟨b, 2, none⟩ = some v2 ∧ w.cell? ⟨b, 3, none⟩ = some v3 ∧ w.cell? ⟨b, 4, none⟩ = some v4 ∧ w.cell? ⟨b, 5, none⟩ = some v5 ∧ w.cell? ⟨b, 6, none⟩ = some v6 ∧ w.cell? ⟨b, 7, none⟩ = some v7 ∧ w.cell? ⟨b, 8, none⟩ = some v8 ∧ w.cell? ⟨b, 9, none⟩ = some v9 ∧ w.cell? ⟨b, 10, none⟩ = some v10 ∧ w.cell? ⟨b, 11, none⟩ = some v11 ∧ w.cell? ⟨b, 12, none⟩ = some v12 ∧ w.cell? ⟨b, 13, none⟩ = some v13) ∧
    (w.frozen? ⟨b, 0, none⟩ = false ∧ w.frozen? ⟨b, 1, none⟩ = false ∧ w.frozen? ⟨b, 2, none⟩ = false ∧ w.frozen? ⟨b, 3, none⟩ = false ∧ w.frozen? ⟨b, 4, none⟩ = false ∧ w.frozen? ⟨b, 5, none⟩ = false ∧ w.frozen? ⟨b, 6, none⟩ = false ∧ w.frozen? ⟨b, 7, none⟩ = false ∧ w.frozen? ⟨b, 8, none⟩ = false ∧ w.frozen? ⟨b, 9, none⟩ = false ∧ w.frozen? ⟨b, 10, none⟩ = false ∧ w.frozen? ⟨b, 11, none⟩ = false ∧ w.frozen? ⟨b, 12, none⟩ = false ∧ w.frozen? ⟨b, 13, none⟩ = false) ∧ b < w.heap.size :=
  ⟨⟨blk_cell h 0, blk_cell h 1, blk_cell h 2, blk_cell h 3, blk_cell h 4, blk_cell h 5, blk_cell h 6, blk_cell h 7, blk_cell h 8, blk_cell h 9, blk_cell h 10, blk_cell h 11, blk_cell h 12, blk_cell h 13⟩, ⟨blk_frozen h 0, blk_frozen h 1, blk_frozen h 2, blk_frozen h 3, blk_frozen h 4, blk_frozen h 5, blk_frozen h 6, blk_frozen h 7, blk_frozen h 8, blk_frozen h 9, blk_frozen h 10, blk_frozen h 11, blk_frozen h 12, blk_frozen h 13⟩, blk_lt h⟩
end Go.Proofs.Ythioageiebchlaa
