/- Slices of structs read as lists: what a slice reads as, what a step leaves of it, appends; no program is named here. No condition. -/
import Derived.Test.YtlhkgalmiajinaaBase
import Derived.Deep.Slices
import Derived.Laws.Slices
namespace Go.Proofs.Ytlhkgalmiajinaa
open Go.RowKit

theorem add_plain0 (g j : Nat) : (⟨g, 0, none⟩ : Addr).add j = ⟨g, j, none⟩ := by unfold Addr.add; split <;> simp_all
/-- v is a slice of n elements, whose cells are cs. -/
def View (w : World) (v : Value) (n : Nat) (cs : List Value) : Prop :=
  ∃ A c, v = .slice A n c ∧ (cs = [] ∨ ∃ b off, A = some ⟨b, off, none⟩ ∧ ∀ j u, cs[j]? = some u → w.cell? ⟨b, off + j, none⟩ = some u)
theorem View.fr {S : List Nat} {w w' : World} {v : Value} {n : Nat} {cs : List Value} (h : View w v n cs) (hf : Fr S w w') (hne : ∀ k, v.ownBlock = some k → k ∉ S) : View w' v n cs := by
  obtain ⟨A, c, rfl, h⟩ := h
  refine ⟨A, c, rfl, ?_⟩
  rcases h with h | ⟨b, off, rfl, hc⟩
  · exact Or.inl h
  · exact Or.inr ⟨b, off, rfl, fun j u hj => hf.cell (hc j u hj) (hne b rfl)⟩
theorem View.nil (w : World) : View w (.slice none 0 0) 0 [] := ⟨none, 0, rfl, Or.inl rfl⟩
theorem own_view {w : World} {base : Nat} {e : TypeId} {size n : Nat} {v : Value} {xs : List Value} (h : w.ownsRow base e size v n xs) : View w v n xs := by
  rcases h.2 with ⟨rfl, rfl⟩ | ⟨g, cap, cur, rfl, _⟩
  · exact ⟨none, 0, rfl, Or.inl (List.eq_nil_of_length_eq_zero (by simpa using h.1))⟩
  · refine ⟨_, cap, rfl, Or.inr ⟨g, 0, rfl, fun j u hj => ?_⟩⟩
    have := h.cells (g := g) rfl j u hj
    rw [add_plain0] at this
    rw [Nat.zero_add]; exact this
theorem flat_at {α : Type} (k : Nat) (enc : α → List Value) (hk : ∀ x, (enc x).length = k) : ∀ (l : List α) (i : Nat) (h : i < l.length) (j : Nat), j < k → (l.flatMap enc)[i * k + j]? = (enc l[i])[j]?
  | [], i, h, _, _ => absurd h (Nat.not_lt_zero _)
  | x :: l, 0, _, j, hj => by
    rw [List.flatMap_cons, List.getElem?_append_left (by rw [hk]; omega)]
    simp
  | x :: l, i + 1, h, j, hj => by
    have e : (i + 1) * k + j = k + (i * k + j) := by rw [Nat.add_mul]; omega
    rw [List.flatMap_cons, List.getElem?_append_right (by rw [hk, e]; omega), hk, e, show k + (i * k + j) - k = i * k + j from by omega]
    exact flat_at k enc hk l i (by simpa using h) j hj
theorem flat_len {α : Type} (k : Nat) (enc : α → List Value) (hk : ∀ x, (enc x).length = k) (l : List α) : (l.flatMap enc).length = l.length * k := by
  induction l with
  | nil => simp
  | cons x l ih => rw [List.flatMap_cons, List.length_append, ih, hk, List.length_cons, Nat.add_mul]; omega
theorem flat_snoc {α : Type} (enc : α → List Value) (l : List α) (x : α) : (l ++ [x]).flatMap enc = l.flatMap enc ++ enc x := by simp
/-- Where a slice's cells stand. -/
theorem View.at {α : Type} {w : World} {v : Value} {k : Nat} {enc : α → List Value} {l : List α} (h : View w v l.length (l.flatMap enc)) (hk : ∀ x, (enc x).length = k) (hk0 : 0 < k) (hl : 0 < l.length) :
    ∃ b off c, v = .slice (some ⟨b, off, none⟩) l.length c ∧ b < w.heap.size ∧ ∀ (i : Nat) (hi : i < l.length) j u, (enc l[i])[j]? = some u → w.cell? ⟨b, off + i * k + j, none⟩ = some u := by
  obtain ⟨A, c, rfl, h⟩ := h
  rcases h with h | ⟨b, off, rfl, hc⟩
  · have := flat_len k enc hk l
    rw [h] at this
    have := Nat.mul_pos hl hk0
    simp at *; omega
  · have key : ∀ (i : Nat) (hi : i < l.length) j u, (enc l[i])[j]? = some u → w.cell? ⟨b, off + i * k + j, none⟩ = some u := by
      intro i hi j u hj
      have hjk : j < k := by rw [← hk l[i]]; exact (List.getElem?_eq_some_iff.1 hj).1
      rw [Nat.add_assoc]
      exact hc _ _ ((flat_at k enc hk l i hi j hjk).trans hj)
    have hx : (enc l[0])[0]? = some ((enc l[0])[0]'(by rw [hk]; exact hk0)) := List.getElem?_eq_getElem _
    exact ⟨b, off, c, rfl, World.block_lt_of_cell? w _ (key 0 hl 0 _ hx), key⟩
theorem own_ne {w : World} {base : Nat} {e : TypeId} {size n : Nat} {v : Value} {xs : List Value} (h : w.ownsRow base e size v n xs) {g : Nat} {t : TypeId} {cs : Array Value} {fz : Nat × Nat} (hg : w.heap[g]? = some (.cells cs t fz)) (hne : e ≠ t) : v.ownBlock ≠ some g := by
  rcases h.2 with ⟨rfl, rfl⟩ | ⟨g', cap, cur, rfl, _, hh, _⟩
  · simp [Value.ownBlock]
  · intro e'
    simp [Value.ownBlock] at e'
    subst e'
    rw [hh] at hg; cases hg; exact hne rfl
theorem own_ge {w : World} {base : Nat} {e : TypeId} {size n : Nat} {v : Value} {xs : List Value} (h : w.ownsRow base e size v n xs) {g : Nat} (hg : w.heap.size ≤ g) : v.ownBlock ≠ some g :=
  fun e => absurd (h.lt g e).2 (by omega)
/-- What an append leaves: the row's own block alone may have turned. -/
theorem Fr.app {S : List Nat} {w w0 w1 : World} {base : Nat} {e : TypeId} {size n : Nat} {v : Value} {xs : List Value} (h : Fr S w w0) (hown : w0.ownsRow base e size v n xs) (hb : w.heap.size ≤ base) (hg : w0.grownBy w1 v.ownBlock) : Fr S w w1 :=
  h.grown hg fun k hk => Or.inl (Nat.le_trans hb (hown.lt k hk).1)
theorem grown_blk {w w1 : World} {row : Option Nat} (hg : w.grownBy w1 row) {g : Nat} {o : Obj} (h : w.heap[g]? = some o) (hne : row ≠ some g) : w1.heap[g]? = some o :=
  (hg.block g (blk_lt h) (Ne.symm hne)).trans h
theorem grown_own {w w1 : World} {row : Option Nat} (hg : w.grownBy w1 row) {base : Nat} {e : TypeId} {size n : Nat} {v : Value} {xs : List Value} (h : w.ownsRow base e size v n xs) (hne : v.ownBlock = none ∨ v.ownBlock ≠ row) : w1.ownsRow base e size v n xs := h.kept hg hne
theorem grown_fr {w w1 : World} {row : Option Nat} (hg : w.grownBy w1 row) : Fr row.toList w w1 :=
  ⟨hg.os, hg.tape, hg.output, hg.size, fun k hk hn => hg.block k hk (fun e => hn (by rw [← e]; simp))⟩
theorem own_base {w : World} {base base' : Nat} {e : TypeId} {size n : Nat} {v : Value} {xs : List Value} (h : w.ownsRow base e size v n xs) (hb : ∀ k, v.ownBlock = some k → base' ≤ k) : w.ownsRow base' e size v n xs := by
  refine ⟨h.1, ?_⟩
  rcases h.2 with h2 | ⟨g, cap, cur, rfl, _, r⟩
  · exact Or.inl h2
  · exact Or.inr ⟨g, cap, cur, rfl, hb g rfl, r⟩
theorem own_emp (w : World) (e : TypeId) (size base : Nat) (hb : base ≤ w.heap.size) : (w.alloc (.cells #[] e)).ownsRow base e size (.slice (some ⟨w.heap.size, 0, none⟩) 0 0) 0 [] :=
  World.ownsRow_made w #[] 0 hb (Nat.zero_le _) (by simp)
theorem news_at (w : World) (H : Nat) (hH : w.heap.size = H) (cs : List Value) (e : TypeId) : ∀ j u, cs[j]? = some u → (w.alloc (.cells cs.toArray e)).cell? ((⟨H, 0, none⟩ : Addr).add j) = some u := by
  intro j u hj
  subst hH
  rw [add_plain0, World.cell?_alloc_at _ _ _ _ rfl]
  simpa using hj
/-- Two steps of where a row stands. -/
theorem fresh_step {w w0 : World} {v hv v' : Value} (h : hv.ownBlock = v.ownBlock ∨ ∃ g, hv.ownBlock = some g ∧ w.heap.size ≤ g) (hf : Fresh w0 hv v') (hs : w.heap.size ≤ w0.heap.size) : v'.ownBlock = v.ownBlock ∨ ∃ g, v'.ownBlock = some g ∧ w.heap.size ≤ g := by
  rcases hf with hf | ⟨g, hg, hl⟩
  · rw [hf]; exact h
  · exact Or.inr ⟨g, hg, Nat.le_trans hs hl⟩
theorem Fr.row {S : List Nat} {w w0 w1 : World} {v hv : Value} (h : Fr S w w0) (hg : w0.grownBy w1 hv.ownBlock) (hb : hv.ownBlock = v.ownBlock ∨ ∃ g, hv.ownBlock = some g ∧ w.heap.size ≤ g) (hS : ∀ k, v.ownBlock = some k → k ∈ S) : Fr S w w1 :=
  h.grown hg fun k hk => by
    rcases hb with hb | ⟨g, hg', hl⟩
    · exact Or.inr (hS k (by rw [← hb]; exact hk))
    · rw [hg'] at hk; cases hk; exact Or.inl hl
theorem ex_mid (l : List UInt8) (k c : Nat) : (ByteArray.mk l.toArray).extract k (k + c) = ByteArray.mk ((l.drop k).take c).toArray := by
  rw [ByteArray.extract_mk]
  congr 1
  apply Array.ext'
  simp [List.take_drop]
theorem run_slice_str {P : Program} (t : TypeId) (ht : P.underlying t = some .string) (S : List UInt8) (k c : Nat) (h : k + c ≤ S.length) (W : World) : (Instr.slice t (.string ⟨S.toArray⟩) (some (.int .i64 (k : Int))) (some (.int .i64 ((k : Int) + (c : Int)))) none).run P W = .ok (.string ⟨((S.drop k).take c).toArray⟩) W := by
  have e1 : ∀ code y, k + c ≤ y → (Instr.sliceBound (.int .i64 ((k : Int) + (c : Int))) y code).run P W = .ok (k + c) W := fun code y hy => by
    have := run_sliceBound (P := P) W .i64 ((k : Int) + (c : Int)) y code (by omega) (by omega)
    rw [this]; congr 1
  simp [Instr.slice, run_underlying ht, Instr.sliceBounds, e1, h, go_sem]
  exact ex_mid S k c
end Go.Proofs.Ytlhkgalmiajinaa
