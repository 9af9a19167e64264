/- Arguments that are slices of structs of one-cell fields, opened to their cells; a reading carried into a world in which the old blocks stand as they did. No condition. -/
import Derived.Test.YtlhkgalmiajinaaLaw
import Derived.Deep.Slices
import Derived.Deep.Fields
import Derived.ChangeSame
namespace Go.Proofs.Ytlhkgalmiajinaa
open Go.ChangeShapes Go.WideShapes Go.Deep Go.RowKit

section
variable {H : Type} {enc : TypeId × Value → H} {P : Program} {w : World} {base : Nat} {spare : Nat → Bool} {held : Bool}
/-- Each cell of each element, and that it reads by its field's type. -/
theorem open_flat {t e : TypeId} {fs : Array Field} {fuel : Nat} {v : Value} {x : DataW H × List MemPlace} (ht : P.underlying t = some (.slice e)) (he : P.underlying e = some (.struct fs))
    (hone : oneCellFields P fs = true) (hC : P.cellsOf e = fs.size) (hfs : 0 < fs.size) (h : DataW.trod enc P w base spare held fuel t [v] = some x) :
    ∃ (A : Option Addr) (n c : Nat) (V : Nat → Nat → Value), v = .slice A n c ∧ (n ≤ c ∧ c ≤ maxLen) ∧
      (n = 0 ∨ ∃ b off, A = some ⟨b, off, none⟩ ∧ ∀ i, i < n → ∀ j, j < fs.size → w.cell? ⟨b, off + (i * fs.size + j), none⟩ = some (V i j)) ∧
      ∀ i, i < n → ∀ (j : Nat) (f : Field), fs[j]? = some f → ∃ (m : Nat) (y : DataW H × List MemPlace), DataW.trod enc P w base spare held m f.type [V i j] = some y := by
  rcases open_slice ht h with ⟨h0, _⟩ | ⟨a, len, cap, m, n, D, Pl, hcs, hb, hl, hm, hmm, hx, hi⟩
  · cases h0
    exact ⟨none, 0, 0, fun _ _ => default, rfl, ⟨Nat.le_refl _, Nat.zero_le _⟩, Or.inl rfl, fun i hi => absurd hi (Nat.not_lt_zero _)⟩
  · cases hcs
    have hlm : len ≤ m := by rw [hmm]; split <;> omega
    have hat : ∀ i, i < len → ∀ j, j < fs.size → ∃ u, w.cell? (a.add (i * fs.size + j)) = some u ∧ ∀ f, fs[j]? = some f → ∃ (m' : Nat) (y : DataW H × List MemPlace), DataW.trod enc P w base spare held m' f.type [u] = some y := by
      intro i hil j hj
      obtain ⟨cs', hc, ht'⟩ := hi i (by omega)
      rw [hC] at hc
      obtain ⟨ys, n', hn', hy, hlen, hyl, hf⟩ := DataW.trod_struct he ht'
      obtain ⟨_, hcl, hat'⟩ := World.cells?_some hc
      have hcell := hat' j hj
      have hv : cs'[j]? = some (cs'[j]'(by omega)) := List.getElem?_eq_getElem (by omega)
      refine ⟨cs'[j]'(by omega), by rw [← add_add, hcell, hv], ?_⟩
      intro f hfj
      obtain ⟨ho, hk⟩ := hone_of hone j f hfj
      have h1 := hf j f hfj
      rw [ho, hk] at h1
      have hone' : (cs'.drop j).take 1 = [cs'[j]'(by omega)] := by
        rw [List.drop_eq_getElem_cons (by omega)]
        rfl
      rw [hone'] at h1
      have hys : ys[j]? = some (ys[j]'(by omega)) := List.getElem?_eq_getElem (by omega)
      exact ⟨_, _, h1.trans hys⟩
    refine ⟨some a, len, cap, fun i j => (w.cell? (a.add (i * fs.size + j))).getD default, rfl, ⟨hl, hm⟩, ?_, ?_⟩
    · by_cases hz : len = 0
      · exact Or.inl hz
      · right
        obtain ⟨b, off, spot⟩ := a
        have hspot : spot = none := by
          obtain ⟨u, hu, _⟩ := hat 0 (by omega) 0 hfs
          have := World.cell?_spot hu
          simpa [Addr.add] using this
        subst hspot
        refine ⟨b, off, rfl, fun i hil j hj => ?_⟩
        obtain ⟨u, hu, _⟩ := hat i hil j hj
        rw [← Go.WideShapes.add_plain, hu]
        dsimp only
        rw [hu]; rfl
    · intro i hil j f hfj
      have hj : j < fs.size := (Array.getElem?_eq_some_iff.1 hfj).1
      obtain ⟨u, hu, hr⟩ := hat i hil j hj
      dsimp only
      rw [hu]
      exact hr f hfj
end
end Go.Proofs.Ytlhkgalmiajinaa
