/- Plain laws of a queue as a list. No program is named here. No condition. -/
import Derived.Test.YtnplinohoflabaaQueW
namespace Go.Proofs.Ytnplinohoflabaa
set_option linter.unusedVariables false
set_option linter.unusedSimpArgs false

theorem pushG_len {α : Type} (lt : α → Bool) (l : List α) (x : α) (most : Nat) (h : l.length ≤ most) : (pushG lt l x most).1.length ≤ most ∧ (pushG lt l x most).1.length ≤ l.length + 1 ∧ l.length ≤ (pushG lt l x most).1.length := by
  unfold pushG
  split
  · simp; omega
  · cases hf : l.findIdx? lt with
    | none => dsimp only; omega
    | some i =>
      have hi := (List.findIdx?_eq_some_iff_getElem.1 hf).1
      dsimp only
      split
      · dsimp only; omega
      · simp only [List.length_append, List.length_eraseIdx_of_lt hi, List.length_cons, List.length_nil]; omega
theorem erase_split {α : Type} (l : List α) (i : Nat) (hi : i < l.length) : l = l.take i ++ l[i] :: l.drop (i + 1) := by
  rw [List.getElem_cons_drop, List.take_append_drop]
theorem heavyN_app (l m : List Ms) : heavyN (l ++ m) = heavyN l + heavyN m := by simp [heavyN]
theorem push_heavy (L : List Ms) (x : Ms) (most : Nat) : heavyN L ≤ heavyN (pushG ltMs L x most).1 := by
  unfold pushG
  split
  · rw [heavyN_app]; omega
  · cases hf : L.findIdx? ltMs with
    | none => exact Nat.le_refl _
    | some i =>
      obtain ⟨hi, hl, _⟩ := List.findIdx?_eq_some_iff_getElem.1 hf
      dsimp only
      split
      · exact Nat.le_refl _
      · have e := erase_split L i hi
        have h0 : heavyN [L[i]] = 0 := by simp [heavyN, hl]
        have : heavyN L = heavyN (L.take i) + (heavyN [L[i]] + heavyN (L.drop (i + 1))) := by
          rw [← heavyN_app, ← heavyN_app]; exact congrArg heavyN e
        rw [heavyN_app, List.eraseIdx_eq_take_drop_succ, heavyN_app]
        omega
theorem push_drop (L : List Ms) (x y : Ms) (most : Nat) (h : (pushG ltMs L x most).2 = some y) (hy : ltMs y = false) : most ≤ heavyN L := by
  unfold pushG at h
  split at h
  · cases h
  · rename_i hm
    cases hf : L.findIdx? ltMs with
    | none =>
      have hall := List.findIdx?_eq_none_iff.1 hf
      have : heavyN L = L.length := by
        unfold heavyN
        rw [List.filter_eq_self.2 (fun a ha => by rw [hall a ha]; rfl)]
      omega
    | some i =>
      obtain ⟨hi, hl, _⟩ := List.findIdx?_eq_some_iff_getElem.1 hf
      rw [hf] at h
      dsimp only at h
      split at h
      · rename_i hx
        injection h with h
        subst h
        rw [hx] at hy; cases hy
      · rw [List.getElem?_eq_getElem hi] at h
        injection h with h
        subst h
        rw [hl] at hy; cases hy
end Go.Proofs.Ytnplinohoflabaa
