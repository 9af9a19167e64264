/- Plain laws of the two queues side by side; blocks of nine cells. No condition. -/
import Derived.Test.YtnplinohoflabaaQueK
import Derived.Test.YtnplinohoflabaaQueP
import Derived.Test.YtnplinohoflabaaQueueExpires
import Derived.Test.YtnplinohoflabaaActOpen
namespace Go.Proofs.Ytnplinohoflabaa
open Go.RowKit
set_option linter.unusedSimpArgs false
set_option linter.unusedVariables false

theorem findIdx_map {α β : Type} (f : α → β) (lt : β → Bool) (l : List α) : (l.map f).findIdx? lt = l.findIdx? (fun x => lt (f x)) := by
  induction l with
  | nil => rfl
  | cons x l ih => simp only [List.map_cons, List.findIdx?_cons, ih]
theorem eraseIdx_map {α β : Type} (f : α → β) (l : List α) (i : Nat) : (l.map f).eraseIdx i = (l.eraseIdx i).map f := by
  rw [List.eraseIdx_eq_take_drop_succ, List.eraseIdx_eq_take_drop_succ, List.map_append, List.map_take, List.map_drop]
theorem pushG_map {α β : Type} (f : α → β) (lt : β → Bool) (lt' : α → Bool) (h : ∀ x, lt' x = lt (f x)) (l : List α) (x : α) (most : Nat) : pushG lt (l.map f) (f x) most = ((pushG lt' l x most).1.map f, (pushG lt' l x most).2.map f) := by
  obtain rfl : lt' = fun x => lt (f x) := funext h
  unfold pushG
  rw [List.length_map, findIdx_map]
  split
  · simp
  · cases hf : l.findIdx? (fun x => lt (f x)) with
    | none => rfl
    | some i =>
      dsimp only
      split
      · rfl
      · simp [eraseIdx_map]
theorem pushG_mem {α : Type} (lt : α → Bool) (l : List α) (x : α) (most : Nat) : (∀ y ∈ (pushG lt l x most).1, y ∈ l ∨ y = x) ∧ ∀ y, (pushG lt l x most).2 = some y → y ∈ l ∨ y = x := by
  have app : ∀ m : List α, m.Sublist l → ∀ y ∈ m ++ [x], y ∈ l ∨ y = x := fun m hm y hy => by
    rcases List.mem_append.1 hy with hy | hy
    · exact Or.inl (hm.subset hy)
    · exact Or.inr (List.mem_singleton.1 hy)
  unfold pushG
  split
  · exact ⟨app l (List.Sublist.refl _), fun y h => by cases h⟩
  · cases hf : l.findIdx? lt with
    | none => exact ⟨fun y hy => Or.inl hy, fun y h => Or.inr (by injection h with h; exact h.symm)⟩
    | some i =>
      dsimp only
      split
      · exact ⟨fun y hy => Or.inl hy, fun y h => Or.inr (by injection h with h; exact h.symm)⟩
      · exact ⟨app _ (List.eraseIdx_sublist _ _), fun y h => Or.inl (List.mem_of_getElem? h)⟩
theorem pushG_le {α : Type} (lt : α → Bool) (l : List α) (x : α) (most : Nat) : (pushG lt l x most).1.length ≤ l.length + 1 := by
  unfold pushG
  split
  · simp
  · cases hf : l.findIdx? lt with
    | none => dsimp only; omega
    | some i =>
      have hi := (List.findIdx?_eq_some_iff_getElem.1 hf).1
      dsimp only
      split
      · dsimp only; omega
      · simp only [List.length_append, List.length_eraseIdx_of_lt hi, List.length_cons, List.length_nil]; omega
theorem get_both {d e : Option (Ms × List Pr)} (h : d.map lg = e.map lg) : lg (d.getD (ms0, [])) = lg (e.getD (ms0, [])) ∧ d.isSome = e.isSome := by
  cases d <;> cases e <;> simp at h ⊢ <;> exact h
def ltG (m : Mg) : Bool := m.q == 0
theorem push_both (LL RR : List (Ms × List Pr)) (x y : Ms × List Pr) (most : Nat) (h : LL.map lg = RR.map lg) (hx : lg x = lg y) :
    (pushG ltP LL x most).1.map lg = (pushG ltP RR y most).1.map lg ∧ (pushG ltP LL x most).2.map lg = (pushG ltP RR y most).2.map lg := by
  have a := pushG_map lg ltG ltP (fun _ => rfl) LL x most
  have b := pushG_map lg ltG ltP (fun _ => rfl) RR y most
  rw [h, hx] at a
  rw [a] at b
  exact ⟨congrArg Prod.fst b, congrArg Prod.snd b⟩
theorem push_fsts (LL : List (Ms × List Pr)) (x : Ms × List Pr) (most : Nat) : pushG ltMs (fsts LL) x.1 most = (fsts (pushG ltP LL x most).1, (pushG ltP LL x most).2.map Prod.fst) :=
  pushG_map Prod.fst ltMs ltP (fun _ => rfl) LL x most
def goneM (now : Int) (m : Mg) : Bool := goneB m.at_ m.ps now
theorem filter_both (LL RR : List (Ms × List Pr)) (now : Int) (h : LL.map lg = RR.map lg) :
    (LL.filter (goneP now)).map lg = (RR.filter (goneP now)).map lg ∧ (LL.filter fun p => !goneP now p).map lg = (RR.filter fun p => !goneP now p).map lg := by
  have key : ∀ (f : Mg → Bool) (l : List (Ms × List Pr)), (l.filter fun p => f (lg p)).map lg = (l.map lg).filter f := fun f l => by
    rw [List.filter_map]; rfl
  have a := key (goneM now)
  have b := key (fun m => !goneM now m)
  exact ⟨(a LL).trans ((congrArg _ h).trans (a RR).symm), (b LL).trans ((congrArg _ h).trans (b RR).symm)⟩
theorem mok0 (T : TypeId) (w : World) : MOk T w (ms0, []) := ⟨rds0 T w, by simp, by simp, by decide, by decide⟩
theorem blk9_facts {w : World} {b : Nat} {t : TypeId} {v0 v1 v2 v3 v4 v5 v6 v7 v8 : Value} (h : w.heap[b]? = some (.cells #[v0, v1, v2, v3, v4, v5, v6, v7, v8] t (0, 0))) :
    w.cell? ⟨b, 0, none⟩ = some v0 ∧ w.cell? ⟨b, 1, none⟩ = some v1 ∧ w.cell? ⟨b, 2, none⟩ = some v2 ∧ w.cell? ⟨b, 3, none⟩ = some v3 ∧ w.cell? ⟨b, 4, none⟩ = some v4 ∧ w.cell? ⟨b, 5, none⟩ = some v5 ∧ w.cell? ⟨b, 6, none⟩ = some v6 ∧ w.cell? ⟨b, 7, none⟩ = some v7 ∧ w.cell? ⟨b, 8, none⟩ = some v8 :=
  ⟨blk_cell h 0, blk_cell h 1, blk_cell h 2, blk_cell h 3, blk_cell h 4, blk_cell h 5, blk_cell h 6, blk_cell h 7, blk_cell h 8⟩
theorem rpush_any (v : Value) (RR : List (Ms × List Pr)) (x : Ms) (ps : List Pr) (most : Nat) (w : World) (hv : RView w v RR) (hl : RR.length < 1000000) (hm : most ≤ 9223372036854775807) :
    Calls Try.prog 26 #[v, .agg (msC x).toArray, .int .i64 (most : Int)] w (RPushTo v RR (x, ps) most w) := by
  by_cases hr : RR.length < most
  · exact rpush_room v RR x ps most w hv hl hm hr
  · cases hx : ltMs x with
    | true => exact rpush_light v RR x ps most w hv hl hm hr hx
    | false =>
      cases hf : RR.findIdx? ltP with
      | none => exact rpush_none v RR x ps most w hv hl hm hr hf hx
      | some i => exact rpush_swap v RR x ps most w hv hl hm hr i hf hx
/-- The same list, its properties read as told. -/
theorem rpush_eq (v : Value) (RR : List (Ms × List Pr)) (x : Ms) (ps : List Pr) (most : Nat) (w : World) (hv : RView w v RR) (hl : RR.length < 1000000) (hm : most ≤ 9223372036854775807) (mi : Int) (hmi : mi = (most : Int)) (R' : List (Ms × List Pr)) (d : Option (Ms × List Pr)) (hR : pushG ltP RR (x, ps) most = (R', d)) :
    Calls Try.prog 26 #[v, .agg (msC x).toArray, .int .i64 mi] w fun e w' => ∃ v', e = .returned (.tuple #[v', .agg (msC (d.getD (ms0, [])).1).toArray, .bool d.isSome]) ∧ RView w' v' R' ∧ Fr [] w w' := by
  subst hmi
  refine (rpush_any v RR x ps most w hv hl hm).mono fun e w' hp => ?_
  unfold RPushTo at hp
  rw [hR] at hp
  exact hp
theorem RView.tail {w : World} {b off c : Nat} {p : Ms × List Pr} {RR : List (Ms × List Pr)} (h : RView w (.slice (some ⟨b, off, none⟩) (p :: RR).length c) (p :: RR)) :
    RView w (.slice (if c = 1 then some ⟨b, off, none⟩ else some ⟨b, off + 7, none⟩) RR.length (c - 1)) RR := by
  obtain ⟨h1, _, _, he, h3, h4⟩ := h
  cases he
  have hd := View.drops h1.1 1 (c - 1) (by simp) h3
  simp only [Nat.one_mul, List.drop_succ_cons, List.drop_zero, List.length_cons, Nat.add_sub_cancel] at hd
  refine ⟨⟨hd, fun k hk => h1.2 k ?_⟩, _, _, rfl, by simp at h3; omega, by omega⟩
  by_cases hc : c = 1
  · rw [if_pos hc] at hk; exact hk
  · rw [if_neg hc] at hk; exact hk
end Go.Proofs.Ytnplinohoflabaa
