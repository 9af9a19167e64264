/- A region that draws its order: loads and quiet calls are taken first, though its last stores turn what was loaded. No program is named here. No condition. -/
import Derived.Deep.RegionHeld3
import Derived.Deep.DrawnRows
import Derived.WalkKit
namespace Go.Proofs.Ythioageiebchlaa
open Go
set_option linter.unusedVariables false
set_option linter.unusedSimpArgs false

section
variable {P : Program} {ops : Array Oper} {Q : Exit → Act → World → Prop} {md : Region.Mode} {S : World → Prop}

/-- In each world that meets S the operation leaves v, or calls a function that leaves v and the world as it was. -/
def Gives (P : Program) (ops : Array Oper) (S : World → Prop) (o : Oper) (v : Value) (a : Act) : Prop :=
  (Region.wanted o (yielded ops a.tmps) = true ∧ ∀ w, S w → (execOp a.eval o).run P w = .ok (.value v) w ∨ ∃ f args, (execOp a.eval o).run P w = .ok (.enter f args) w ∧ Calls P f args w fun e w' => e = .returned v ∧ w = w') ∨
  (Region.wanted o (yielded ops a.tmps) = false ∧ v = undef)
theorem Gives.same {o : Oper} {v : Value} {a a' : Act} (h : Gives P ops S o v a) (he : execOp a'.eval o = execOp a.eval o) (hw : Region.wanted o (yielded ops a'.tmps) = Region.wanted o (yielded ops a.tmps)) : Gives P ops S o v a' := by
  rcases h with ⟨h1, h2⟩ | ⟨h1, h2⟩
  · exact Or.inl ⟨hw.trans h1, fun w hS => by rw [he]; exact h2 w hS⟩
  · exact Or.inr ⟨hw.trans h1, h2⟩
theorem Gives.step {i : Nat} {o : Oper} {v : Value} {a : Act} (hi : ops[i]? = some o) (hg : Gives P ops S o v a) {K : Act → World → Prop} {w : World} (hS : S w) (h : K (a.put o.dst v) w) : wpOp P ops Q i K a w := by
  unfold wpOp
  rw [hi]
  rcases hg with ⟨h1, h2⟩ | ⟨h1, rfl⟩
  · simp only [h1, if_true]
    refine Or.inl ?_
    unfold Oper.wp
    rcases h2 w hS with h3 | ⟨f, args, h3, h4⟩
    · rw [h3]; exact h
    · rw [h3]
      refine Calls.mono h4 fun e w' he => ?_
      obtain ⟨rfl, rfl⟩ := he
      exact h
  · simp only [h1, Bool.false_eq_true, if_false]; exact h
/-- What holds of the frame, and is borne by what one operation puts, holds behind that operation. -/
theorem wpOp_bear {j : Nat} {dst : Option Tmp} {oj : Oper} {v : Value} {Y : Act → Prop} (hj : ops[j]? = some oj) (h1 : ∀ d, dst = some d → d ∉ oj.looksAt ops) (h2 : ∀ d, dst = some d → oj.dst ≠ some d)
    (hsj : ∀ cs b, oj.op ≠ .select cs b) (keep : ∀ b u, Y b → Y (b.put oj.dst u)) (keepD : ∀ (b : Act) d, Y b → Y { b with defers := d :: b.defers })
    (hQ : ∀ c a w, Q (.panic c) (a.put dst v) w → Q (.panic c) a w) {K : Act → World → Prop} {a : Act} {w : World} (hy : Y a) (h : wpOp P ops Q j K (a.put dst v) w) :
    wpOp P ops Q j (fun a' w' => Y a' ∧ K (a'.put dst v) w') a w := by
  have hx := execOp_put oj hsj a dst v h1
  have hv := wanted_put oj a dst v h1
  have back : ∀ (b : Act) u w', K ((b.put dst v).put oj.dst u) w' → K ((b.put oj.dst u).put dst v) w' := fun b u w' hk => by rw [← Act.put_comm b v u h2]; exact hk
  unfold wpOp at h ⊢
  rw [hj] at h ⊢
  dsimp only at h ⊢
  rw [hv] at h
  cases hw : Region.wanted oj (yielded ops a.tmps) with
  | false =>
    rw [hw] at h
    simp only [Bool.false_eq_true, if_false] at h ⊢
    exact ⟨keep a _ hy, back a _ w h⟩
  | true =>
    rw [hw] at h
    simp only [if_true] at h ⊢
    rcases h with h | ⟨ha, hl⟩
    · left
      unfold Oper.wp at h ⊢
      rw [hx] at h
      revert h
      generalize (execOp a.eval oj).run P w = r
      intro h
      cases r with
      | halt x w' =>
        cases x with
        | panic u => exact hQ _ _ _ h
        | _ => exact h
      | ok n w' =>
        cases n with
        | value u => exact ⟨keep a u hy, back a u w' h⟩
        | skip => exact ⟨keep a _ hy, back a _ w' h⟩
        | enter f args =>
          refine Calls.mono h fun e w'' he => ?_
          cases e with
          | returned u => exact ⟨keep a u hy, back a u w'' he⟩
          | panicked c => exact hQ _ _ _ he
          | outgrown => exact he
        | row r args => exact Rows.mono h fun u w'' he => ⟨keep a u hy, back a u w'' he⟩
        | defer d =>
          refine ⟨keep _ _ (keepD a d hy), back _ _ w' ?_⟩
          rw [← Act.put_defers]
          exact h
        | _ => exact h
    · right
      refine ⟨?_, hl⟩
      unfold Oper.asks at ha ⊢
      rwa [hx] at ha

/-- Number j comes up only when number i has. -/
def waitsB (md : Region.Mode) (ops : Array Oper) (j i : Nat) : Bool :=
  match ops[j]? with
  | some oj => oj.after.any fun e => Region.binds md e && e.on == i
  | none => false
/-- None of these has come up. -/
def noLate (late : List Nat) (listed : Array Bool) : Bool := late.all fun l => !listed.getD l true
theorem noLate_set {late : List Nat} {listed : Array Bool} {i : Nat} (hi : late.contains i = false) : noLate late (listed.setIfInBounds i true) = noLate late listed := by
  have key : ∀ l ∈ late, (!(listed.setIfInBounds i true).getD l true) = !listed.getD l true := fun l hl => by
    have hne : i ≠ l := fun e => by subst e; simp [hl] at hi
    rw [getD_set_ne true hne]
  unfold noLate
  rw [Bool.eq_iff_iff, List.all_eq_true, List.all_eq_true]
  exact ⟨fun h l hl => by rw [← key l hl]; exact h l hl, fun h l hl => by rw [key l hl]; exact h l hl⟩
theorem noLate_le {late : List Nat} {listed : Array Bool} {i : Nat} (h : noLate late (listed.setIfInBounds i true) = true) : noLate late listed = true := by
  unfold noLate at *
  rw [List.all_eq_true] at *
  intro l hl
  have h1 := h l hl
  by_cases e : i = l
  · subst e
    cases hg : listed.getD i true with
    | false => rfl
    | true =>
      exfalso
      rcases Nat.lt_or_ge i listed.size with h' | h'
      · simp [h'] at h1
      · simp [Array.getElem?_eq_none h'] at h1
  · rwa [getD_set_ne true e] at h1
/-- Whatever order is picked; S holds behind each operation till one of the last ones has come up. -/
def wpLate (P : Program) (md : Region.Mode) (ops : Array Oper) (Q : Exit → Act → World → Prop) (S : World → Prop) (late : List Nat) : Nat → Array Bool → Act → World → Prop
  | 0, listed, a, w => Region.ready md ops listed = [] ∧ Q .normal a w
  | fuel + 1, listed, a, w =>
    (Region.ready md ops listed = [] → Q .normal a w) ∧
    ∀ i ∈ Region.ready md ops listed, wpOp P ops Q i (fun a' w' => (noLate late (listed.setIfInBounds i true) = true → S w') ∧ wpLate P md ops Q S late fuel (listed.setIfInBounds i true) a' w') a w
theorem wpAny_of_late {late : List Nat} : ∀ (fuel : Nat) (listed : Array Bool) (a : Act) (w : World), wpLate P md ops Q S late fuel listed a w → wpAny P md ops Q fuel listed a w
  | 0, _, _, _, h => h
  | fuel + 1, _, _, _, h => ⟨h.1, fun i hi => wpOp_mono (fun a' w' h' => wpAny_of_late fuel _ a' w' h'.2) (h.2 i hi)⟩
theorem ready_not {i j : Nat} {listed : Array Bool} (hi : i ∈ Region.ready md ops listed) (hj : j ∈ Region.ready md ops listed) : waitsB md ops j i = false := by
  obtain ⟨_, oj, hoj, hall⟩ := mem_ready.1 hj
  have hu := (mem_ready.1 hi).1
  cases hb : waitsB md ops j i with
  | false => rfl
  | true =>
    unfold waitsB at hb
    rw [hoj] at hb
    obtain ⟨e, he, hb⟩ := Array.any_eq_true'.1 hb
    simp only [Bool.and_eq_true, beq_iff_eq] at hb
    have h1 := hall e he hb.1
    rw [hb.2] at h1
    rcases Nat.lt_or_ge i listed.size with h' | h'
    · simp [h'] at hu h1; rw [hu] at h1; cases h1
    · simp [Array.getElem?_eq_none h'] at h1
/-- T: what the operation asks of the world: S itself, and then each of the last operations waits for it; or nothing. -/
theorem wpLate_first {T : World → Prop} {late : List Nat} {i : Nat} {oi : Oper} {v : Value} (hi : ops[i]? = some oi) (hsel : ∀ (j : Nat) (o : Oper) cs b, ops[j]? = some o → o.op ≠ .select cs b)
    (hil : late.contains i = false) (hT : (∀ w, T w) ∨ T = S ∧ ∀ j, late.contains j = true → waitsB md ops j i = true)
    (hQ : ∀ c a w, Q (.panic c) (a.put oi.dst v) w → Q (.panic c) a w) :
    ∀ (fuel : Nat) (listed : Array Bool) (a : Act) (w : World),
      (∀ j oj, ops[j]? = some oj → j ≠ i → listed.getD j true = false → (∀ e ∈ oj.after, Region.binds md e = true → e.on ≠ i) → oi.apart ops oj = true) →
      i ∈ Region.ready md ops listed → Gives P ops T oi v a → (noLate late listed = true → S w) → ((∀ w, T w) ∨ noLate late listed = true) →
      wpLate P md ops Q S late fuel (listed.setIfInBounds i true) (a.put oi.dst v) w → wpLate P md ops Q S late (fuel + 1) listed a w := by
  intro fuel
  induction fuel with
  | zero =>
    intro listed a w _ hr hy hS hN H
    have hTw : T w := by
      rcases hT with h | ⟨h, _⟩
      · exact h w
      · rcases hN with h' | h'
        · exact h' w
        · rw [h]; exact hS h'
    refine ⟨fun h => absurd hr (by rw [h]; simp), fun j hj => ?_⟩
    by_cases hji : j = i
    · subst hji; exact hy.step hi hTw ⟨fun h => hS (noLate_le h), H⟩
    · have := ready_mono hj hji
      rw [H.1] at this
      cases this
  | succ fuel ih =>
    intro listed a w hfree hr hy hS hN H
    have hTw : T w := by
      rcases hT with h | ⟨h, _⟩
      · exact h w
      · rcases hN with h' | h'
        · exact h' w
        · rw [h]; exact hS h'
    refine ⟨fun h => absurd hr (by rw [h]; simp), fun j hj => ?_⟩
    by_cases hji : j = i
    · subst hji; exact hy.step hi hTw ⟨fun h => hS (noLate_le h), H⟩
    have hwt := ready_not hr hj
    obtain ⟨hjun, oj, hoj, hall⟩ := mem_ready.1 hj
    have hno : ∀ e ∈ oj.after, Region.binds md e = true → e.on ≠ i := fun e he hb heq => by
      unfold waitsB at hwt
      rw [hoj] at hwt
      have : (oj.after.any fun e => Region.binds md e && e.on == i) = true := Array.any_eq_true'.2 ⟨e, he, by simp [hb, heq]⟩
      dsimp only at hwt
      rw [this] at hwt; cases hwt
    obtain ⟨a1, a2, a3⟩ := Oper.apart_spec (hfree j oj hoj hji hjun hno)
    have h2 := wpOp_bear (Y := Gives P ops T oi v) hoj a1 a2 (fun cs b => hsel j oj cs b hoj)
      (fun b u hb => hb.same (execOp_put oi (fun cs b => hsel i oi cs b hi) b oj.dst u a3) (wanted_put oi b oj.dst u a3)) (fun b d hb => hb.same rfl rfl) hQ hy (H.2 j (ready_mono hj hji))
    refine wpOp_mono (fun a' w' h3 => ?_) h2
    obtain ⟨h4, h5, h6⟩ := h3
    rw [Array.setIfInBounds_comm _ _ (Ne.symm hji), noLate_set hil] at h5
    refine ⟨h5, ih (listed.setIfInBounds j true) a' w' (fun k ok hk hki hun hn => ?_) (ready_mono hr (Ne.symm hji)) h4 h5 ?_ ?_⟩
    · refine hfree k ok hk hki ?_ hn
      by_cases hjk : j = k
      · subst hjk; exact hjun
      · rwa [getD_set_ne true hjk] at hun
    · rcases hT with h | ⟨_, h⟩
      · exact Or.inl h
      · rcases hN with h' | h'
        · exact Or.inl h'
        · right
          rw [noLate_set]
          · exact h'
          · cases hc : late.contains j with
            | false => rfl
            | true => rw [h j hc] at hwt; cases hwt
    · rw [Array.setIfInBounds_comm _ _ hji]
      exact h6
def lateOk (md : Region.Mode) (ops : Array Oper) (late : List Nat) (i : Nat) : Bool := !late.contains i && late.all fun j => waitsB md ops j i
theorem wpLate_take {late : List Nat} {i : Nat} {oi : Oper} {v : Value} {fuel : Nat} {listed : Array Bool} {a : Act} {w : World} (hi : ops[i]? = some oi)
    (hs : Region.noSelect ops = true) (hf : Region.free md ops listed i = true) (hr : (Region.ready md ops listed).contains i = true) (hl : (lateOk md ops late i && noLate late listed) = true)
    (hQ : ∀ c a w, Q (.panic c) (a.put oi.dst v) w → Q (.panic c) a w) (hy : Gives P ops S oi v a) (hS : S w)
    (h : wpLate P md ops Q S late fuel (listed.setIfInBounds i true) (a.put oi.dst v) w) : wpLate P md ops Q S late (fuel + 1) listed a w := by
  simp only [lateOk, Bool.and_eq_true, Bool.not_eq_true'] at hl
  refine wpLate_first (T := S) hi (Region.noSelect_spec hs) hl.1.1 (Or.inr ⟨rfl, fun j hj => ?_⟩) hQ fuel listed a w (Region.free_spec hi hf) (by simpa using hr) hy (fun _ => hS) (Or.inr hl.2) h
  exact List.all_eq_true.1 hl.1.2 j (by simpa using hj)
theorem wpLate_pure {late : List Nat} {i : Nat} {oi : Oper} {v : Value} {fuel : Nat} {listed : Array Bool} {a : Act} {w : World} (hi : ops[i]? = some oi)
    (hs : Region.noSelect ops = true) (hf : Region.free md ops listed i = true) (hr : (Region.ready md ops listed).contains i = true) (hl : late.contains i = false)
    (hQ : ∀ c a w, Q (.panic c) (a.put oi.dst v) w → Q (.panic c) a w) (hy : Gives P ops (fun _ => True) oi v a) (hS : noLate late listed = true → S w)
    (h : wpLate P md ops Q S late fuel (listed.setIfInBounds i true) (a.put oi.dst v) w) : wpLate P md ops Q S late (fuel + 1) listed a w :=
  wpLate_first (T := fun _ => True) hi (Region.noSelect_spec hs) hl (Or.inl fun _ => trivial) hQ fuel listed a w (Region.free_spec hi hf) (by simpa using hr) hy hS (Or.inl fun _ => trivial) h
theorem Gives.load {o : Oper} {v : Value} {a : Act} (hw : Region.wanted o (yielded ops a.tmps) = true) (h : ∀ w, S w → (execOp a.eval o).run P w = .ok (.value v) w) : Gives P ops S o v a :=
  Or.inl ⟨hw, fun w hS => Or.inl (h w hS)⟩
theorem Gives.quiet {o : Oper} {v : Value} {a : Act} (f : FuncId) (args : Array Value) (hw : Region.wanted o (yielded ops a.tmps) = true) (hr : ∀ w, (execOp a.eval o).run P w = .ok (.enter f args) w) (h : ∀ w, Calls P f args w fun e w' => e = .returned v ∧ w = w') : Gives P ops S o v a :=
  Or.inl ⟨hw, fun w _ => Or.inr ⟨f, args, hr w, h w⟩⟩
/-- Each of these comes up next. -/
def AllLate (P : Program) (md : Region.Mode) (ops : Array Oper) (Q : Exit → Act → World → Prop) (S : World → Prop) (late : List Nat) (fuel : Nat) (listed : Array Bool) (a : Act) (w : World) (rs : List Nat) : Prop :=
  ∀ i ∈ rs, wpOp P ops Q i (fun a' w' => (noLate late (listed.setIfInBounds i true) = true → S w') ∧ wpLate P md ops Q S late fuel (listed.setIfInBounds i true) a' w') a w
theorem AllLate.nil {late : List Nat} {fuel : Nat} {listed : Array Bool} {a : Act} {w : World} : AllLate P md ops Q S late fuel listed a w [] := fun _ h => by cases h
theorem AllLate.cons {late : List Nat} {fuel : Nat} {listed : Array Bool} {a : Act} {w : World} {i : Nat} {o : Oper} {rs : List Nat} (ho : ops[i]? = some o)
    (h : ∀ K' : Act → World → Prop, Shut (∀ a w, (noLate late (listed.setIfInBounds i true) = true → S w) → ((noLate late (listed.setIfInBounds i true) = true → S w) → wpLate P md ops Q S late fuel (listed.setIfInBounds i true) a w) → K' a w) → if Region.wanted o (yielded ops a.tmps) = true then Oper.wp P o a w K' Q else K' (a.put o.dst undef) w)
    (hs : AllLate P md ops Q S late fuel listed a w rs) : AllLate P md ops Q S late fuel listed a w (i :: rs) := fun j hj => by
  rcases List.mem_cons.1 hj with rfl | hj
  · exact wpOp_step ho (fun K' hK => h K' (fun a w hS hW => hK a w ⟨hS, hW hS⟩))
  · exact hs j hj
theorem wpLate_ready {late rs : List Nat} {fuel : Nat} {listed : Array Bool} {a : Act} {w : World} (hr : Region.ready md ops listed = rs) (hne : rs ≠ [])
    (h : AllLate P md ops Q S late fuel listed a w rs) : wpLate P md ops Q S late (fuel + 1) listed a w :=
  ⟨fun h0 => absurd (hr ▸ h0) hne, hr ▸ h⟩
theorem wpLate_done {late : List Nat} {listed : Array Bool} {a : Act} {w : World} (hr : Region.ready md ops listed = []) (h : Q .normal a w) : ∀ fuel, wpLate P md ops Q S late fuel listed a w
  | 0 => ⟨hr, h⟩
  | _ + 1 => ⟨fun _ => h, by rw [hr]; simp⟩
theorem wp_region_late (late : List Nat) {id : Nat} {a : Act} {w : World} (hm : P.follows .mixedOrders = true) (hS : S w.drew)
    (h : S w.drew → wpLate P .any ops Q S late ops.size (Array.replicate ops.size false) a w.drew) : (Code.region id ops true).wp P Q a w :=
  wp_region_any hm (wpAny_of_late _ _ _ _ (h hS))
end
end Go.Proofs.Ythioageiebchlaa
