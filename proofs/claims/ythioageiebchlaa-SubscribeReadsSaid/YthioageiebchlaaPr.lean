/- Properties as cells; what Get of the package prop comes to. No condition. -/
import Derived.Test.YthioageiebchlaaBase
import Derived.Test.YthioageiebchlaaProg
namespace Go.Proofs.Ythioageiebchlaa
open Go.RowKit
set_option linter.unusedVariables false
set_option linter.unusedSimpArgs false

theorem Try.infoPr : (Try.prog.info? 116).map (fun i => (i.zero, i.size, i.bytes)) = some (some (.agg #[.int .i64 0, .int .u32 0, .string ⟨#[]⟩, .string ⟨#[]⟩]), 4, 48) := by kernel_rfl

structure Pr where
  id : Int
  n : Nat
  s : List UInt8
  t : List UInt8
deriving DecidableEq
def prE (x : Pr) : List Value := [.int .i64 x.id, .int .u32 x.n, .string ⟨x.s.toArray⟩, .string ⟨x.t.toArray⟩]
theorem prE_len (x : Pr) : (prE x).length = 4 := rfl
instance : Inhabited Pr := ⟨⟨0, 0, [], []⟩⟩
def getR (l : List Pr) (id : Int) : Pr × Bool := match l.find? (fun x => x.id == id) with
  | some p => (p, true)
  | none => (⟨0, 0, [], []⟩, false)
theorem getR_no (l : List Pr) (id : Int) (h : ∀ x ∈ l, x.id ≠ id) : getR l id = (⟨0, 0, [], []⟩, false) := by
  have : l.find? (fun x => x.id == id) = none := by
    rw [List.find?_eq_none]; intro x hx; simpa using h x hx
  rw [getR, this]
theorem getR_at (l : List Pr) (id : Int) (k : Nat) (hk : k < l.length) (h : ∀ x ∈ l.take k, x.id ≠ id) (he : l[k].id = id) : getR l id = (l[k], true) := by
  have : l.find? (fun x => x.id == id) = some l[k] := by
    have e : l = l.take k ++ l[k] :: l.drop (k + 1) := by rw [List.getElem_cons_drop, List.take_append_drop]
    refine (congrArg (List.find? fun x => x.id == id) e).trans ?_
    rw [List.find?_append, (List.find?_eq_none).2 (by intro x hx; simpa using h x hx), Option.none_or, List.find?_cons_of_pos (by simpa using he)]
  rw [getR, this]
theorem blk4_facts {w : World} {b : Nat} {t : TypeId} {v0 v1 v2 v3 : Value} (h : w.heap[b]? = some (.cells #[v0, v1, v2, v3] t (0, 0))) :
    (w.cell? ⟨b, 0, none⟩ = some v0 ∧ w.cell? ⟨b, 1, none⟩ = some v1 ∧ w.cell? ⟨b, 2, none⟩ = some v2 ∧ w.cell? ⟨b, 3, none⟩ = some v3) ∧ (w.frozen? ⟨b, 0, none⟩ = false ∧ w.frozen? ⟨b, 1, none⟩ = false ∧ w.frozen? ⟨b, 2, none⟩ = false ∧ w.frozen? ⟨b, 3, none⟩ = false) ∧ b < w.heap.size :=
  ⟨⟨blk_cell h 0, blk_cell h 1, blk_cell h 2, blk_cell h 3⟩, ⟨blk_frozen h 0, blk_frozen h 1, blk_frozen h 2, blk_frozen h 3⟩, blk_lt h⟩
def set4 (w : World) (b : Nat) (v0 v1 v2 v3 : Value) : World := (((w.setCell ⟨b, 0, none⟩ v0).setCell ⟨b, 1, none⟩ v1).setCell ⟨b, 2, none⟩ v2).setCell ⟨b, 3, none⟩ v3
theorem blk4_set {w : World} {b : Nat} {t : TypeId} {v0 v1 v2 v3 : Value} (h : w.heap[b]? = some (.cells #[v0, v1, v2, v3] t (0, 0))) (x0 x1 x2 x3 : Value) : (set4 w b x0 x1 x2 x3).heap[b]? = some (.cells #[x0, x1, x2, x3] t (0, 0)) :=
  blk_set (blk_set (blk_set (blk_set h 0 x0) 1 x1) 2 x2) 3 x3
theorem fr4_set {S : List Nat} {w w' : World} (h : Fr S w w') {b : Nat} (hb : w.heap.size ≤ b) (x0 x1 x2 x3 : Value) : Fr S w (set4 w' b x0 x1 x2 x3) :=
  (((h.setCell (Or.inl hb) _).setCell (Or.inl hb) _).setCell (Or.inl hb) _).setCell (Or.inl hb) _
def prV (x : Pr) : Value := .agg #[.int .i64 x.id, .int .u32 x.n, .string ⟨x.s.toArray⟩, .string ⟨x.t.toArray⟩]
set_option maxHeartbeats 1000000 in
theorem get_any (v : Value) (l : List Pr) (id : Int) (w : World) (hv : View w v l.length (l.flatMap prE)) (hl : l.length ≤ 9223372036854775807) :
    Calls Try.prog 83 #[v, .int .i64 id] w fun e w' => e = .returned (.tuple #[.agg #[.int .i64 (getR l id).1.id, .int .u32 (getR l id).1.n, .string ⟨(getR l id).1.s.toArray⟩, .string ⟨(getR l id).1.t.toArray⟩], .bool (getR l id).2]) ∧ Fr [] w w' := by
  by_cases h0 : l.length = 0
  · obtain rfl : l = [] := List.eq_nil_of_length_eq_zero h0
    obtain ⟨A, c, rfl, _⟩ := hv
    go_enter Try.func83, Try.ntmps83
    go_wp2
    go_rounds 1
    all_goals
      go_wp2
      refine bodyPost_ret (v := .tuple #[.agg #[.int .i64 0, .int .u32 0, .string ⟨#[]⟩, .string ⟨#[]⟩], .bool false]) (by simp [results, Try.results83, go_sem, *]) rfl ?_
      exact ⟨rfl, (by repeat (first | exact Fr.refl _ _ | (with_reducible apply Fr.alloc) | (with_reducible refine Fr.setCell ?_ (Or.inl (by simp)) _)))⟩
  obtain ⟨b, off, c, rfl, hb, hc⟩ := hv.at prE_len (by decide) (by omega)
  have HC := Lib.hid hc
  clear hc hv h0
  have hn := blk_new w (.cells #[.int .i64 0, .int .u32 0, .string ⟨#[]⟩, .string ⟨#[]⟩] 116)
  have hfr0 : Fr [] w (w.alloc (.cells #[.int .i64 0, .int .u32 0, .string ⟨#[]⟩, .string ⟨#[]⟩] 116)) := (Fr.refl _ _).alloc _
  go_enter Try.func83, Try.ntmps83
  go_wp2
  go_loopw [10] (fun i wr => ∃ k : Nat, i = .int .i64 k ∧ k ≤ l.length ∧ Hid (∀ x ∈ l.take k, x.id ≠ id) ∧ wr.heap[w.heap.size]? = some (.cells #[.int .i64 0, .int .u32 0, .string ⟨#[]⟩, .string ⟨#[]⟩] 116 (0, 0)) ∧ Fr [] w wr) (fun i _ => l.length - (intOf i).toNat)
  case atStart => exact ⟨0, rfl, by omega, Lib.hid (by simp), hn, hfr0⟩
  case round =>
    obtain ⟨k, rfl, hk, HN, hrb, hfr⟩ := hrel
    clear hn hfr0
    obtain ⟨⟨r0, r1, r2, r3⟩, ⟨z0, z1, z2, z3⟩, hlt⟩ := blk4_facts hrb
    have HB := Lib.hid hrb
    have HF := Lib.hid hfr
    have hsz := hfr.size
    clear hrb hfr
    by_cases hlt : k < l.length
    · have hcell := HC.out k hlt
      have hat := fun h => getR_at l id k hlt HN.out h
      have hst : Hid (l[k].id ≠ id → ∀ x ∈ l.take (k + 1), x.id ≠ id) := Lib.hid (fun hne x hx => by
        rw [List.take_succ_eq_append_getElem hlt] at hx
        rcases List.mem_append.1 hx with hx | hx
        · exact HN.out x hx
        · rw [List.mem_singleton.1 hx]; exact hne)
      generalize l[k] = x at *
      obtain ⟨xi, xn, xs, xt⟩ := x
      have c0 : wr.cell? ⟨b, off + k * 4, none⟩ = some (.int .i64 xi) := HF.out.cell (hcell 0 _ rfl) (by simp)
      have c1 : wr.cell? ⟨b, off + k * 4 + 1, none⟩ = some (.int .u32 xn) := HF.out.cell (hcell 1 _ rfl) (by simp)
      have c2 : wr.cell? ⟨b, off + k * 4 + 2, none⟩ = some (.string ⟨xs.toArray⟩) := HF.out.cell (hcell 2 _ rfl) (by simp)
      have c3 : wr.cell? ⟨b, off + k * 4 + 3, none⟩ = some (.string ⟨xt.toArray⟩) := HF.out.cell (hcell 3 _ rfl) (by simp)
      have Hat := Lib.hid hat
      clear hcell hat
      dsimp only at Hat hst
      by_cases he : xi = id
      · subst he
        have HG := Lib.hid (Hat.out rfl)
        have HP := Lib.hid (blk_old (blk4_set HB.out (.int .i64 xi) (.int .u32 xn) (.string ⟨xs.toArray⟩) (.string ⟨xt.toArray⟩)) (.cells #[.int .i64 xi, .int .u32 xn, .string ⟨xs.toArray⟩, .string ⟨xt.toArray⟩] 116))
        have HQ := Lib.hid ((fr4_set HF.out (Nat.le_refl _) (.int .i64 xi) (.int .u32 xn) (.string ⟨xs.toArray⟩) (.string ⟨xt.toArray⟩)).alloc (.cells #[.int .i64 xi, .int .u32 xn, .string ⟨xs.toArray⟩, .string ⟨xt.toArray⟩] 116))
        go_wp2
        rw [HG.out]
        obtain ⟨W5, hW5⟩ : ∃ W5, W5 = (set4 wr w.heap.size (.int .i64 xi) (.int .u32 xn) (.string ⟨xs.toArray⟩) (.string ⟨xt.toArray⟩)).alloc (.cells #[.int .i64 xi, .int .u32 xn, .string ⟨xs.toArray⟩, .string ⟨xt.toArray⟩] 116) := ⟨_, rfl⟩
        have hb5 := HP.out
        have hf5 := HQ.out
        rw [← hW5] at hb5 hf5
        rw [set4] at hW5
        rw [← hW5]
        clear hW5 r0 r1 r2 r3 z0 z1 z2 z3
        obtain ⟨⟨r0, r1, r2, r3⟩, ⟨z0, z1, z2, z3⟩, _⟩ := blk4_facts hb5
        clear hb5 z0 z1 z2 z3
        refine bodyPost_ret (v := .tuple #[.agg #[.int .i64 xi, .int .u32 xn, .string ⟨xs.toArray⟩, .string ⟨xt.toArray⟩], .bool true]) (by simp [results, Try.results83, go_sem, r0, r1, r2, r3]) rfl ?_
        exact ⟨rfl, hf5⟩
      · have he1 : (xi == id) = false := by simpa using he
        have HS := Lib.hid (hst.out he)
        clear he
        go_wp2
        go_roundw
        case rel => exact ⟨k + 1, by go_num, by omega, HS, blk_old HB.out _, HF.out.alloc _⟩
        case measure => simp [intOf]; omega
    · have HG := Lib.hid (getR_no l id (by have := HN.out; rwa [List.take_of_length_le (by omega)] at this))
      have HP := Lib.hid (blk4_set HB.out (.int .i64 0) (.int .u32 0) (.string ⟨#[]⟩) (.string ⟨#[]⟩))
      have HQ := Lib.hid (fr4_set HF.out (Nat.le_refl _) (.int .i64 0) (.int .u32 0) (.string ⟨#[]⟩) (.string ⟨#[]⟩))
      go_wp2
      rw [HG.out]
      obtain ⟨W5, hW5⟩ : ∃ W5, W5 = set4 wr w.heap.size (.int .i64 0) (.int .u32 0) (.string ⟨#[]⟩) (.string ⟨#[]⟩) := ⟨_, rfl⟩
      have hb5 := HP.out
      have hf5 := HQ.out
      rw [← hW5] at hb5 hf5
      rw [set4] at hW5
      rw [← hW5]
      clear hW5 r0 r1 r2 r3 z0 z1 z2 z3
      obtain ⟨⟨r0, r1, r2, r3⟩, ⟨z0, z1, z2, z3⟩, _⟩ := blk4_facts hb5
      clear hb5 z0 z1 z2 z3
      refine bodyPost_ret (v := .tuple #[.agg #[.int .i64 0, .int .u32 0, .string ⟨#[]⟩, .string ⟨#[]⟩], .bool false]) (by simp [results, Try.results83, go_sem, r0, r1, r2, r3]) rfl ?_
      exact ⟨rfl, hf5⟩
end Go.Proofs.Ythioageiebchlaa
