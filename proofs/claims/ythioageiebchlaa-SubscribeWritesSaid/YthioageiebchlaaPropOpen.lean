/- Properties handed in, as a list; small words on them. No condition. -/
import Derived.Test.YthioageiebchlaaFew
import Derived.Test.YthioageiebchlaaLaw
namespace Go.Proofs.Ythioageiebchlaa
open Go.RowKit

section
open Go.ChangeShapes Go.WideShapes Go.Deep
/-- A slice of properties, handed in, as a list. -/
theorem open_PropT {T : TypeId} (hT : Try.prog.underlying T = some (.slice 116)) {H : Type} {enc : TypeId × Value → H} {w : World} {base : Nat} {spare : Nat → Bool} {held : Bool} {a : Option Addr} {n c : Nat} {d : DataW H} {ps : List MemPlace} (h : DataW.Trod enc Try.prog w base spare held T (.slice a n c) d ps) :
    ∃ (A : Option Addr) (n' c' : Nat) (f : List Pr), Value.slice a n c = .slice A n' c' ∧ n' = f.length ∧ n' ≤ 9223372036854775807 ∧ View w (.slice A n' c') f.length (f.flatMap prE) ∧ ∀ x ∈ f, x.n < 4294967296 ∧ x.s.length ≤ 9223372036854775807 ∧ x.t.length ≤ 9223372036854775807 := by
  obtain ⟨fuel, hf⟩ := h
  obtain ⟨A, n', c', V, hv, ⟨hc, hcm⟩, hA, hV⟩ := open_flat (v := .slice a n c) hT Try.underlying116 (by kernel_rfl) (by kernel_rfl) (by decide) (by simpa [Value.cells] using hf)
  have hch : ∀ i, i < n' → ∃ x : Pr, (V i 0 = .int .i64 x.id ∧ V i 1 = .int .u32 x.n ∧ V i 2 = .string ⟨x.s.toArray⟩ ∧ V i 3 = .string ⟨x.t.toArray⟩) ∧ x.n < 4294967296 ∧ x.s.length ≤ 9223372036854775807 ∧ x.t.length ≤ 9223372036854775807 := by
    intro i hi
    obtain ⟨m0, y0, h0⟩ := hV i hi 0 _ rfl
    obtain ⟨m1, y1, h1⟩ := hV i hi 1 _ rfl
    obtain ⟨m2, y2, h2⟩ := hV i hi 2 _ rfl
    obtain ⟨m3, y3, h3⟩ := hV i hi 3 _ rfl
    obtain ⟨k, e0, _, _⟩ := DataW.trod_int Try.underlying3 h0
    obtain ⟨n, e1, _, wn⟩ := DataW.trod_int Try.underlying22 h1
    obtain ⟨s, e2, _, hs⟩ := DataW.trod_string Try.underlying9 h2
    obtain ⟨u, e3, _, hu⟩ := DataW.trod_string Try.underlying9 h3
    obtain ⟨l, rfl, hl⟩ := str_list s
    obtain ⟨m, rfl, hm⟩ := str_list u
    obtain ⟨g0, g1⟩ := wf_u32 wn
    obtain ⟨N, rfl⟩ := Int.eq_ofNat_of_zero_le g0
    simp only [List.cons.injEq, and_true] at e0 e1 e2 e3
    unfold maxLen at hs hu
    exact ⟨⟨k, N, l, m⟩, ⟨e0, e1, e2, e3⟩, by show N < _; omega, by show l.length ≤ _; omega, by show m.length ≤ _; omega⟩
  obtain ⟨f, hf⟩ := choose_lt hch
  unfold maxLen at hcm
  have hlen : ((List.range n').map f).length = n' := by simp
  refine ⟨A, n', c', (List.range n').map f, hv, hlen.symm, by omega, ?_, fun x hx => ?_⟩
  · rw [hlen]
    refine ⟨A, c', rfl, ?_⟩
    rcases hA with rfl | ⟨b, off, hAe, hcell⟩
    · exact Or.inl rfl
    · refine Or.inr ⟨b, off, hAe, fun j u hj => ?_⟩
      have hjl : j < n' * 4 := by
        have := (List.getElem?_eq_some_iff.1 hj).1
        rw [flat_len 4 prE prE_len, hlen] at this; exact this
      have hi : j / 4 < n' := by omega
      have hm : j % 4 < 4 := by omega
      have hj2 : (prE (f (j / 4)))[j % 4]? = some u := by
        rw [show j = j / 4 * 4 + j % 4 from by omega, flat_at 4 prE prE_len _ (j / 4) (by rw [hlen]; exact hi) (j % 4) hm] at hj
        simpa using hj
      obtain ⟨⟨e0, e1, e2, e3⟩, _⟩ := hf (j / 4) hi
      have hc4 : w.cell? ⟨b, off + (j / 4 * 4 + j % 4), none⟩ = some (V (j / 4) (j % 4)) := hcell (j / 4) hi (j % 4) hm
      rw [show off + (j / 4 * 4 + j % 4) = off + j from by omega] at hc4
      rw [hc4]
      have h4 : j % 4 = 0 ∨ j % 4 = 1 ∨ j % 4 = 2 ∨ j % 4 = 3 := by omega
      rcases h4 with h4 | h4 | h4 | h4
      all_goals
        rw [h4] at hj2 ⊢
        simp [prE] at hj2
        first | rw [e0, hj2] | rw [e1, hj2] | rw [e2, hj2] | rw [e3, hj2]
  · obtain ⟨i, hi, rfl⟩ := List.mem_map.1 hx
    exact (hf i (List.mem_range.1 hi)).2
theorem open_Prop {H : Type} {enc : TypeId × Value → H} {w : World} {base : Nat} {spare : Nat → Bool} {held : Bool} {a : Option Addr} {n c : Nat} {d : DataW H} {ps : List MemPlace} (h : DataW.Trod enc Try.prog w base spare held 23 (.slice a n c) d ps) :
    ∃ (A : Option Addr) (n' c' : Nat) (f : List Pr), Value.slice a n c = .slice A n' c' ∧ n' = f.length ∧ n' ≤ 9223372036854775807 ∧ View w (.slice A n' c') f.length (f.flatMap prE) ∧ ∀ x ∈ f, x.n < 4294967296 ∧ x.s.length ≤ 9223372036854775807 ∧ x.t.length ≤ 9223372036854775807 :=
  open_PropT Try.underlying23 h
end
theorem getR_snoc (l : List Pr) (k : Nat) (h : k < l.length) (id : Int) : getR (l.take (k + 1)) id = if (getR (l.take k) id).2 = true then getR (l.take k) id else if l[k].id = id then (l[k], true) else (⟨0, 0, [], []⟩, false) := by
  rw [List.take_succ_eq_append_getElem h]
  unfold getR
  rw [List.find?_append]
  cases hf : (l.take k).find? (fun x => x.id == id) with
  | some p => simp
  | none =>
    by_cases he : l[k].id = id
    · simp [he]
    · simp [he]
theorem getR_zero (l : List Pr) (id : Int) (h : (getR l id).2 = false) : (getR l id).1 = ⟨0, 0, [], []⟩ := by
  unfold getR at h ⊢
  cases hf : l.find? (fun x => x.id == id) with
  | some p => rw [hf] at h; cases h
  | none => rfl
theorem fewR_ok (l : List Pr) (h : ∀ x ∈ l, x.n < 4294967296 ∧ x.s.length ≤ 9223372036854775807 ∧ x.t.length ≤ 9223372036854775807) : (fewR l).length ≤ 8 ∧ ∀ x ∈ fewR l, x.n < 4294967296 ∧ x.s.length ≤ 20 ∧ x.t.length ≤ 20 := by
  refine ⟨by rw [fewR, List.length_map]; exact List.length_take_le _ _, fun x hx => ?_⟩
  obtain ⟨y, hy, rfl⟩ := List.mem_map.1 hx
  exact ⟨(h y (List.mem_of_mem_take hy)).1, List.length_take_le _ _, List.length_take_le _ _⟩
theorem eqPr_same (i n : Int) (s t : ByteArray) (w : World) : (Op.equalIn 10000 116 (.agg #[.int .i64 i, .int .u32 n, .string s, .string t]) (.agg #[.int .i64 i, .int .u32 n, .string s, .string t])).run Try.prog w = .ok true w := by
  have u3 := Try.underlying3
  have a3 := Try.isAgg3
  have z3 := Try.sizeOf3
  have u4 := Try.underlying22
  have a4 := Try.isAgg22
  have z4 := Try.sizeOf22
  have u9 := Try.underlying9
  have a9 := Try.isAgg9
  have z9 := Try.sizeOf9
  have hS : Try.prog.underlying 116 = some (.struct (Try.prog.fieldsOf 116)) := by kernel_rfl
  have hp : Try.prog.stoodInHeld 116 = false := by kernel_rfl
  rw [show (10000 : Nat) = 9999 + 1 from rfl, run_equalIn_agg w 9999 116 _ _ hS hp]
  simp only [Program.fieldsOf, Try.underlying116]
  go_simp
theorem eqlPr_same (i n : Int) (s t : ByteArray) (w : World) : (binOp .eql 116 (.agg #[.int .i64 i, .int .u32 n, .string s, .string t]) (.agg #[.int .i64 i, .int .u32 n, .string s, .string t])).run Try.prog w = .ok (.bool true) w := by
  rw [run_eql_struct, eqPr_same]; rfl
section
open Go.ChangeShapes Go.WideShapes Go.Deep
variable {H : Type} {enc : TypeId × Value → H} {w : World} {base : Nat} {spare : Nat → Bool} {held : Bool}
/-- Properties in a field, handed in. -/
theorem open_list {n : Nat} {u : Value} {y : DataW H × List MemPlace} (h : DataW.trod enc Try.prog w base spare held n 24 [u] = some y) :
    ∃ f : List Pr, f.length ≤ 9223372036854775807 ∧ View w u f.length (f.flatMap prE) ∧ ∀ x ∈ f, x.n < 4294967296 ∧ x.s.length ≤ 9223372036854775807 ∧ x.t.length ≤ 9223372036854775807 := by
  obtain ⟨a, l, c, he⟩ := Go.Joins.slice_form Try.underlying24 h
  simp only [List.cons.injEq, and_true] at he
  subst he
  have ht : DataW.Trod enc Try.prog w base spare held 24 (.slice a l c) y.1 y.2 := ⟨n, by simpa [Value.cells] using h⟩
  obtain ⟨A, n', c', f, e, rfl, h1, h2, h3⟩ := open_PropT Try.underlying24 ht
  rw [e]
  exact ⟨f, h1, h2, h3⟩
end
end Go.Proofs.Ythioageiebchlaa
