/- A subscribe, handed in. No condition. -/
import Derived.Test.YthioageiebchlaaPlainT
import Derived.Test.YthioageiebchlaaLaw
import Derived.Test.YthioageiebchlaaPropOpen
namespace Go.Proofs.Ythioageiebchlaa
open Go.ChangeShapes Go.WideShapes Go.Deep Go.RowKit

instance : Inhabited Sb := ⟨⟨[], 0, false, false, 0⟩⟩
theorem array3s {α : Type} {cs : Array α} (h : cs.size = 3) : ∃ c0 c1 c2, cs = #[c0, c1, c2] := by
  obtain ⟨l⟩ := cs
  match l, h with
  | [c0, c1, c2], _ => exact ⟨c0, c1, c2, rfl⟩
section
variable {H : Type} {enc : TypeId × Value → H} {w : World} {base : Nat} {spare : Nat → Bool} {held : Bool}
theorem open_subs {m : Nat} {u : Value} {y : DataW H × List MemPlace} (h : DataW.trod enc Try.prog w base spare held m 25 [u] = some y) :
    ∃ f : List Sb, f.length ≤ 9223372036854775807 ∧ View w u f.length (f.flatMap sbE) ∧ ∀ x ∈ f, SbOk x := by
  obtain ⟨a, l, c, he⟩ := Go.Joins.slice_form Try.underlying25 h
  simp only [List.cons.injEq, and_true] at he
  subst he
  obtain ⟨A, n', c', V, hv, ⟨hc, hcm⟩, hA, hV⟩ := open_flat (v := .slice a l c) Try.underlying25 Try.underlying35 (by kernel_rfl) (by kernel_rfl) (by decide) h
  have hch : ∀ i, i < n' → ∃ x : Sb, (V i 0 = .string ⟨x.filter.toArray⟩ ∧ V i 1 = .int .u8 x.qos ∧ V i 2 = .bool x.nl ∧ V i 3 = .bool x.ap ∧ V i 4 = .int .u8 x.handling) ∧ SbOk x := by
    intro i hi
    obtain ⟨m0, y0, h0⟩ := hV i hi 0 _ rfl
    obtain ⟨m1, y1, h1⟩ := hV i hi 1 _ rfl
    obtain ⟨m2, y2, h2⟩ := hV i hi 2 _ rfl
    obtain ⟨m3, y3, h3⟩ := hV i hi 3 _ rfl
    obtain ⟨m4, y4, h4⟩ := hV i hi 4 _ rfl
    obtain ⟨s, e0, _, hs⟩ := DataW.trod_string Try.underlying9 h0
    obtain ⟨q, e1, _, wq⟩ := DataW.trod_int Try.underlying5 h1
    obtain ⟨nl, e2, _⟩ := DataW.trod_bool Try.underlying4 h2
    obtain ⟨ap, e3, _⟩ := DataW.trod_bool Try.underlying4 h3
    obtain ⟨hd, e4, _, wh⟩ := DataW.trod_int Try.underlying5 h4
    obtain ⟨fl, rfl, hl⟩ := str_list s
    obtain ⟨g0, g1⟩ := wf_u8 wq
    obtain ⟨Q, rfl⟩ := Int.eq_ofNat_of_zero_le g0
    obtain ⟨g2, g3⟩ := wf_u8 wh
    obtain ⟨D, rfl⟩ := Int.eq_ofNat_of_zero_le g2
    simp only [List.cons.injEq, and_true] at e0 e1 e2 e3 e4
    unfold maxLen at hs
    exact ⟨⟨fl, Q, nl, ap, D⟩, ⟨e0, e1, e2, e3, e4⟩, by show Q < 256; omega, by show D < 256; omega, by show fl.length ≤ _; omega⟩
  obtain ⟨f, hf⟩ := choose_lt hch
  unfold maxLen at hcm
  have hlen : ((List.range n').map f).length = n' := by simp
  rw [hv]
  refine ⟨(List.range n').map f, by omega, ?_, fun x hx => ?_⟩
  · rw [hlen]
    refine ⟨A, c', rfl, ?_⟩
    rcases hA with rfl | ⟨b, off, hAe, hcell⟩
    · exact Or.inl rfl
    · refine Or.inr ⟨b, off, hAe, fun j u hj => ?_⟩
      have hjl : j < n' * 5 := by
        have := (List.getElem?_eq_some_iff.1 hj).1
        rw [flat_len 5 sbE sbE_len, hlen] at this; exact this
      have hi : j / 5 < n' := by omega
      have hm : j % 5 < 5 := by omega
      have hj2 : (sbE (f (j / 5)))[j % 5]? = some u := by
        rw [show j = j / 5 * 5 + j % 5 from by omega, flat_at 5 sbE sbE_len _ (j / 5) (by rw [hlen]; exact hi) (j % 5) hm] at hj
        simpa using hj
      obtain ⟨⟨e0, e1, e2, e3, e4⟩, _⟩ := hf (j / 5) hi
      have hc4 : w.cell? ⟨b, off + (j / 5 * 5 + j % 5), none⟩ = some (V (j / 5) (j % 5)) := hcell (j / 5) hi (j % 5) hm
      rw [show off + (j / 5 * 5 + j % 5) = off + j from by omega] at hc4
      rw [hc4]
      have h4 : j % 5 = 0 ∨ j % 5 = 1 ∨ j % 5 = 2 ∨ j % 5 = 3 ∨ j % 5 = 4 := by omega
      rcases h4 with h4 | h4 | h4 | h4 | h4
      all_goals
        rw [h4] at hj2 ⊢
        simp [sbE] at hj2
        first | rw [e0, hj2] | rw [e1, hj2] | rw [e2, hj2] | rw [e3, hj2] | rw [e4, hj2]
  · obtain ⟨i, hi, rfl⟩ := List.mem_map.1 hx
    exact (hf i (List.mem_range.1 hi)).2
set_option maxRecDepth 100000 in
theorem open_Su {r : Reach} {b0 : Nat} {v : Value} {d : DataW H} {ps : List MemPlace} (hv : Value.okWide Try.prog w r b0 27 v) (h : DataW.Trod enc Try.prog w base spare held 27 v d ps) :
    ∃ (s : Su) (x y : Value), v = .agg (suC s x y).toArray ∧ s.id < 4294967296 ∧ View w x s.props.length (s.props.flatMap prE) ∧ View w y s.subs.length (s.subs.flatMap sbE) ∧ s.props.length ≤ 9223372036854775807 ∧ s.subs.length ≤ 9223372036854775807 ∧ PrsOk s.props ∧ ∀ x ∈ s.subs, SbOk x := by
  obtain ⟨cs, rfl, hsz, hat⟩ := open_cells Try.underlying27 (by kernel_rfl) (by kernel_rfl) hv h
  obtain ⟨u0, u1, u2, rfl⟩ := array3s hsz
  obtain ⟨n0, y0, h0⟩ := hat 0 _ u0 rfl rfl
  obtain ⟨n1, y1, h1⟩ := hat 1 _ u1 rfl rfl
  obtain ⟨n2, y2, h2⟩ := hat 2 _ u2 rfl rfl
  obtain ⟨c, e0, _, w0⟩ := DataW.trod_int Try.underlying22 h0
  obtain ⟨f, f1, f2, f3⟩ := open_list h1
  obtain ⟨g, g1, g2, g3⟩ := open_subs h2
  obtain ⟨a0, a1⟩ := wf_u32 w0
  obtain ⟨Q, rfl⟩ := Int.eq_ofNat_of_zero_le a0
  simp only [List.cons.injEq, and_true] at e0
  subst e0
  exact ⟨⟨Q, f, g⟩, u1, u2, rfl, by show Q < _; omega, f2, g2, f1, g1, f3, g3⟩
end
end Go.Proofs.Ythioageiebchlaa
