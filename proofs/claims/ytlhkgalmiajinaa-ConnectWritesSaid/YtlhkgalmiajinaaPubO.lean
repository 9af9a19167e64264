/- A publish, an answer, handed in. No condition. -/
import Derived.Test.YtlhkgalmiajinaaPubV
import Derived.Test.YtlhkgalmiajinaaLaw
import Derived.Test.YtlhkgalmiajinaaPropOpen
namespace Go.Proofs.Ytlhkgalmiajinaa
open Go.ChangeShapes Go.WideShapes Go.Deep Go.RowKit

section
variable {H : Type} {enc : TypeId × Value → H} {w : World} {base : Nat} {spare : Nat → Bool} {held : Bool}
/-- Properties in a field, handed in. -/
theorem open_list {n : Nat} {u : Value} {y : DataW H × List MemPlace} (h : DataW.trod enc Try.prog w base spare held n 24 [u] = some y) :
    ∃ f : List Pr, f.length ≤ 9223372036854775807 ∧ View w u f.length (f.flatMap prE) ∧ ∀ x ∈ f, x.n < 4294967296 ∧ x.s.length ≤ 9223372036854775807 ∧ x.t.length ≤ 9223372036854775807 := by
  obtain ⟨a, l, c, he⟩ := Go.Joins.slice_form Try.underlying24 h
  simp only [List.cons.injEq, and_true] at he
  subst he
  have ht : DataW.Trod enc Try.prog w base spare held 24 (.slice a l c) y.1 y.2 := ⟨n, by simpa [Value.cells] using h⟩
  obtain ⟨A, n', c', f, e, rfl, h1, h2, h3⟩ := open_PropT Try.underlying24 ht
  rw [e]
  exact ⟨f, h1, h2, h3⟩
set_option maxRecDepth 100000 in
theorem open_Pb {r : Reach} {b0 : Nat} {v : Value} {d : DataW H} {ps : List MemPlace} (hv : Value.okWide Try.prog w r b0 26 v) (h : DataW.Trod enc Try.prog w base spare held 26 v d ps) :
    ∃ (p : Pb) (u : Value), v = .agg (pbC p u).toArray ∧ p.qos < 256 ∧ p.id < 4294967296 ∧ p.topic.length ≤ 9223372036854775807 ∧ p.pay.length ≤ 9223372036854775807 ∧ p.props.length ≤ 9223372036854775807 ∧ View w u p.props.length (p.props.flatMap prE) ∧ ∀ x ∈ p.props, x.n < 4294967296 ∧ x.s.length ≤ 9223372036854775807 ∧ x.t.length ≤ 9223372036854775807 := by
  obtain ⟨cs, rfl, hsz, hat⟩ := open_cells Try.underlying26 (by kernel_rfl) (by kernel_rfl) hv h
  obtain ⟨u0, u1, u2, u3, u4, u5, u6, rfl⟩ := array7 hsz
  obtain ⟨n0, y0, h0⟩ := hat 0 _ u0 rfl rfl
  obtain ⟨n1, y1, h1⟩ := hat 1 _ u1 rfl rfl
  obtain ⟨n2, y2, h2⟩ := hat 2 _ u2 rfl rfl
  obtain ⟨n3, y3, h3⟩ := hat 3 _ u3 rfl rfl
  obtain ⟨n4, y4, h4⟩ := hat 4 _ u4 rfl rfl
  obtain ⟨n5, y5, h5⟩ := hat 5 _ u5 rfl rfl
  obtain ⟨n6, y6, h6⟩ := hat 6 _ u6 rfl rfl
  obtain ⟨dup, e0, _⟩ := DataW.trod_bool Try.underlying4 h0
  obtain ⟨ret, e1, _⟩ := DataW.trod_bool Try.underlying4 h1
  obtain ⟨q, e2, _, w2⟩ := DataW.trod_int Try.underlying5 h2
  obtain ⟨i, e3, _, w3⟩ := DataW.trod_int Try.underlying22 h3
  obtain ⟨f, f1, f2, f3⟩ := open_list h4
  obtain ⟨s, e5, _, hs⟩ := DataW.trod_string Try.underlying9 h5
  obtain ⟨z, e6, _, hz⟩ := DataW.trod_string Try.underlying9 h6
  obtain ⟨l, rfl, hl⟩ := str_list s
  obtain ⟨m, rfl, hm⟩ := str_list z
  obtain ⟨a0, a1⟩ := wf_u8 w2
  obtain ⟨b0', b1⟩ := wf_u32 w3
  obtain ⟨Q, rfl⟩ := Int.eq_ofNat_of_zero_le a0
  obtain ⟨I, rfl⟩ := Int.eq_ofNat_of_zero_le b0'
  simp only [List.cons.injEq, and_true] at e0 e1 e2 e3 e5 e6
  unfold maxLen at hs hz
  subst e0 e1 e2 e3 e5 e6
  exact ⟨⟨dup, ret, Q, I, f, l, m⟩, u4, rfl, by show Q < 256; omega, by show I < _; omega, by show l.length ≤ _; omega, by show m.length ≤ _; omega, f1, f2, f3⟩
set_option maxRecDepth 100000 in
theorem open_Ak {r : Reach} {b0 : Nat} {v : Value} {d : DataW H} {ps : List MemPlace} (hv : Value.okWide Try.prog w r b0 28 v) (h : DataW.Trod enc Try.prog w base spare held 28 v d ps) :
    ∃ (a : Ak) (u : Value), v = .agg (akC a u).toArray ∧ a.id < 4294967296 ∧ a.code < 256 ∧ a.props.length ≤ 9223372036854775807 ∧ View w u a.props.length (a.props.flatMap prE) ∧ ∀ x ∈ a.props, x.n < 4294967296 ∧ x.s.length ≤ 9223372036854775807 ∧ x.t.length ≤ 9223372036854775807 := by
  obtain ⟨cs, rfl, hsz, hat⟩ := open_cells Try.underlying28 (by kernel_rfl) (by kernel_rfl) hv h
  obtain ⟨u0, u1, u2, u3, rfl⟩ := Go.Joins.array4 hsz
  obtain ⟨n0, y0, h0⟩ := hat 0 _ u0 rfl rfl
  obtain ⟨n1, y1, h1⟩ := hat 1 _ u1 rfl rfl
  obtain ⟨n2, y2, h2⟩ := hat 2 _ u2 rfl rfl
  obtain ⟨n3, y3, h3⟩ := hat 3 _ u3 rfl rfl
  obtain ⟨k, e0, _, _⟩ := DataW.trod_int Try.underlying3 h0
  obtain ⟨i, e1, _, w1⟩ := DataW.trod_int Try.underlying22 h1
  obtain ⟨c, e2, _, w2⟩ := DataW.trod_int Try.underlying5 h2
  obtain ⟨f, f1, f2, f3⟩ := open_list h3
  obtain ⟨a0, a1⟩ := wf_u8 w2
  obtain ⟨b0', b1⟩ := wf_u32 w1
  obtain ⟨Q, rfl⟩ := Int.eq_ofNat_of_zero_le a0
  obtain ⟨I, rfl⟩ := Int.eq_ofNat_of_zero_le b0'
  simp only [List.cons.injEq, and_true] at e0 e1 e2
  subst e0 e1 e2
  exact ⟨⟨k, I, Q, f⟩, u3, rfl, by show I < _; omega, by show Q < 256; omega, f1, f2, f3⟩
end
end Go.Proofs.Ytlhkgalmiajinaa
