/- Calls on a queue handed in, as a list. No condition. -/
import Derived.Test.YtnplinohoflabaaMsOpen
namespace Go.Proofs.Ytnplinohoflabaa
open Go.RowKit
set_option linter.unusedSimpArgs false
set_option linter.unusedVariables false

/-- A call: its kind, its tick, its message with its properties. -/
structure Ac where
  kind : Int
  now : Int
  m : Ms × List Pr
instance : Inhabited Ac := ⟨⟨0, 0, (ms0, [])⟩⟩
def acC (a : Ac) : List Value := [.int .i64 a.kind, .int .i64 a.now] ++ msC a.m.1
theorem acC_len (a : Ac) : (acC a).length = 9 := rfl
def AcIn (w : World) (v : Value) (f : List Ac) : Prop :=
  f.length ≤ 9223372036854775807 ∧ View w v f.length (f.flatMap acC) ∧
  ∀ a ∈ f, View w (.slice a.m.1.A a.m.1.n a.m.1.c) a.m.2.length (a.m.2.flatMap prE) ∧ a.m.2.length ≤ 9223372036854775807 ∧ (∀ x ∈ a.m.2, x.n < 4294967296 ∧ x.s.length ≤ 9223372036854775807 ∧ x.t.length ≤ 9223372036854775807) ∧
    (0 ≤ a.m.1.q ∧ a.m.1.q < 256) ∧ (-9223372036854775808 ≤ a.m.1.at_ ∧ a.m.1.at_ ≤ 9223372036854775807) ∧ a.m.1.fr.length ≤ 9223372036854775807 ∧ a.m.1.tp.length ≤ 9223372036854775807 ∧ a.m.1.py.length ≤ 9223372036854775807
theorem list9 {α : Type} {l : List α} (h : l.length = 9) : ∃ u0 u1 u2 u3 u4 u5 u6 u7 u8, l = [u0, u1, u2, u3, u4, u5, u6, u7, u8] := by
  match l, h with
  | [u0, u1, u2, u3, u4, u5, u6, u7, u8], _ => exact ⟨u0, u1, u2, u3, u4, u5, u6, u7, u8, rfl⟩
section
open Go.ChangeShapes Go.WideShapes Go.Deep
theorem open_sub {H : Type} {enc : TypeId × Value → H} {P : Program} {w : World} {base : Nat} {spare : Nat → Bool} {held : Bool} {fuel : Nat} {t : TypeId} {fs : Array Field} {cs : List Value} {x : DataW H × List MemPlace} (hs : P.underlying t = some (.struct fs)) (hone : oneCellFields P fs = true) (hC : P.cellsOf t = fs.size)
    (h : DataW.trod enc P w base spare held fuel t cs = some x) : cs.length = fs.size ∧ ∀ (j : Nat) (f : Field), fs[j]? = some f → ∃ (m : Nat) (y : DataW H × List MemPlace), DataW.trod enc P w base spare held m f.type [cs.getD j default] = some y := by
  obtain ⟨ys, n, _, _, hlen, hyl, hat⟩ := DataW.trod_struct hs h
  refine ⟨hlen.trans hC, fun j f hj => ?_⟩
  obtain ⟨ho, hk⟩ := hone_of hone j f hj
  have h1 := hat j f hj
  rw [ho, hk] at h1
  have hjf : j < fs.size := (Array.getElem?_eq_some_iff.1 hj).1
  have hjl : j < cs.length := by rw [hlen, hC]; exact hjf
  have hone' : (cs.drop j).take 1 = [cs.getD j default] := by
    rw [List.drop_eq_getElem_cons hjl, List.getD_eq_getElem?_getD, List.getElem?_eq_getElem hjl]
    rfl
  rw [hone'] at h1
  have hys : ys[j]? = some (ys[j]'(by omega)) := List.getElem?_eq_getElem (by omega)
  exact ⟨_, _, h1.trans hys⟩
theorem open_Act {H : Type} {enc : TypeId × Value → H} {w : World} {base : Nat} {spare : Nat → Bool} {held : Bool} {a : Option Addr} {n c : Nat} {d : DataW H} {ps : List MemPlace} (h : DataW.Trod enc Try.prog w base spare held 50 (.slice a n c) d ps) :
    ∃ (A : Option Addr) (n' c' : Nat) (f : List Ac), Value.slice a n c = .slice A n' c' ∧ AcIn w (.slice A n' c') f := by
  obtain ⟨fuel, hf⟩ := h
  rcases open_slice Try.underlying50 (cs := [.slice a n c]) (by simpa [Value.cells] using hf) with ⟨h0, _⟩ | ⟨a', len, cap, m, n', D, Pl, hcs, hb, hl, hm, hmm, hx, hi⟩
  · cases h0
    exact ⟨none, 0, 0, [], rfl, by decide, View.nil w, by simp⟩
  · cases hcs
    unfold maxLen at hm
    have hlm : n ≤ m := by rw [hmm]; split <;> omega
    have hat : ∀ i, i < n → ∃ x : Ac, (∀ j, j < 9 → w.cell? (a'.add (i * 9 + j)) = (acC x)[j]?) ∧ View w (.slice x.m.1.A x.m.1.n x.m.1.c) x.m.2.length (x.m.2.flatMap prE) ∧ x.m.2.length ≤ 9223372036854775807 ∧ (∀ y ∈ x.m.2, y.n < 4294967296 ∧ y.s.length ≤ 9223372036854775807 ∧ y.t.length ≤ 9223372036854775807) ∧
        (0 ≤ x.m.1.q ∧ x.m.1.q < 256) ∧ (-9223372036854775808 ≤ x.m.1.at_ ∧ x.m.1.at_ ≤ 9223372036854775807) ∧ x.m.1.fr.length ≤ 9223372036854775807 ∧ x.m.1.tp.length ≤ 9223372036854775807 ∧ x.m.1.py.length ≤ 9223372036854775807 := by
      intro i hil
      obtain ⟨cs', hc, ht'⟩ := hi i (by omega)
      rw [show Try.prog.cellsOf 53 = 9 from by kernel_rfl] at hc
      obtain ⟨_, hcl, hat'⟩ := World.cells?_some hc
      obtain ⟨ys, n2, _, _, hlen, hyl, hfl⟩ := DataW.trod_struct Try.underlying53 ht'
      have f0 : DataW.trod enc Try.prog w base spare held n2 3 ((cs'.drop 0).take (Try.prog.cellsOf 3)) = ys[0]? := hfl 0 _ rfl
      have f1 : DataW.trod enc Try.prog w base spare held n2 3 ((cs'.drop 1).take (Try.prog.cellsOf 3)) = ys[1]? := hfl 1 _ rfl
      have f2 : DataW.trod enc Try.prog w base spare held n2 29 ((cs'.drop 2).take (Try.prog.cellsOf 29)) = ys[2]? := hfl 2 _ rfl
      rw [show Try.prog.cellsOf 3 = 1 from by kernel_rfl] at f0 f1
      rw [show Try.prog.cellsOf 29 = 7 from by kernel_rfl] at f2
      have hy3 : ys.length = 3 := hyl
      have y0 : ys[0]? = some (ys[0]'(by omega)) := List.getElem?_eq_getElem _
      have y1 : ys[1]? = some (ys[1]'(by omega)) := List.getElem?_eq_getElem _
      have y2 : ys[2]? = some (ys[2]'(by omega)) := List.getElem?_eq_getElem _
      obtain ⟨u0, u1, u2, u3, u4, u5, u6, u7, u8, rfl⟩ : ∃ u0 u1 u2 u3 u4 u5 u6 u7 u8, cs' = [u0, u1, u2, u3, u4, u5, u6, u7, u8] := list9 hcl
      have f0' : DataW.trod enc Try.prog w base spare held n2 3 [u0] = some _ := f0.trans y0
      have f1' : DataW.trod enc Try.prog w base spare held n2 3 [u1] = some _ := f1.trans y1
      have f2' : DataW.trod enc Try.prog w base spare held n2 29 [u2, u3, u4, u5, u6, u7, u8] = some _ := f2.trans y2
      obtain ⟨k0, e0, _, _⟩ := DataW.trod_int Try.underlying3 f0'
      obtain ⟨k1, e1, _, _⟩ := DataW.trod_int Try.underlying3 f1'
      simp only [List.cons.injEq, and_true] at e0 e1
      obtain ⟨_, hV⟩ := open_sub Try.underlying29 (by kernel_rfl) (by kernel_rfl) f2'
      obtain ⟨p, hp, hrest⟩ := open_ms Try.underlying29 hV
      refine ⟨⟨k0, k1, p⟩, fun j hj => ?_, hrest⟩
      have hcell := hat' j hj
      rw [add_add] at hcell
      rw [hcell]
      subst e0 e1
      have p0 := hp 0 (by decide)
      have p1 := hp 1 (by decide)
      have p2 := hp 2 (by decide)
      have p3 := hp 3 (by decide)
      have p4 := hp 4 (by decide)
      have p5 := hp 5 (by decide)
      have p6 := hp 6 (by decide)
      match j, hj with
      | 0, _ => rfl
      | 1, _ => rfl
      | 2, _ => exact p0.symm
      | 3, _ => exact p1.symm
      | 4, _ => exact p2.symm
      | 5, _ => exact p3.symm
      | 6, _ => exact p4.symm
      | 7, _ => exact p5.symm
      | 8, _ => exact p6.symm
    obtain ⟨f, hf⟩ := choose_lt hat
    have hlen : ((List.range n).map f).length = n := by simp
    refine ⟨some a', n, c, (List.range n).map f, rfl, by omega, ?_, fun x hx => ?_⟩
    · rw [hlen]
      refine ⟨_, c, rfl, ?_⟩
      by_cases hz : n = 0
      · left; subst hz; rfl
      · right
        obtain ⟨b, off, spot⟩ := a'
        have hspot : spot = none := by
          have h0 := (hf 0 (by omega)).1 0 (by decide)
          have : w.cell? ((⟨b, off, spot⟩ : Addr).add (0 * 9 + 0)) = some (.int .i64 (f 0).kind) := h0
          have := World.cell?_spot this
          simpa [Addr.add] using this
        subst hspot
        refine ⟨b, off, rfl, fun j u hj => ?_⟩
        have hjl : j < n * 9 := by
          have := (List.getElem?_eq_some_iff.1 hj).1
          rw [flat_len 9 acC acC_len, hlen] at this; exact this
        have hi : j / 9 < n := by omega
        have hm : j % 9 < 9 := by omega
        rw [show j = j / 9 * 9 + j % 9 from by omega, flat_at 9 acC acC_len _ (j / 9) (by rw [hlen]; exact hi) (j % 9) hm] at hj
        have h1 := (hf (j / 9) hi).1 (j % 9) hm
        rw [Go.WideShapes.add_plain, show off + (j / 9 * 9 + j % 9) = off + j from by omega] at h1
        rw [h1, ← hj]
        simp
    · obtain ⟨i, hi, rfl⟩ := List.mem_map.1 hx
      exact (hf i (List.mem_range.1 hi)).2
end
end Go.Proofs.Ytnplinohoflabaa
