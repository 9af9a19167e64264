/- A connect, a connack, handed in. No condition. -/
import Derived.Test.YtlhkgalmiajinaaCn
import Derived.Test.YtlhkgalmiajinaaLaw
import Derived.Test.YtlhkgalmiajinaaPropOpen
namespace Go.Proofs.Ytlhkgalmiajinaa
open Go.ChangeShapes Go.WideShapes Go.Deep Go.RowKit

theorem array14 {α : Type} {cs : Array α} (h : cs.size = 14) : ∃ c0 c1 c2 c3 c4 c5 c6 c7 c8 c9 c10 c11 c12 c13, cs = #[c0, c1, c2, c3, c4, c5, c6, c7, c8, c9, c10, c11, c12, c13] := by
  obtain ⟨l⟩ := cs
  match l, h with
  | [c0, c1, c2, c3, c4, c5, c6, c7, c8, c9, c10, c11, c12, c13], _ => exact ⟨c0, c1, c2, c3, c4, c5, c6, c7, c8, c9, c10, c11, c12, c13, rfl⟩
theorem array3n {α : Type} {cs : Array α} (h : cs.size = 3) : ∃ c0 c1 c2, cs = #[c0, c1, c2] := by
  obtain ⟨l⟩ := cs
  match l, h with
  | [c0, c1, c2], _ => exact ⟨c0, c1, c2, rfl⟩
theorem open_sub {H : Type} {enc : TypeId × Value → H} {P : Program} {w : World} {base : Nat} {spare : Nat → Bool} {held : Bool} {fuel : Nat} {t : TypeId} {fs : Array Field} {cs : List Value} {x : DataW H × List MemPlace} (hs : P.underlying t = some (.struct fs)) (hone : oneCellFields P fs = true) (hC : P.cellsOf t = fs.size)
    (h : DataW.trod enc P w base spare held fuel t cs = some x) : cs.length = fs.size ∧ ∀ (j : Nat) (f : Field), fs[j]? = some f → ∃ (m : Nat) (y : DataW H × List MemPlace), DataW.trod enc P w base spare held m f.type [cs.getD j default] = some y := by
  obtain ⟨ys, n, _, _, hlen, hyl, hat⟩ := DataW.trod_struct hs h
  refine ⟨hlen.trans hC, fun j f hj => ?_⟩
  obtain ⟨ho, hk⟩ := hone_of hone j f hj
  have h1 := hat j f hj
  rw [ho, hk] at h1
  have hjf : j < fs.size := (Array.getElem?_eq_some_iff.1 hj).1
  have hjl : j < cs.length := by rw [hlen, hC]; exact hjf
  have hone' : (cs.drop j).take 1 = [cs.getD j default] := by
    rw [List.drop_eq_getElem_cons hjl, List.getD_eq_getElem?_getD, List.getElem?_eq_getElem hjl]
    rfl
  rw [hone'] at h1
  have hys : ys[j]? = some (ys[j]'(by omega)) := List.getElem?_eq_getElem (by omega)
  exact ⟨_, _, h1.trans hys⟩
section
variable {H : Type} {enc : TypeId × Value → H} {w : World} {base : Nat} {spare : Nat → Bool} {held : Bool}
set_option maxRecDepth 100000 in
theorem open_Ck {r : Reach} {b0 : Nat} {v : Value} {d : DataW H} {ps : List MemPlace} (hv : Value.okWide Try.prog w r b0 64 v) (h : DataW.Trod enc Try.prog w base spare held 64 v d ps) :
    ∃ (a : Ck) (u : Value), v = .agg (ckC a u).toArray ∧ a.code < 256 ∧ a.props.length ≤ 9223372036854775807 ∧ View w u a.props.length (a.props.flatMap prE) ∧ ∀ x ∈ a.props, x.n < 4294967296 ∧ x.s.length ≤ 9223372036854775807 ∧ x.t.length ≤ 9223372036854775807 := by
  obtain ⟨cs, rfl, hsz, hat⟩ := open_cells Try.underlying64 (by kernel_rfl) (by kernel_rfl) hv h
  obtain ⟨u0, u1, u2, rfl⟩ := array3n hsz
  obtain ⟨n0, y0, h0⟩ := hat 0 _ u0 rfl rfl
  obtain ⟨n1, y1, h1⟩ := hat 1 _ u1 rfl rfl
  obtain ⟨n2, y2, h2⟩ := hat 2 _ u2 rfl rfl
  obtain ⟨p, e0, _⟩ := DataW.trod_bool Try.underlying4 h0
  obtain ⟨c, e1, _, w1⟩ := DataW.trod_int Try.underlying5 h1
  obtain ⟨f, f1, f2, f3⟩ := open_list h2
  obtain ⟨a0, a1⟩ := wf_u8 w1
  obtain ⟨Q, rfl⟩ := Int.eq_ofNat_of_zero_le a0
  simp only [List.cons.injEq, and_true] at e0 e1
  subst e0 e1
  exact ⟨⟨p, Q, f⟩, u2, rfl, by show Q < 256; omega, f1, f2, f3⟩
set_option maxRecDepth 100000 in
theorem open_Cn {r : Reach} {b0 : Nat} {v : Value} {d : DataW H} {ps : List MemPlace} (hv : Value.okWide Try.prog w r b0 48 v) (h : DataW.Trod enc Try.prog w base spare held 48 v d ps) :
    ∃ (c : Cn) (x y : Value), v = .agg (cnC c x y).toArray ∧ c.keep < 4294967296 ∧ c.qos < 256 ∧ c.id.length ≤ 9223372036854775807 ∧ c.topic.length ≤ 9223372036854775807 ∧ c.pay.length ≤ 9223372036854775807 ∧ c.user.length ≤ 9223372036854775807 ∧ c.pass.length ≤ 9223372036854775807 ∧
      c.props.length ≤ 9223372036854775807 ∧ c.wp.length ≤ 9223372036854775807 ∧ View w x c.props.length (c.props.flatMap prE) ∧ View w y c.wp.length (c.wp.flatMap prE) ∧ (∀ x ∈ c.props, x.n < 4294967296 ∧ x.s.length ≤ 9223372036854775807 ∧ x.t.length ≤ 9223372036854775807) ∧ ∀ x ∈ c.wp, x.n < 4294967296 ∧ x.s.length ≤ 9223372036854775807 ∧ x.t.length ≤ 9223372036854775807 := by
  obtain ⟨cs, rfl, hsz⟩ := okWide_struct Try.underlying48 hv
  rw [show Try.prog.cellsOf 48 = 14 from by kernel_rfl] at hsz
  obtain ⟨fuel, hf⟩ := h
  obtain ⟨ys, n2, _, _, hlen, hyl, hfl⟩ := DataW.trod_struct Try.underlying48 hf
  have hy10 : ys.length = 10 := hyl
  obtain ⟨u0, u1, u2, u3, u4, u5, u6, u7, u8, u9, u10, u11, u12, u13, rfl⟩ := array14 hsz
  have g0 : DataW.trod enc Try.prog w base spare held n2 4 ((([u0, u1, u2, u3, u4, u5, u6, u7, u8, u9, u10, u11, u12, u13] : List Value).drop 0).take (Try.prog.cellsOf 4)) = ys[0]? := hfl 0 _ rfl
  rw [show Try.prog.cellsOf 4 = 1 from by kernel_rfl] at g0
  have h0 : DataW.trod enc Try.prog w base spare held n2 4 [u0] = some _ := g0.trans (List.getElem?_eq_getElem (by omega))
  have g1 : DataW.trod enc Try.prog w base spare held n2 22 ((([u0, u1, u2, u3, u4, u5, u6, u7, u8, u9, u10, u11, u12, u13] : List Value).drop 1).take (Try.prog.cellsOf 22)) = ys[1]? := hfl 1 _ rfl
  rw [show Try.prog.cellsOf 22 = 1 from by kernel_rfl] at g1
  have h1 : DataW.trod enc Try.prog w base spare held n2 22 [u1] = some _ := g1.trans (List.getElem?_eq_getElem (by omega))
  have g2 : DataW.trod enc Try.prog w base spare held n2 24 ((([u0, u1, u2, u3, u4, u5, u6, u7, u8, u9, u10, u11, u12, u13] : List Value).drop 2).take (Try.prog.cellsOf 24)) = ys[2]? := hfl 2 _ rfl
  rw [show Try.prog.cellsOf 24 = 1 from by kernel_rfl] at g2
  have h2 : DataW.trod enc Try.prog w base spare held n2 24 [u2] = some _ := g2.trans (List.getElem?_eq_getElem (by omega))
  have g3 : DataW.trod enc Try.prog w base spare held n2 9 ((([u0, u1, u2, u3, u4, u5, u6, u7, u8, u9, u10, u11, u12, u13] : List Value).drop 3).take (Try.prog.cellsOf 9)) = ys[3]? := hfl 3 _ rfl
  rw [show Try.prog.cellsOf 9 = 1 from by kernel_rfl] at g3
  have h3 : DataW.trod enc Try.prog w base spare held n2 9 [u3] = some _ := g3.trans (List.getElem?_eq_getElem (by omega))
  have g4 : DataW.trod enc Try.prog w base spare held n2 4 ((([u0, u1, u2, u3, u4, u5, u6, u7, u8, u9, u10, u11, u12, u13] : List Value).drop 4).take (Try.prog.cellsOf 4)) = ys[4]? := hfl 4 _ rfl
  rw [show Try.prog.cellsOf 4 = 1 from by kernel_rfl] at g4
  have h4 : DataW.trod enc Try.prog w base spare held n2 4 [u4] = some _ := g4.trans (List.getElem?_eq_getElem (by omega))
  have g5 : DataW.trod enc Try.prog w base spare held n2 46 ((([u0, u1, u2, u3, u4, u5, u6, u7, u8, u9, u10, u11, u12, u13] : List Value).drop 5).take (Try.prog.cellsOf 46)) = ys[5]? := hfl 5 _ rfl
  rw [show Try.prog.cellsOf 46 = 5 from by kernel_rfl] at g5
  have h5 : DataW.trod enc Try.prog w base spare held n2 46 [u5, u6, u7, u8, u9] = some _ := g5.trans (List.getElem?_eq_getElem (by omega))
  have g6 : DataW.trod enc Try.prog w base spare held n2 4 ((([u0, u1, u2, u3, u4, u5, u6, u7, u8, u9, u10, u11, u12, u13] : List Value).drop 10).take (Try.prog.cellsOf 4)) = ys[6]? := hfl 6 _ rfl
  rw [show Try.prog.cellsOf 4 = 1 from by kernel_rfl] at g6
  have h6 : DataW.trod enc Try.prog w base spare held n2 4 [u10] = some _ := g6.trans (List.getElem?_eq_getElem (by omega))
  have g7 : DataW.trod enc Try.prog w base spare held n2 4 ((([u0, u1, u2, u3, u4, u5, u6, u7, u8, u9, u10, u11, u12, u13] : List Value).drop 11).take (Try.prog.cellsOf 4)) = ys[7]? := hfl 7 _ rfl
  rw [show Try.prog.cellsOf 4 = 1 from by kernel_rfl] at g7
  have h7 : DataW.trod enc Try.prog w base spare held n2 4 [u11] = some _ := g7.trans (List.getElem?_eq_getElem (by omega))
  have g8 : DataW.trod enc Try.prog w base spare held n2 9 ((([u0, u1, u2, u3, u4, u5, u6, u7, u8, u9, u10, u11, u12, u13] : List Value).drop 12).take (Try.prog.cellsOf 9)) = ys[8]? := hfl 8 _ rfl
  rw [show Try.prog.cellsOf 9 = 1 from by kernel_rfl] at g8
  have h8 : DataW.trod enc Try.prog w base spare held n2 9 [u12] = some _ := g8.trans (List.getElem?_eq_getElem (by omega))
  have g9 : DataW.trod enc Try.prog w base spare held n2 9 ((([u0, u1, u2, u3, u4, u5, u6, u7, u8, u9, u10, u11, u12, u13] : List Value).drop 13).take (Try.prog.cellsOf 9)) = ys[9]? := hfl 9 _ rfl
  rw [show Try.prog.cellsOf 9 = 1 from by kernel_rfl] at g9
  have h9 : DataW.trod enc Try.prog w base spare held n2 9 [u13] = some _ := g9.trans (List.getElem?_eq_getElem (by omega))
  obtain ⟨_, hV⟩ := open_sub Try.underlying46 (by kernel_rfl) (by kernel_rfl) h5
  obtain ⟨q0, z0, w0⟩ := hV 0 _ rfl
  obtain ⟨q1, z1, w1⟩ := hV 1 _ rfl
  obtain ⟨q2, z2, w2⟩ := hV 2 _ rfl
  obtain ⟨q3, z3, w3⟩ := hV 3 _ rfl
  obtain ⟨q4, z4, w4⟩ := hV 4 _ rfl
  obtain ⟨clean, e0, _⟩ := DataW.trod_bool Try.underlying4 h0
  obtain ⟨K, e1, _, wk⟩ := DataW.trod_int Try.underlying22 h1
  obtain ⟨f, f1, f2, f3⟩ := open_list h2
  obtain ⟨sid, e3, _, lid⟩ := DataW.trod_string Try.underlying9 h3
  obtain ⟨hw, e4, _⟩ := DataW.trod_bool Try.underlying4 h4
  obtain ⟨fw, fw1, fw2, fw3⟩ := open_list w0
  obtain ⟨sto, e6, _, lto⟩ := DataW.trod_string Try.underlying9 w1
  obtain ⟨spa, e7, _, lpa⟩ := DataW.trod_string Try.underlying9 w2
  obtain ⟨Q, e8, _, wq⟩ := DataW.trod_int Try.underlying5 w3
  obtain ⟨rt, e9, _⟩ := DataW.trod_bool Try.underlying4 w4
  obtain ⟨hu, e10, _⟩ := DataW.trod_bool Try.underlying4 h6
  obtain ⟨hps, e11, _⟩ := DataW.trod_bool Try.underlying4 h7
  obtain ⟨sus, e12, _, lus⟩ := DataW.trod_string Try.underlying9 h8
  obtain ⟨spw, e13, _, lpw⟩ := DataW.trod_string Try.underlying9 h9
  obtain ⟨l3, rfl, b3⟩ := str_list sid
  obtain ⟨l6, rfl, b6⟩ := str_list sto
  obtain ⟨l7, rfl, b7⟩ := str_list spa
  obtain ⟨l12, rfl, b12⟩ := str_list sus
  obtain ⟨l13, rfl, b13⟩ := str_list spw
  obtain ⟨a0, a1⟩ := wf_u32 wk
  obtain ⟨c0, c1⟩ := wf_u8 wq
  obtain ⟨K', rfl⟩ := Int.eq_ofNat_of_zero_le a0
  obtain ⟨Q', rfl⟩ := Int.eq_ofNat_of_zero_le c0
  simp only [List.cons.injEq, and_true, List.getD_cons_zero, List.getD_cons_succ] at e0 e1 e3 e4 e6 e7 e8 e9 e10 e11 e12 e13 fw2
  unfold maxLen at lid lto lpa lus lpw
  subst e0 e1 e3 e4 e6 e7 e8 e9 e10 e11 e12 e13
  exact ⟨⟨clean, K', f, l3, hw, fw, l6, l7, Q', rt, hu, hps, l12, l13⟩, u2, u5, rfl, by show K' < _; omega, by show Q' < _; omega, by show l3.length ≤ _; omega, by show l6.length ≤ _; omega, by show l7.length ≤ _; omega, by show l12.length ≤ _; omega, by show l13.length ≤ _; omega, f1, fw1, f2, fw2, f3, fw3⟩
end
end Go.Proofs.Ytlhkgalmiajinaa
