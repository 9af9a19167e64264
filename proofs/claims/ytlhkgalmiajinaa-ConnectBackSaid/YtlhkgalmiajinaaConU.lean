/- Same of the reference of layer 6, on connects that are the same. No condition. -/
import Derived.Test.YtlhkgalmiajinaaConT
namespace Go.Proofs.Ytlhkgalmiajinaa
open Go.RowKit
set_option linter.unusedVariables false
set_option linter.unusedSimpArgs false

set_option maxRecDepth 100000 in
set_option maxHeartbeats 4000000 in
theorem rsame6_any (c : Cn) (v u v' u' : Value) (w : World) (hv : View w v c.props.length (c.props.flatMap prE)) (hu : View w u c.wp.length (c.wp.flatMap prE)) (hv' : View w v' c.props.length (c.props.flatMap prE)) (hu' : View w u' c.wp.length (c.wp.flatMap prE)) (hl : c.props.length ≤ 1000000) (hl2 : c.wp.length ≤ 1000000) :
    Calls Try.prog 29 #[.agg (cnC c v u).toArray, .agg (cnC c v' u').toArray] w fun e w' => e = .returned (.bool true) ∧ Fr [] w w' := by
  obtain ⟨clean, keep, props, id, hasWill, wp, topic, pay, qos, ret, hasUser, hasPass, user, pass⟩ := c
  dsimp only at hv hu hv' hu' hl hl2
  have HV := Lib.hid hv
  have HU := Lib.hid hu
  have HV' := Lib.hid hv'
  have HU' := Lib.hid hu'
  obtain ⟨A0, n0, rfl⟩ := view_shape hv
  obtain ⟨A1, n1, rfl⟩ := view_shape hu
  obtain ⟨A2, n2, rfl⟩ := view_shape hv'
  obtain ⟨A3, n3, rfl⟩ := view_shape hu'
  have ha0 := blk_old (blk_new w (.cells (cnC ⟨clean, keep, props, id, hasWill, wp, topic, pay, qos, ret, hasUser, hasPass, user, pass⟩ (.slice A0 props.length n0) (.slice A1 wp.length n1)).toArray 57)) (.cells (cnC ⟨clean, keep, props, id, hasWill, wp, topic, pay, qos, ret, hasUser, hasPass, user, pass⟩ (.slice A2 props.length n2) (.slice A3 wp.length n3)).toArray 57)
  have hb0 := blk_at1 w (.cells (cnC ⟨clean, keep, props, id, hasWill, wp, topic, pay, qos, ret, hasUser, hasPass, user, pass⟩ (.slice A0 props.length n0) (.slice A1 wp.length n1)).toArray 57) (.cells (cnC ⟨clean, keep, props, id, hasWill, wp, topic, pay, qos, ret, hasUser, hasPass, user, pass⟩ (.slice A2 props.length n2) (.slice A3 wp.length n3)).toArray 57)
  have F0 : Fr [] w ((w.alloc (.cells (cnC ⟨clean, keep, props, id, hasWill, wp, topic, pay, qos, ret, hasUser, hasPass, user, pass⟩ (.slice A0 props.length n0) (.slice A1 wp.length n1)).toArray 57)).alloc (.cells (cnC ⟨clean, keep, props, id, hasWill, wp, topic, pay, qos, ret, hasUser, hasPass, user, pass⟩ (.slice A2 props.length n2) (.slice A3 wp.length n3)).toArray 57)) := ((Fr.refl _ _).alloc _).alloc _
  unfold cnC at ha0 hb0 F0 ⊢
  clear hv hu hv' hu'
  go_enter Try.func29, Try.ntmps29
  go_wp2_with fail
  refine (same6_any _ _ props _ (HV.out.old F0 (by simp)) (HV'.out.old F0 (by simp)) (by omega)).mono ?_
  rintro _ x1 ⟨rfl, g1⟩
  have ha1 := g1.blk ha0 (by simp)
  have hb1 := g1.blk hb0 (by simp)
  have F1 := Lib.hid (F0.trans g1 (by simp))
  clear ha0 hb0 F0 g1
  have HA1 := Lib.hid ha1
  have HB1 := Lib.hid hb1
  obtain ⟨⟨e0, e1, e2, e3, e4, e5, e6, e7, e8, e9, e10, e11, e12, e13⟩, _, _⟩ := blk14n_facts ha1
  obtain ⟨⟨d0, d1, d2, d3, d4, d5, d6, d7, d8, d9, d10, d11, d12, d13⟩, ⟨g0_, g1_, g2_, g3_, g4_, g5_, g6_, g7_, g8_, g9_, g10_, g11_, g12_, g13_⟩, hdl_⟩ := blk14n_facts (hb1)
  clear ha1 hb1
  go_wp2_with fail
  refine (same6_any _ _ wp _ (HU.out.old F1.out (by simp)) (HU'.out.old F1.out (by simp)) (by omega)).mono ?_
  rintro _ x2 ⟨rfl, g2⟩
  have ha2 := g2.blk HA1.out (by simp)
  have hb2 := g2.blk HB1.out (by simp)
  have F2 := Lib.hid (F1.out.trans g2 (by simp))
  clear HA1 HB1 F1 g2
  clear e0 e1 e2 e3 e4 e5 e6 e7 e8 e9 e10 e11 e12 e13
  clear d0 d1 d2 d3 d4 d5 d6 d7 d8 d9 d10 d11 d12 d13 g0_ g1_ g2_ g3_ g4_ g5_ g6_ g7_ g8_ g9_ g10_ g11_ g12_ g13_ hdl_
  obtain ⟨⟨e0, e1, e2, e3, e4, e5, e6, e7, e8, e9, e10, e11, e12, e13⟩, _, _⟩ := blk14n_facts ha2
  obtain ⟨⟨d0, d1, d2, d3, d4, d5, d6, d7, d8, d9, d10, d11, d12, d13⟩, ⟨g0_, g1_, g2_, g3_, g4_, g5_, g6_, g7_, g8_, g9_, g10_, g11_, g12_, g13_⟩, hdl_⟩ := blk14n_facts (hb2)
  clear ha2 hb2
  go_wp2
  go_ret
  exact ⟨rfl, F2.out⟩
end Go.Proofs.Ytlhkgalmiajinaa
