/- The walk of the law ConnectWrites. -/
import Derived.Test.YtlhkgalmiajinaaConAwake
import Derived.Test.YtlhkgalmiajinaaConR
import Derived.Test.YtlhkgalmiajinaaConV
import Derived.Test.YtlhkgalmiajinaaLaw
namespace Go.Proofs.Ytlhkgalmiajinaa
open Go.RowKit
set_option linter.unusedVariables false
set_option linter.unusedSimpArgs false

theorem fewC_b (c : Cn) (h1 : c.keep < 4294967296) (h2 : c.qos < 256) (ho : ∀ x ∈ c.props, x.n < 4294967296 ∧ x.s.length ≤ 9223372036854775807 ∧ x.t.length ≤ 9223372036854775807) (ho2 : ∀ x ∈ c.wp, x.n < 4294967296 ∧ x.s.length ≤ 9223372036854775807 ∧ x.t.length ≤ 9223372036854775807) : CnB (fewC c) := by
  obtain ⟨a1, a2⟩ := fewR_ok c.props ho
  obtain ⟨b1, b2⟩ := fewR_ok c.wp ho2
  have ht : ∀ s : List UInt8, (s.take 30).length ≤ 9223372036854775807 := fun s => Nat.le_trans (List.length_take_le 30 s) (by decide)
  exact ⟨h1, h2, by show (fewR c.props).length ≤ _; omega, by show (fewR c.wp).length ≤ _; omega, fun x hx => by obtain ⟨p, q, r⟩ := a2 x hx; exact ⟨p, by omega, by omega⟩, fun x hx => by obtain ⟨p, q, r⟩ := b2 x hx; exact ⟨p, by omega, by omega⟩, ht _, ht _, ht _, ht _, ht _⟩
set_option maxRecDepth 100000 in
set_option maxHeartbeats 8000000 in
theorem connectWrites_walk (c : Cn) (v u : Value) (a : Ck) (v' : Value) (w : World) (h1 : c.keep < 4294967296) (h2 : c.qos < 256) (hi : c.id.length ≤ 9223372036854775807) (ht : c.topic.length ≤ 9223372036854775807) (hp : c.pay.length ≤ 9223372036854775807) (hus : c.user.length ≤ 9223372036854775807) (hps : c.pass.length ≤ 9223372036854775807)
    (hl : c.props.length ≤ 9223372036854775807) (hl2 : c.wp.length ≤ 9223372036854775807) (hv : View w v c.props.length (c.props.flatMap prE)) (hu : View w u c.wp.length (c.wp.flatMap prE)) (ho : ∀ x ∈ c.props, x.n < 4294967296 ∧ x.s.length ≤ 9223372036854775807 ∧ x.t.length ≤ 9223372036854775807) (ho2 : ∀ x ∈ c.wp, x.n < 4294967296 ∧ x.s.length ≤ 9223372036854775807 ∧ x.t.length ≤ 9223372036854775807)
    (hc : a.code < 256) (hl' : a.props.length ≤ 9223372036854775807) (hv' : View w v' a.props.length (a.props.flatMap prE)) (hok' : ∀ x ∈ a.props, x.n < 4294967296 ∧ x.s.length ≤ 9223372036854775807 ∧ x.t.length ≤ 9223372036854775807) :
    Calls Try.prog 6 #[.agg (cnC c v u).toArray, .agg (ckC a v').toArray] w fun e w' => e = .returned (.bool true) ∧ Fr [] w w' := by
  have HCB := Lib.hid (fewC_b c h1 h2 ho ho2)
  have hFew := few6_any c v u ((w.alloc (.cells (cnC c v u).toArray 48)).alloc (.cells (ckC a v').toArray 64))
  have F0 : Fr [] w ((w.alloc (.cells (cnC c v u).toArray 48)).alloc (.cells (ckC a v').toArray 64)) := ((Fr.refl _ _).alloc _).alloc _
  have hF := Lib.hid (hFew (hv.old F0 (by simp)) (hu.old F0 (by simp)) hl hl2 (fun x hx => (ho x hx).2) (fun x hx => (ho2 x hx).2) hi ht hp hus hps)
  have HK0 := Lib.hid (fewR_ok a.props hok')
  have HVW := Lib.hid hv'
  have HO0 := Lib.hid (fun x hx => (hok' x hx).2 : ∀ x ∈ a.props, x.s.length ≤ 9223372036854775807 ∧ x.t.length ≤ 9223372036854775807)
  clear hFew hok' ho ho2 h1 h2 hi ht hp hus hps
  obtain ⟨pr, cd, lp⟩ := a
  dsimp only at hc hl' hv' hF HK0 HVW HO0 F0 ⊢
  obtain ⟨Ap, np, rfl⟩ := view_shape hv'
  obtain ⟨C0, hC0⟩ : ∃ C0, fewC c = C0 := ⟨_, rfl⟩
  rw [hC0] at hF HCB
  have hb0 := blk_old (blk_new w (.cells (cnC c v u).toArray 48)) (.cells (ckC ⟨pr, cd, lp⟩ (.slice Ap lp.length np)).toArray 64)
  have ha0 := blk_at1 w (.cells (cnC c v u).toArray 48) (.cells (ckC ⟨pr, cd, lp⟩ (.slice Ap lp.length np)).toArray 64)
  clear hC0 hv hu hv' hl hl2
  obtain ⟨CL, hCL⟩ : ∃ CL, cnC c v u = CL := ⟨_, rfl⟩
  have hCl : CL.length = 14 := by rw [← hCL]; rfl
  rw [hCL] at hF F0 hb0 ha0 ⊢
  clear hCL
  go_enter Try.func6, Try.ntmps6
  go_upto_region 1 with (fail)
  obtain ⟨y, hy⟩ : ∃ y, (w.alloc (.cells CL.toArray 48)).alloc (.cells (ckC ⟨pr, cd, lp⟩ (.slice Ap lp.length np)).toArray 64) = y := ⟨_, rfl⟩
  rw [hy] at hF F0 hb0 ha0 ⊢
  clear hy
  refine wp_region_lit ?_
  refine wpList_load_mid rfl 48 _ rfl w.heap.size 0 (by rfl) CL _ (range_blk hb0 rfl) Try.underlying48 rfl (by rw [hCl]; kernel_rfl) ?_
  refine wpList_plain rfl fun K hK => ?_
  go_wp2_with fail
  refine hF.out.mono ?_
  rintro _ y2 ⟨v2, u2, rfl, V2, U2, g2, k2, l2⟩
  refine hK _ _ ?_
  obtain ⟨clean, keep, props, id, hasWill, wp, topic, pay, qos, ret, hasUser, hasPass, user, pass⟩ := C0
  dsimp only at V2 U2
  obtain ⟨A2, n2, rfl⟩ := view_shape V2
  obtain ⟨A3, n3, rfl⟩ := view_shape U2
  have hb1 := g2.blk hb0 (by simp)
  have hyl := blk_lt ha0
  refine wpList_store_row rfl 48 _ _ rfl w.heap.size (cnC ⟨clean, keep, props, id, hasWill, wp, topic, pay, qos, ret, hasUser, hasPass, user, pass⟩ (.slice A2 props.length n2) (.slice A3 wp.length n3)).toArray (by rfl) (by rfl) _ _ hb1 (by kernel_rfl) (by rw [List.size_toArray, hCl]; rfl) (cn_one _ _ _ rfl rfl) ?_
  have gs : Fr [w.heap.size] y2 (y2.setRow w.heap.size (cnC ⟨clean, keep, props, id, hasWill, wp, topic, pay, qos, ret, hasUser, hasPass, user, pass⟩ (.slice A2 props.length n2) (.slice A3 wp.length n3)).toArray) := fr_row (Fr.refl _ _) (Or.inr (by simp)) _
  have HB1 := Lib.hid (setRow_heap _ _ _ (cnC ⟨clean, keep, props, id, hasWill, wp, topic, pay, qos, ret, hasUser, hasPass, user, pass⟩ (.slice A2 props.length n2) (.slice A3 wp.length n3)).toArray _ _ hb1)
  have F1 := Lib.hid (fr_row (F0.trans g2 (by simp)) (g := w.heap.size) (Or.inl (Nat.le_refl _)) (cnC ⟨clean, keep, props, id, hasWill, wp, topic, pay, qos, ret, hasUser, hasPass, user, pass⟩ (.slice A2 props.length n2) (.slice A3 wp.length n3)).toArray)
  have HA1 := Lib.hid (gs.blk (g2.blk ha0 (by simp)) (by simp))
  have HV2 := Lib.hid V2
  have HU2 := Lib.hid U2
  have HK2 := Lib.hid k2
  have HL2 := Lib.hid l2
  have GS := Lib.hid gs
  clear hF V2 U2 k2 l2 F0 hb0 ha0 hb1 hK gs hCl
  go_upto_region 2 with (fail)
  obtain ⟨z, hz⟩ : ∃ z, y2.setRow w.heap.size (cnC ⟨clean, keep, props, id, hasWill, wp, topic, pay, qos, ret, hasUser, hasPass, user, pass⟩ (.slice A2 props.length n2) (.slice A3 wp.length n3)).toArray = z := ⟨_, rfl⟩
  rw [hz] at HB1 F1 HA1 GS ⊢
  clear hz
  have hyz : y.heap.size ≤ z.heap.size := Nat.le_trans g2.size GS.out.size
  unfold ckC at HA1 ⊢
  obtain ⟨⟨i0, i1, i2⟩, _, _⟩ := blk3_facts HA1.out
  go_wp2_with fail
  refine (few_any (.slice Ap lp.length np) lp _ (HVW.out.old F1.out (by simp)) hl' HO0.out).mono ?_
  rintro _ x1 ⟨v4, rfl, own4, g4⟩
  obtain ⟨A4, n4, rfl⟩ := own_shape own4
  have HKB := Lib.hid (show CkB ⟨pr, cd, fewR lp⟩ from ⟨hc, by show (fewR lp).length ≤ 1000; have := HK0.out.1; omega, fun x hx => by obtain ⟨p, q, r⟩ := HK0.out.2 x hx; exact ⟨p, by omega, by omega⟩⟩)
  have V4 := own_view own4
  have low4 := own_low own4
  have ha1 := g4.blk HA1.out (by simp)
  have hb1 := g4.blk HB1.out (by simp)
  have F2 := F1.out.trans g4 (by simp)
  clear i0 i1 i2 HA1 HB1 HK0 HO0 HVW own4
  generalize fewR lp = ll at *
  obtain ⟨⟨i0, i1, i2⟩, ⟨j0, j1, j2⟩, _⟩ := blk3_facts ha1
  have gs4 : Fr [w.heap.size + 1] x1 (x1.setCell ⟨w.heap.size + 1, 2, none⟩ (.slice A4 ll.length n4)) := (Fr.refl _ _).setCell (Or.inr (by simp)) _
  have ha2 := blk_set ha1 2 (.slice A4 ll.length n4)
  have hb2 := gs4.blk hb1 (by simp)
  have F3 := F2.trans gs4 (by intro x hx e; simp at e; omega)
  have V4' := V4.fr gs4 (fun k hk e => by have := low4 k hk; simp at e; omega)
  have gz : Fr [w.heap.size, w.heap.size + 1] y2 (x1.setCell ⟨w.heap.size + 1, 2, none⟩ (.slice A4 ll.length n4)) := ((GS.out.trans g4 (by simp)).mono (T := [w.heap.size, w.heap.size + 1]) (by intro x hx e; simp at e ⊢; omega)).trans gs4 (by intro x hx e; simp at e ⊢; omega)
  have VV := HV2.out.fr gz (fun k hk e => by have := HK2.out k hk; simp at e; omega)
  have VU := HU2.out.fr gz (fun k hk e => by have := HL2.out k hk; simp at e; omega)
  clear F2 gs4 V4 HV2 HU2 HK2 HL2 GS gz hb1 ha1 low4
  go_upto_region 3 with (fail)
  obtain ⟨z2, hz⟩ : ∃ z2, x1.setCell ⟨w.heap.size + 1, 2, none⟩ (.slice A4 ll.length n4) = z2 := ⟨_, rfl⟩
  rw [hz] at ha2 hb2 F3 V4' VV VU ⊢
  clear hz i0 i1 i2 j0 j1 j2 g4 g2
  have fd := (Fr.refl [] z2).drew
  unfold cnC at hb2
  obtain ⟨wd, hwd⟩ : ∃ wd, z2.drew = wd := ⟨_, rfl⟩
  have hS : (fun w' => (w'.cell? ⟨w.heap.size, 0, none⟩ = some (.bool clean) ∧ w'.cell? ⟨w.heap.size, 1, none⟩ = some (.int .u32 (keep : Int)) ∧ w'.cell? ⟨w.heap.size, 2, none⟩ = some (.slice A2 props.length n2) ∧ w'.cell? ⟨w.heap.size, 3, none⟩ = some (.string ⟨id.toArray⟩) ∧ w'.cell? ⟨w.heap.size, 4, none⟩ = some (.bool hasWill) ∧ w'.cell? ⟨w.heap.size, 5, none⟩ = some (.slice A3 wp.length n3) ∧ w'.cell? ⟨w.heap.size, 6, none⟩ = some (.string ⟨topic.toArray⟩) ∧ w'.cell? ⟨w.heap.size, 7, none⟩ = some (.string ⟨pay.toArray⟩) ∧ w'.cell? ⟨w.heap.size, 8, none⟩ = some (.int .u8 (qos : Int)) ∧ w'.cell? ⟨w.heap.size, 9, none⟩ = some (.bool ret) ∧ w'.cell? ⟨w.heap.size, 10, none⟩ = some (.bool hasUser) ∧ w'.cell? ⟨w.heap.size, 11, none⟩ = some (.bool hasPass) ∧ w'.cell? ⟨w.heap.size, 12, none⟩ = some (.string ⟨user.toArray⟩) ∧ w'.cell? ⟨w.heap.size, 13, none⟩ = some (.string ⟨pass.toArray⟩)) ∧ w'.cell? ⟨w.heap.size + 1, 0, none⟩ = some (.bool pr) ∧ w'.cell? ⟨w.heap.size + 1, 1, none⟩ = some (.int .u8 (cd : Int)) ∧ w'.cell? ⟨w.heap.size + 1, 2, none⟩ = some (.slice A4 ll.length n4)) z2 := ⟨(blk14n_facts hb2).1, (blk3_facts ha2).1⟩
  refine wp_region_late [] (S := (fun w' => (w'.cell? ⟨w.heap.size, 0, none⟩ = some (.bool clean) ∧ w'.cell? ⟨w.heap.size, 1, none⟩ = some (.int .u32 (keep : Int)) ∧ w'.cell? ⟨w.heap.size, 2, none⟩ = some (.slice A2 props.length n2) ∧ w'.cell? ⟨w.heap.size, 3, none⟩ = some (.string ⟨id.toArray⟩) ∧ w'.cell? ⟨w.heap.size, 4, none⟩ = some (.bool hasWill) ∧ w'.cell? ⟨w.heap.size, 5, none⟩ = some (.slice A3 wp.length n3) ∧ w'.cell? ⟨w.heap.size, 6, none⟩ = some (.string ⟨topic.toArray⟩) ∧ w'.cell? ⟨w.heap.size, 7, none⟩ = some (.string ⟨pay.toArray⟩) ∧ w'.cell? ⟨w.heap.size, 8, none⟩ = some (.int .u8 (qos : Int)) ∧ w'.cell? ⟨w.heap.size, 9, none⟩ = some (.bool ret) ∧ w'.cell? ⟨w.heap.size, 10, none⟩ = some (.bool hasUser) ∧ w'.cell? ⟨w.heap.size, 11, none⟩ = some (.bool hasPass) ∧ w'.cell? ⟨w.heap.size, 12, none⟩ = some (.string ⟨user.toArray⟩) ∧ w'.cell? ⟨w.heap.size, 13, none⟩ = some (.string ⟨pass.toArray⟩)) ∧ w'.cell? ⟨w.heap.size + 1, 0, none⟩ = some (.bool pr) ∧ w'.cell? ⟨w.heap.size + 1, 1, none⟩ = some (.int .u8 (cd : Int)) ∧ w'.cell? ⟨w.heap.size + 1, 2, none⟩ = some (.slice A4 ll.length n4))) (by kernel_rfl) hS (fun hHeld => ?_)
  rw [hwd] at hHeld fd ⊢
  have HB := Lib.hid (fd.blk hb2 (by simp))
  have HA : Hid (wd.heap[w.heap.size + 1]? = some (.cells #[.bool pr, .int .u8 (cd : Int), .slice A4 ll.length n4] 64 (0, 0))) := Lib.hid (fd.blk ha2 (by simp))
  have HOK := Lib.hid (CnB.ok (c := ⟨clean, keep, props, id, hasWill, wp, topic, pay, qos, ret, hasUser, hasPass, user, pass⟩) HCB.out (VV.old fd (by simp)) (VU.old fd (by simp)))
  have HV4 := Lib.hid (V4'.old fd (by simp))
  have FZ := Lib.hid (F3.trans fd (by simp))
  have GG := Lib.hid (Fr.refl [] wd)
  clear hS hwd fd hb2 ha2 F3 V4' VV VU
  refine wpLate_ready (rs := [0]) (by kernel_rfl) (by simp) ?_
  refine AllLate.cons (o := _) rfl (fun K hK => ?_) (by exact AllLate.nil)
  go_simp
  refine (awake6_any _).mono ?_
  rintro _ x0 ⟨rfl, f⟩
  go_wp2_with fail
  have G0 := Lib.hid (GG.out.trans f (by simp))
  clear f GG
  have GG := G0
  clear G0
  refine hK.out _ _ (fun _ => ⟨(blk14n_facts (GG.out.blk HB.out (by simp))).1, (blk3_facts (GG.out.blk HA.out (by simp))).1⟩) (fun hHeld => ?_)
  replace hHeld := hHeld (by kernel_rfl)
  clear hK K
  try simp only [Act.put, List.getElem_toArray, List.getElem_cons_succ, List.getElem_cons_zero, List.setIfInBounds_toArray, List.set_cons_zero, List.set_cons_succ]
  refine wpLate_take (i := 1) (oi := _) (v := ?_) rfl (by kernel_rfl) (by kernel_rfl) (by kernel_rfl) (by kernel_rfl) (fun _ _ _ h => h) (Gives.load (by rfl) ?_) hHeld ?_
  rotate_left
  · intro w hSw
    (try dsimp only at hSw)
    go_simp
    try with_reducible rfl
  try simp only [Act.put, List.getElem_toArray, List.getElem_cons_succ, List.getElem_cons_zero, List.setIfInBounds_toArray, List.set_cons_zero, List.set_cons_succ]
  refine wpLate_take (i := 2) (oi := _) (v := ?_) rfl (by kernel_rfl) (by kernel_rfl) (by kernel_rfl) (by kernel_rfl) (fun _ _ _ h => h) (Gives.load (by rfl) ?_) hHeld ?_
  rotate_left
  · intro w hSw
    (try dsimp only at hSw)
    go_simp
    try with_reducible rfl
  try simp only [Act.put, List.getElem_toArray, List.getElem_cons_succ, List.getElem_cons_zero, List.setIfInBounds_toArray, List.set_cons_zero, List.set_cons_succ]
  refine wpLate_take (i := 4) (oi := _) (v := ?_) rfl (by kernel_rfl) (by kernel_rfl) (by kernel_rfl) (by kernel_rfl) (fun _ _ _ h => h) (Gives.load (by rfl) ?_) hHeld ?_
  rotate_left
  · intro w hSw
    (try dsimp only at hSw)
    go_simp
    try with_reducible rfl
  try simp only [Act.put, List.getElem_toArray, List.getElem_cons_succ, List.getElem_cons_zero, List.setIfInBounds_toArray, List.set_cons_zero, List.set_cons_succ]
  refine wpLate_ready (rs := [3]) (by kernel_rfl) (by simp) ?_
  refine AllLate.cons (o := _) rfl (fun K hK => ?_) (by exact AllLate.nil)
  go_simp
  refine (cntext_any ⟨clean, keep, props, id, hasWill, wp, topic, pay, qos, ret, hasUser, hasPass, user, pass⟩ _ _ _ (HOK.out.fr GG.out)).mono ?_
  rintro _ x3 ⟨rfl, f⟩
  go_wp2_with fail
  have G3 := Lib.hid (GG.out.trans f (by simp))
  clear f GG
  have GG := G3
  clear G3
  refine hK.out _ _ (fun _ => ⟨(blk14n_facts (GG.out.blk HB.out (by simp))).1, (blk3_facts (GG.out.blk HA.out (by simp))).1⟩) (fun hHeld => ?_)
  replace hHeld := hHeld (by kernel_rfl)
  clear hK K
  try simp only [Act.put, List.getElem_toArray, List.getElem_cons_succ, List.getElem_cons_zero, List.setIfInBounds_toArray, List.set_cons_zero, List.set_cons_succ]
  refine wpLate_ready (rs := [5]) (by kernel_rfl) (by simp) ?_
  refine AllLate.cons (o := _) rfl (fun K hK => ?_) (by exact AllLate.nil)
  go_simp
  refine (told6_any ⟨clean, keep, props, id, hasWill, wp, topic, pay, qos, ret, hasUser, hasPass, user, pass⟩ _ _ _ (HOK.out.v.old GG.out (by simp)) (HOK.out.u.old GG.out (by simp)) (Nat.le_trans HOK.out.vl (by decide)) (Nat.le_trans HOK.out.ul (by decide))).mono ?_
  rintro _ x5 ⟨v5, u5, rfl, V5, U5, f, _, _⟩
  obtain ⟨A5, n5, rfl⟩ := view_shape V5
  obtain ⟨A6, n6, rfl⟩ := view_shape U5
  have HO5 := Lib.hid (CnB.ok (c := ⟨clean, keep, props, id, hasWill, wp, topic, pay, qos, ret, hasUser, hasPass, user, pass⟩) HCB.out V5 U5)
  clear V5 U5
  unfold cnC
  dsimp only
  go_wp2_with fail
  have G5 := Lib.hid (GG.out.trans f (by simp))
  clear f GG
  have GG := G5
  clear G5
  refine hK.out _ _ (fun _ => ⟨(blk14n_facts (GG.out.blk HB.out (by simp))).1, (blk3_facts (GG.out.blk HA.out (by simp))).1⟩) (fun hHeld => ?_)
  replace hHeld := hHeld (by kernel_rfl)
  clear hK K
  try simp only [Act.put, List.getElem_toArray, List.getElem_cons_succ, List.getElem_cons_zero, List.setIfInBounds_toArray, List.set_cons_zero, List.set_cons_succ]
  refine wpLate_ready (rs := [6]) (by kernel_rfl) (by simp) ?_
  refine AllLate.cons (o := _) rfl (fun K hK => ?_) (by exact AllLate.nil)
  go_simp
  refine (rcntext_any ⟨clean, keep, props, id, hasWill, wp, topic, pay, qos, ret, hasUser, hasPass, user, pass⟩ _ _ _ HO5.out).mono ?_
  rintro _ x6 ⟨rfl, f⟩
  go_wp2_with fail
  have G6 := Lib.hid (GG.out.trans f (by simp))
  clear f GG
  have GG := G6
  clear G6
  refine hK.out _ _ (fun _ => ⟨(blk14n_facts (GG.out.blk HB.out (by simp))).1, (blk3_facts (GG.out.blk HA.out (by simp))).1⟩) (fun hHeld => ?_)
  replace hHeld := hHeld (by kernel_rfl)
  clear hK K
  try simp only [Act.put, List.getElem_toArray, List.getElem_cons_succ, List.getElem_cons_zero, List.setIfInBounds_toArray, List.set_cons_zero, List.set_cons_succ]
  refine wpLate_pure (i := 7) (oi := _) (v := ?_) rfl (by kernel_rfl) (by kernel_rfl) (by kernel_rfl) (by kernel_rfl) (fun _ _ _ h => h) (Gives.load (by rfl) ?_) (fun _ => hHeld) ?_
  rotate_left
  · intro w hSw
    clear hSw
    go_simp
    try with_reducible rfl
  try simp only [Act.put, List.getElem_toArray, List.getElem_cons_succ, List.getElem_cons_zero, List.setIfInBounds_toArray, List.set_cons_zero, List.set_cons_succ]
  refine wpLate_pure (i := 8) (oi := _) (v := ?_) rfl (by kernel_rfl) (by kernel_rfl) (by kernel_rfl) (by kernel_rfl) (fun _ _ _ h => h) (Gives.load (by rfl) ?_) (fun _ => hHeld) ?_
  rotate_left
  · intro w hSw
    clear hSw
    go_simp
    try with_reducible rfl
  try simp only [Act.put, List.getElem_toArray, List.getElem_cons_succ, List.getElem_cons_zero, List.setIfInBounds_toArray, List.set_cons_zero, List.set_cons_succ]
  refine wpLate_pure (i := 9) (oi := _) (v := ?_) rfl (by kernel_rfl) (by kernel_rfl) (by kernel_rfl) (by kernel_rfl) (fun _ _ _ h => h) (Gives.load (by rfl) ?_) (fun _ => hHeld) ?_
  rotate_left
  · intro w hSw
    clear hSw
    go_simp
    try with_reducible rfl
  try simp only [Act.put, List.getElem_toArray, List.getElem_cons_succ, List.getElem_cons_zero, List.setIfInBounds_toArray, List.set_cons_zero, List.set_cons_succ]
  refine wpLate_take (i := 10) (oi := _) (v := ?_) rfl (by kernel_rfl) (by kernel_rfl) (by kernel_rfl) (by kernel_rfl) (fun _ _ _ h => h) (Gives.load (by rfl) ?_) hHeld ?_
  rotate_left
  · intro w hSw
    (try dsimp only at hSw)
    go_simp
    try with_reducible rfl
  try simp only [Act.put, List.getElem_toArray, List.getElem_cons_succ, List.getElem_cons_zero, List.setIfInBounds_toArray, List.set_cons_zero, List.set_cons_succ]
  refine wpLate_take (i := 12) (oi := _) (v := ?_) rfl (by kernel_rfl) (by kernel_rfl) (by kernel_rfl) (by kernel_rfl) (fun _ _ _ h => h) (Gives.load (by rfl) ?_) hHeld ?_
  rotate_left
  · intro w hSw
    (try dsimp only at hSw)
    go_simp
    try with_reducible rfl
  try simp only [Act.put, List.getElem_toArray, List.getElem_cons_succ, List.getElem_cons_zero, List.setIfInBounds_toArray, List.set_cons_zero, List.set_cons_succ]
  refine wpLate_take (i := 13) (oi := _) (v := ?_) rfl (by kernel_rfl) (by kernel_rfl) (by kernel_rfl) (by kernel_rfl) (fun _ _ _ h => h) (Gives.load (by rfl) ?_) hHeld ?_
  rotate_left
  · intro w hSw
    (try dsimp only at hSw)
    go_simp
    try with_reducible rfl
  try simp only [Act.put, List.getElem_toArray, List.getElem_cons_succ, List.getElem_cons_zero, List.setIfInBounds_toArray, List.set_cons_zero, List.set_cons_succ]
  refine wpLate_take (i := 14) (oi := _) (v := ?_) rfl (by kernel_rfl) (by kernel_rfl) (by kernel_rfl) (by kernel_rfl) (fun _ _ _ h => h) (Gives.load (by rfl) ?_) hHeld ?_
  rotate_left
  · intro w hSw
    (try dsimp only at hSw)
    go_simp
    try with_reducible rfl
  try simp only [Act.put, List.getElem_toArray, List.getElem_cons_succ, List.getElem_cons_zero, List.setIfInBounds_toArray, List.set_cons_zero, List.set_cons_succ]
  refine wpLate_take (i := 15) (oi := _) (v := ?_) rfl (by kernel_rfl) (by kernel_rfl) (by kernel_rfl) (by kernel_rfl) (fun _ _ _ h => h) (Gives.load (by rfl) ?_) hHeld ?_
  rotate_left
  · intro w hSw
    (try dsimp only at hSw)
    go_simp
    try with_reducible rfl
  try simp only [Act.put, List.getElem_toArray, List.getElem_cons_succ, List.getElem_cons_zero, List.setIfInBounds_toArray, List.set_cons_zero, List.set_cons_succ]
  refine wpLate_take (i := 16) (oi := _) (v := ?_) rfl (by kernel_rfl) (by kernel_rfl) (by kernel_rfl) (by kernel_rfl) (fun _ _ _ h => h) (Gives.load (by rfl) ?_) hHeld ?_
  rotate_left
  · intro w hSw
    (try dsimp only at hSw)
    go_simp
    try with_reducible rfl
  try simp only [Act.put, List.getElem_toArray, List.getElem_cons_succ, List.getElem_cons_zero, List.setIfInBounds_toArray, List.set_cons_zero, List.set_cons_succ]
  refine wpLate_take (i := 17) (oi := _) (v := ?_) rfl (by kernel_rfl) (by kernel_rfl) (by kernel_rfl) (by kernel_rfl) (fun _ _ _ h => h) (Gives.load (by rfl) ?_) hHeld ?_
  rotate_left
  · intro w hSw
    (try dsimp only at hSw)
    go_simp
    try with_reducible rfl
  try simp only [Act.put, List.getElem_toArray, List.getElem_cons_succ, List.getElem_cons_zero, List.setIfInBounds_toArray, List.set_cons_zero, List.set_cons_succ]
  refine wpLate_ready (rs := [11]) (by kernel_rfl) (by simp) ?_
  refine AllLate.cons (o := _) rfl (fun K hK => ?_) (by exact AllLate.nil)
  go_simp
  refine (cktext_any ⟨pr, cd, ll⟩ _ _ HKB.out.c (HV4.out.old GG.out (by simp)) HKB.out.l HKB.out.o).mono ?_
  rintro _ x11 ⟨rfl, f⟩
  go_wp2_with fail
  have G11 := Lib.hid (GG.out.trans f (by simp))
  clear f GG
  have GG := G11
  clear G11
  refine hK.out _ _ (fun _ => ⟨(blk14n_facts (GG.out.blk HB.out (by simp))).1, (blk3_facts (GG.out.blk HA.out (by simp))).1⟩) (fun hHeld => ?_)
  replace hHeld := hHeld (by kernel_rfl)
  clear hK K
  try simp only [Act.put, List.getElem_toArray, List.getElem_cons_succ, List.getElem_cons_zero, List.setIfInBounds_toArray, List.set_cons_zero, List.set_cons_succ]
  refine wpLate_ready (rs := [18]) (by kernel_rfl) (by simp) ?_
  refine AllLate.cons (o := _) rfl (fun K hK => ?_) (by exact AllLate.nil)
  go_simp
  refine (told_any _ ll _ (HV4.out.old GG.out (by simp)) (Nat.le_trans HKB.out.l (by decide))).mono ?_
  rintro _ x18 ⟨v7, rfl, own7, f⟩
  obtain ⟨A7, n7, rfl⟩ := own_shape own7
  have HV7 := Lib.hid (own_view own7)
  clear own7
  go_wp2_with fail
  have G18 := Lib.hid (GG.out.trans f (by simp))
  clear f GG
  have GG := G18
  clear G18
  refine hK.out _ _ (fun _ => ⟨(blk14n_facts (GG.out.blk HB.out (by simp))).1, (blk3_facts (GG.out.blk HA.out (by simp))).1⟩) (fun hHeld => ?_)
  replace hHeld := hHeld (by kernel_rfl)
  clear hK K
  try simp only [Act.put, List.getElem_toArray, List.getElem_cons_succ, List.getElem_cons_zero, List.setIfInBounds_toArray, List.set_cons_zero, List.set_cons_succ]
  refine wpLate_pure (i := 19) (oi := _) (v := ?_) rfl (by kernel_rfl) (by kernel_rfl) (by kernel_rfl) (by kernel_rfl) (fun _ _ _ h => h) (Gives.load (by rfl) ?_) (fun _ => hHeld) ?_
  rotate_left
  · intro w hSw
    clear hSw
    go_simp
    try with_reducible rfl
  try simp only [Act.put, List.getElem_toArray, List.getElem_cons_succ, List.getElem_cons_zero, List.setIfInBounds_toArray, List.set_cons_zero, List.set_cons_succ]
  refine wpLate_ready (rs := [20]) (by kernel_rfl) (by simp) ?_
  refine AllLate.cons (o := _) rfl (fun K hK => ?_) (by exact AllLate.nil)
  go_simp
  refine (rcktext_any ⟨pr, cd, ll⟩ _ _ HKB.out.c HV7.out HKB.out.l HKB.out.o).mono ?_
  rintro _ x20 ⟨rfl, f⟩
  go_wp2_with fail
  have G20 := Lib.hid (GG.out.trans f (by simp))
  clear f GG
  have GG := G20
  clear G20
  refine hK.out _ _ (fun _ => ⟨(blk14n_facts (GG.out.blk HB.out (by simp))).1, (blk3_facts (GG.out.blk HA.out (by simp))).1⟩) (fun hHeld => ?_)
  replace hHeld := hHeld (by kernel_rfl)
  clear hK K
  try simp only [Act.put, List.getElem_toArray, List.getElem_cons_succ, List.getElem_cons_zero, List.setIfInBounds_toArray, List.set_cons_zero, List.set_cons_succ]
  refine wpLate_pure (i := 21) (oi := _) (v := ?_) rfl (by kernel_rfl) (by kernel_rfl) (by kernel_rfl) (by kernel_rfl) (fun _ _ _ h => h) (Gives.load (by rfl) ?_) (fun _ => hHeld) ?_
  rotate_left
  · intro w hSw
    clear hSw
    go_simp
    try with_reducible rfl
  try simp only [Act.put, List.getElem_toArray, List.getElem_cons_succ, List.getElem_cons_zero, List.setIfInBounds_toArray, List.set_cons_zero, List.set_cons_succ]
  refine wpLate_pure (i := 22) (oi := _) (v := ?_) rfl (by kernel_rfl) (by kernel_rfl) (by kernel_rfl) (by kernel_rfl) (fun _ _ _ h => h) (Gives.load (by rfl) ?_) (fun _ => hHeld) ?_
  rotate_left
  · intro w hSw
    clear hSw
    go_simp
    try with_reducible rfl
  try simp only [Act.put, List.getElem_toArray, List.getElem_cons_succ, List.getElem_cons_zero, List.setIfInBounds_toArray, List.set_cons_zero, List.set_cons_succ]
  refine wpLate_pure (i := 23) (oi := _) (v := ?_) rfl (by kernel_rfl) (by kernel_rfl) (by kernel_rfl) (by kernel_rfl) (fun _ _ _ h => h) (Gives.load (by rfl) ?_) (fun _ => hHeld) ?_
  rotate_left
  · intro w hSw
    clear hSw
    go_simp
    try with_reducible rfl
  try simp only [Act.put, List.getElem_toArray, List.getElem_cons_succ, List.getElem_cons_zero, List.setIfInBounds_toArray, List.set_cons_zero, List.set_cons_succ]
  refine wpLate_done (by kernel_rfl) ?_ _
  go_wp2
  go_ret
  exact ⟨rfl, FZ.out.trans GG.out (by simp)⟩
end Go.Proofs.Ytlhkgalmiajinaa
