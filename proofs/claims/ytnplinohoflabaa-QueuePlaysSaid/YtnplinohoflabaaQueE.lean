/- What Push of package queue comes to where there is no room. Conditions: sizes that may be. -/
import Derived.Test.YtnplinohoflabaaQueD
namespace Go.Proofs.Ytnplinohoflabaa
open Go.RowKit
set_option linter.unusedVariables false
set_option linter.unusedSimpArgs false
attribute [local go_sem ↓] Go.wp_at_zero Go.wp_at_succ

set_option maxHeartbeats 4000000 in
set_option maxRecDepth 100000 in
theorem qpush_none (base q : Nat) (v : Value) (L : List Ms) (most : Nat) (x : Ms) (w : World) (h : QAt w base q v L most) (hb : base ≤ w.heap.size) (hl : L.length < 1000000) (hm : most ≤ 9223372036854775807) (hr : ¬ L.length < most) (hf : L.findIdx? ltMs = none) :
    Calls Try.prog 17 #[.pointer (some ⟨q, 0, none⟩), .agg (msC x).toArray] w (PushTo base q v L most x w) := by
  have HI : Hid (lightI L = -1) := Lib.hid (by unfold ltMs at hf; rw [lightI, hf])
  have HG : Hid (pushG ltMs L x most = (L, some x)) := Lib.hid (by rw [pushG, if_neg hr, hf])
  obtain ⟨hq, ho⟩ := h
  obtain ⟨A, c, rfl⟩ := own_shape ho
  have hd : decide (L.length < most) = false := by simp; omega
  obtain ⟨fr, at_, qs, rt, pA, pn, pc, tp, py⟩ := x
  unfold msC
  have hq1 := blk_old (blk_old hq (.cells (msC ⟨fr, at_, qs, rt, pA, pn, pc, tp, py⟩).toArray 29)) (.cells (msC ms0).toArray 29)
  have hb0 := blk_old (blk_new w (.cells (msC ⟨fr, at_, qs, rt, pA, pn, pc, tp, py⟩).toArray 29)) (.cells (msC ms0).toArray 29)
  have hb1 := blk_at1 w (.cells (msC ⟨fr, at_, qs, rt, pA, pn, pc, tp, py⟩).toArray 29) (.cells (msC ms0).toArray 29)
  have F0 : Fr (q :: (Value.slice A L.length c).ownBlock.toList) w ((w.alloc (.cells (msC ⟨fr, at_, qs, rt, pA, pn, pc, tp, py⟩).toArray 29)).alloc (.cells (msC ms0).toArray 29)) := ((Fr.refl _ _).alloc _).alloc _
  have ho1 := (ho.alloc (.cells (msC ⟨fr, at_, qs, rt, pA, pn, pc, tp, py⟩).toArray 29)).alloc (.cells (msC ms0).toArray 29)
  have hqw := blk_lt hq
  simp only [msC, ms0] at hq1 hb0 hb1 F0 ho1
  obtain ⟨c0, c1, z0, z1, _⟩ := blk2_facts hq1
  have HLT := Lib.hid (fun k hk => (ho.lt k hk).2)
  clear hr hq ho hf
  go_enter Try.func17, Try.ntmps17
  go_wp2
  obtain ⟨y, hy⟩ : ∃ y, (w.alloc (.cells #[.string ⟨fr.toArray⟩, .int .i64 at_, .int .u8 qs, .bool rt, .slice pA pn pc, .string ⟨tp.toArray⟩, .string ⟨py.toArray⟩] 29)).alloc (.cells #[.string ⟨#[]⟩, .int .i64 0, .int .u8 0, .bool false, .slice none 0 0, .string ⟨#[]⟩, .string ⟨#[]⟩] 29) = y := ⟨_, rfl⟩
  have hys : y.heap.size = w.heap.size + 2 := by rw [← hy]; simp
  rw [hy] at hq1 hb0 hb1 F0 ho1 c0 c1 z0 z1 ⊢
  clear hy
  go_quiet (fail)
  have G1 : Fr [] y (y.drewN nq) := (Fr.refl _ _).drewN nq
  obtain ⟨z, hz⟩ : ∃ z, y.drewN nq = z := ⟨_, rfl⟩
  rw [hz] at G1 ⊢
  have G1s : z.heap.size = w.heap.size + 2 := by rw [← hz]; exact hys
  clear hz c0 c1 z0 z1
  replace hq1 := G1.blk hq1 (by simp)
  replace hb0 := G1.blk hb0 (by simp)
  replace hb1 := Lib.hid (G1.blk hb1 (by simp))
  replace ho1 := own_fr G1 ho1 (by simp)
  replace F0 := Lib.hid (F0.trans G1 (by simp))
  obtain ⟨c0, c1, z0, z1, _⟩ := blk2_facts hq1
  obtain ⟨⟨e0, e1, e2, e3, e4, e5, e6⟩, _, _⟩ := blk7_facts hb0
  have HQ := Lib.hid hq1
  have HO := Lib.hid ho1
  have HM := Lib.hid (own_ne ho1 hq1 (by decide))
  have HB0 := Lib.hid hb0
  have hqz : q < w.heap.size + 2 := by omega
  clear hb0 ho1 hq1 G1
  go_wp2_with fail
  refine (qlight_any base q _ L most _ ⟨HQ.out, HO.out⟩ (by omega)).mono ?_
  rintro _ w1 ⟨rfl, g1⟩
  rw [HI.out]
  have hq3 := Lib.hid (g1.blk HQ.out (by simp))
  have ho3 := Lib.hid (own_fr g1 HO.out (by simp))
  have hb3 := g1.blk hb1.out (by simp)
  have F3 := F0.out.trans g1 (by simp)
  clear c0 c1 z0 z1 e0 e1 e2 e3 e4 e5 e6
  obtain ⟨⟨e0, e1, e2, e3, e4, e5, e6⟩, _, _⟩ := blk7_facts (g1.blk HB0.out (by simp))
  obtain ⟨⟨d0, d1, d2, d3, d4, d5, d6⟩, ⟨k0, k1, k2, k3, k4, k5, k6⟩, _⟩ := blk7_facts hb3
  have HZ := Lib.hid (blk7_set hb3 (.string ⟨fr.toArray⟩) (.int .i64 at_) (.int .u8 qs) (.bool rt) (.slice pA pn pc) (.string ⟨tp.toArray⟩) (.string ⟨py.toArray⟩))
  have HF := Lib.hid (fr7_set F3 (b := w.heap.size + 1) (by omega) (.string ⟨fr.toArray⟩) (.int .i64 at_) (.int .u8 qs) (.bool rt) (.slice pA pn pc) (.string ⟨tp.toArray⟩) (.string ⟨py.toArray⟩))
  have HQ3 := Lib.hid ((set7_fr w1 (w.heap.size + 1) (.string ⟨fr.toArray⟩) (.int .i64 at_) (.int .u8 qs) (.bool rt) (.slice pA pn pc) (.string ⟨tp.toArray⟩) (.string ⟨py.toArray⟩)).blk hq3.out (by simp; omega))
  have HO3 := Lib.hid (own_set7 ho3.out (b := w.heap.size + 1) (by intro e; have := HLT.out _ e.symm; omega) (.string ⟨fr.toArray⟩) (.int .i64 at_) (.int .u8 qs) (.bool rt) (.slice pA pn pc) (.string ⟨tp.toArray⟩) (.string ⟨py.toArray⟩))
  clear hb3 F3 g1
  go_wp2
  change bodyPost _ _ _ _ _ (set7 w1 (w.heap.size + 1) (.string ⟨fr.toArray⟩) (.int .i64 at_) (.int .u8 qs) (.bool rt) (.slice pA pn pc) (.string ⟨tp.toArray⟩) (.string ⟨py.toArray⟩))
  generalize set7 w1 (w.heap.size + 1) (.string ⟨fr.toArray⟩) (.int .i64 at_) (.int .u8 qs) (.bool rt) (.slice pA pn pc) (.string ⟨tp.toArray⟩) (.string ⟨py.toArray⟩) = W5 at *
  clear e0 e1 e2 e3 e4 e5 e6 k0 k1 k2 k3 k4 k5 k6 d0 d1 d2 d3 d4 d5 d6
  obtain ⟨e0, e1, e2, e3, e4, e5, e6⟩ := (blk7_facts HZ.out).1
  refine bodyPost_ret (v := .tuple #[.agg #[.string ⟨fr.toArray⟩, .int .i64 at_, .int .u8 qs, .bool rt, .slice pA pn pc, .string ⟨tp.toArray⟩, .string ⟨py.toArray⟩], .bool true]) (by simp [results, Try.results17, go_sem, e0, e1, e2, e3, e4, e5, e6]) rfl ?_
  refine ⟨.slice A L.length c, by rw [HG.out]; rfl, ⟨HQ3.out, ?_⟩, HF.out⟩
  rw [HG.out]
  exact HO3.out
set_option maxHeartbeats 4000000 in
set_option maxRecDepth 100000 in
theorem qpush_light (base q : Nat) (v : Value) (L : List Ms) (most : Nat) (x : Ms) (w : World) (h : QAt w base q v L most) (hb : base ≤ w.heap.size) (hl : L.length < 1000000) (hm : most ≤ 9223372036854775807) (hr : ¬ L.length < most) (i : Nat) (hf : L.findIdx? ltMs = some i) (hx0 : ltMs x = true) :
    Calls Try.prog 17 #[.pointer (some ⟨q, 0, none⟩), .agg (msC x).toArray] w (PushTo base q v L most x w) := by
  have HI : Hid (lightI L = (i : Int)) := Lib.hid (by unfold ltMs at hf; rw [lightI, hf])
  have hi0 : (0 : Int) ≤ (i : Int) := by omega
  have hdi : decide ((i : Int) < 0) = false := by simp
  have HG : Hid (pushG ltMs L x most = (L, some x)) := Lib.hid (by rw [pushG, if_neg hr, hf]; dsimp only; rw [if_pos hx0])
  obtain ⟨hq, ho⟩ := h
  obtain ⟨A, c, rfl⟩ := own_shape ho
  have hd : decide (L.length < most) = false := by simp; omega
  obtain ⟨fr, at_, qs, rt, pA, pn, pc, tp, py⟩ := x
  unfold msC
  have hq1 := blk_old (blk_old hq (.cells (msC ⟨fr, at_, qs, rt, pA, pn, pc, tp, py⟩).toArray 29)) (.cells (msC ms0).toArray 29)
  have hb0 := blk_old (blk_new w (.cells (msC ⟨fr, at_, qs, rt, pA, pn, pc, tp, py⟩).toArray 29)) (.cells (msC ms0).toArray 29)
  have hb1 := blk_at1 w (.cells (msC ⟨fr, at_, qs, rt, pA, pn, pc, tp, py⟩).toArray 29) (.cells (msC ms0).toArray 29)
  have F0 : Fr (q :: (Value.slice A L.length c).ownBlock.toList) w ((w.alloc (.cells (msC ⟨fr, at_, qs, rt, pA, pn, pc, tp, py⟩).toArray 29)).alloc (.cells (msC ms0).toArray 29)) := ((Fr.refl _ _).alloc _).alloc _
  have ho1 := (ho.alloc (.cells (msC ⟨fr, at_, qs, rt, pA, pn, pc, tp, py⟩).toArray 29)).alloc (.cells (msC ms0).toArray 29)
  have hqw := blk_lt hq
  simp only [msC, ms0] at hq1 hb0 hb1 F0 ho1
  obtain ⟨c0, c1, z0, z1, _⟩ := blk2_facts hq1
  have HLT := Lib.hid (fun k hk => (ho.lt k hk).2)
  clear hr hq ho hf
  have hx1 : (qs == 0) = true := hx0
  clear hx0
  go_enter Try.func17, Try.ntmps17
  go_wp2
  obtain ⟨y, hy⟩ : ∃ y, (w.alloc (.cells #[.string ⟨fr.toArray⟩, .int .i64 at_, .int .u8 qs, .bool rt, .slice pA pn pc, .string ⟨tp.toArray⟩, .string ⟨py.toArray⟩] 29)).alloc (.cells #[.string ⟨#[]⟩, .int .i64 0, .int .u8 0, .bool false, .slice none 0 0, .string ⟨#[]⟩, .string ⟨#[]⟩] 29) = y := ⟨_, rfl⟩
  have hys : y.heap.size = w.heap.size + 2 := by rw [← hy]; simp
  rw [hy] at hq1 hb0 hb1 F0 ho1 c0 c1 z0 z1 ⊢
  clear hy
  go_quiet (fail)
  have G1 : Fr [] y (y.drewN nq) := (Fr.refl _ _).drewN nq
  obtain ⟨z, hz⟩ : ∃ z, y.drewN nq = z := ⟨_, rfl⟩
  rw [hz] at G1 ⊢
  have G1s : z.heap.size = w.heap.size + 2 := by rw [← hz]; exact hys
  clear hz c0 c1 z0 z1
  replace hq1 := G1.blk hq1 (by simp)
  replace hb0 := G1.blk hb0 (by simp)
  replace hb1 := Lib.hid (G1.blk hb1 (by simp))
  replace ho1 := own_fr G1 ho1 (by simp)
  replace F0 := Lib.hid (F0.trans G1 (by simp))
  obtain ⟨c0, c1, z0, z1, _⟩ := blk2_facts hq1
  obtain ⟨⟨e0, e1, e2, e3, e4, e5, e6⟩, _, _⟩ := blk7_facts hb0
  have HQ := Lib.hid hq1
  have HO := Lib.hid ho1
  have HM := Lib.hid (own_ne ho1 hq1 (by decide))
  have HB0 := Lib.hid hb0
  have hqz : q < w.heap.size + 2 := by omega
  clear hb0 ho1 hq1 G1
  go_wp2_with fail
  refine (qlight_any base q _ L most _ ⟨HQ.out, HO.out⟩ (by omega)).mono ?_
  rintro _ w1 ⟨rfl, g1⟩
  rw [HI.out]
  have hq3 := Lib.hid (g1.blk HQ.out (by simp))
  have ho3 := Lib.hid (own_fr g1 HO.out (by simp))
  have hb3 := g1.blk hb1.out (by simp)
  have F3 := F0.out.trans g1 (by simp)
  clear c0 c1 z0 z1 e0 e1 e2 e3 e4 e5 e6
  obtain ⟨⟨e0, e1, e2, e3, e4, e5, e6⟩, _, _⟩ := blk7_facts (g1.blk HB0.out (by simp))
  obtain ⟨⟨d0, d1, d2, d3, d4, d5, d6⟩, ⟨k0, k1, k2, k3, k4, k5, k6⟩, _⟩ := blk7_facts hb3
  have HZ := Lib.hid (blk7_set hb3 (.string ⟨fr.toArray⟩) (.int .i64 at_) (.int .u8 qs) (.bool rt) (.slice pA pn pc) (.string ⟨tp.toArray⟩) (.string ⟨py.toArray⟩))
  have HF := Lib.hid (fr7_set F3 (b := w.heap.size + 1) (by omega) (.string ⟨fr.toArray⟩) (.int .i64 at_) (.int .u8 qs) (.bool rt) (.slice pA pn pc) (.string ⟨tp.toArray⟩) (.string ⟨py.toArray⟩))
  have HQ3 := Lib.hid ((set7_fr w1 (w.heap.size + 1) (.string ⟨fr.toArray⟩) (.int .i64 at_) (.int .u8 qs) (.bool rt) (.slice pA pn pc) (.string ⟨tp.toArray⟩) (.string ⟨py.toArray⟩)).blk hq3.out (by simp; omega))
  have HO3 := Lib.hid (own_set7 ho3.out (b := w.heap.size + 1) (by intro e; have := HLT.out _ e.symm; omega) (.string ⟨fr.toArray⟩) (.int .i64 at_) (.int .u8 qs) (.bool rt) (.slice pA pn pc) (.string ⟨tp.toArray⟩) (.string ⟨py.toArray⟩))
  clear hb3 F3 g1
  go_wp2
  change bodyPost _ _ _ _ _ (set7 w1 (w.heap.size + 1) (.string ⟨fr.toArray⟩) (.int .i64 at_) (.int .u8 qs) (.bool rt) (.slice pA pn pc) (.string ⟨tp.toArray⟩) (.string ⟨py.toArray⟩))
  generalize set7 w1 (w.heap.size + 1) (.string ⟨fr.toArray⟩) (.int .i64 at_) (.int .u8 qs) (.bool rt) (.slice pA pn pc) (.string ⟨tp.toArray⟩) (.string ⟨py.toArray⟩) = W5 at *
  clear e0 e1 e2 e3 e4 e5 e6 k0 k1 k2 k3 k4 k5 k6 d0 d1 d2 d3 d4 d5 d6
  obtain ⟨e0, e1, e2, e3, e4, e5, e6⟩ := (blk7_facts HZ.out).1
  refine bodyPost_ret (v := .tuple #[.agg #[.string ⟨fr.toArray⟩, .int .i64 at_, .int .u8 qs, .bool rt, .slice pA pn pc, .string ⟨tp.toArray⟩, .string ⟨py.toArray⟩], .bool true]) (by simp [results, Try.results17, go_sem, e0, e1, e2, e3, e4, e5, e6]) rfl ?_
  refine ⟨.slice A L.length c, by rw [HG.out]; rfl, ⟨HQ3.out, ?_⟩, HF.out⟩
  rw [HG.out]
  exact HO3.out
end Go.Proofs.Ytnplinohoflabaa
