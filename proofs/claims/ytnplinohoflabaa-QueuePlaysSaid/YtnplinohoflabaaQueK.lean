/- What Push of the reference of layer 16 comes to. Conditions: sizes that may be. -/
import Derived.Test.YtnplinohoflabaaQueJ
import Derived.Test.YtnplinohoflabaaQueueRoom
import Derived.Deep.DeepCutAuto
import Derived.Test.YtnplinohoflabaaDrawn
namespace Go.Proofs.Ytnplinohoflabaa
open Go.RowKit
set_option linter.unusedSimpArgs false
set_option linter.unusedVariables false
attribute [local go_sem ↓] Go.wp_at_zero Go.wp_at_succ

def ltP (p : Ms × List Pr) : Bool := ltMs p.1
/-- The reference's list. -/
def RView (w : World) (v : Value) (RR : List (Ms × List Pr)) : Prop := TView 42 w v RR.length (RR.flatMap fun p => msC p.1) ∧ ∃ A c, v = .slice A RR.length c ∧ RR.length ≤ c ∧ c ≤ 9223372036854775807
theorem RView.fr {S : List Nat} {w w' : World} {v : Value} {RR : List (Ms × List Pr)} (h : RView w v RR) (hf : Fr S w w') (hS : ∀ k ∈ S, NotT 42 w k) : RView w' v RR := ⟨TView.fr h.1 hf hS, h.2⟩
theorem RView.fr0 {w w' : World} {v : Value} {RR : List (Ms × List Pr)} (h : RView w v RR) (hf : Fr [] w w') : RView w' v RR := h.fr hf (by simp)
theorem RView.own {w : World} {base : Nat} {v : Value} {RR : List (Ms × List Pr)} (h : w.ownsRow base 42 7 v RR.length (RR.flatMap fun p => msC p.1)) : RView w v RR := by
  refine ⟨TView.own h, ?_⟩
  rcases h.2 with ⟨rfl, h0⟩ | ⟨g, cap, cur, rfl, _, _, h1, h2, _⟩
  · exact ⟨none, 0, by rw [h0], by omega, by decide⟩
  · unfold maxLen at h2
    exact ⟨_, cap, rfl, h1, by omega⟩
def RPushTo (v : Value) (RR : List (Ms × List Pr)) (p : Ms × List Pr) (most : Nat) (w : World) (e : Ending) (w' : World) : Prop :=
  ∃ v', e = .returned (.tuple #[v', .agg (msC (((pushG ltP RR p most).2.getD (ms0, [])).1)).toArray, .bool (pushG ltP RR p most).2.isSome]) ∧ RView w' v' (pushG ltP RR p most).1 ∧ Fr [] w w'
set_option maxHeartbeats 4000000 in
set_option maxRecDepth 100000 in
theorem rpush_room (v : Value) (RR : List (Ms × List Pr)) (x : Ms) (ps : List Pr) (most : Nat) (w : World) (hv : RView w v RR) (hl : RR.length < 1000000) (hm : most ≤ 9223372036854775807) (hr : RR.length < most) :
    Calls Try.prog 26 #[v, .agg (msC x).toArray, .int .i64 (most : Int)] w (RPushTo v RR (x, ps) most w) := by
  obtain ⟨i0, hi, hz0, hz1, hz2⟩ := info_parts Try.infoRMs
  have HG : Hid (pushG ltP RR (x, ps) most = (RR ++ [(x, ps)], none)) := Lib.hid (push_room ltP RR (x, ps) most hr)
  have hd : decide (RR.length < most) = true := by simpa using hr
  obtain ⟨hv, A0, c0, rfl, hc0, hc1⟩ := hv
  obtain ⟨fr, at_, qs, rt, A, n, c, tp, py⟩ := x
  have F0 : Fr [] w ((w.alloc (.cells #[.string ⟨fr.toArray⟩, .int .i64 at_, .int .u8 qs, .bool rt, .slice A n c, .string ⟨tp.toArray⟩, .string ⟨py.toArray⟩] 42)).alloc (.cells #[.string ⟨#[]⟩, .int .i64 0, .int .u8 0, .bool false, .slice none 0 0, .string ⟨#[]⟩, .string ⟨#[]⟩] 42)) := ((Fr.refl _ _).alloc _).alloc _
  have HV := Lib.hid (hv.1.fr F0 (by simp))
  have hb0 := blk_old (blk_new w (.cells #[.string ⟨fr.toArray⟩, .int .i64 at_, .int .u8 qs, .bool rt, .slice A n c, .string ⟨tp.toArray⟩, .string ⟨py.toArray⟩] 42)) (.cells #[.string ⟨#[]⟩, .int .i64 0, .int .u8 0, .bool false, .slice none 0 0, .string ⟨#[]⟩, .string ⟨#[]⟩] 42)
  have hb1 := blk_at1 w (.cells #[.string ⟨fr.toArray⟩, .int .i64 at_, .int .u8 qs, .bool rt, .slice A n c, .string ⟨tp.toArray⟩, .string ⟨py.toArray⟩] 42) (.cells #[.string ⟨#[]⟩, .int .i64 0, .int .u8 0, .bool false, .slice none 0 0, .string ⟨#[]⟩, .string ⟨#[]⟩] 42)
  dsimp only [msC]
  clear hr hv
  go_enter Try.func26, Try.ntmps26
  go_wp2
  obtain ⟨y, hy⟩ : ∃ y, (w.alloc (.cells #[.string ⟨fr.toArray⟩, .int .i64 at_, .int .u8 qs, .bool rt, .slice A n c, .string ⟨tp.toArray⟩, .string ⟨py.toArray⟩] 42)).alloc (.cells #[.string ⟨#[]⟩, .int .i64 0, .int .u8 0, .bool false, .slice none 0 0, .string ⟨#[]⟩, .string ⟨#[]⟩] 42) = y := ⟨_, rfl⟩
  have hys : y.heap.size = w.heap.size + 2 := by rw [← hy]; simp
  rw [hy] at HV hb0 hb1 F0 ⊢
  clear hy
  obtain ⟨⟨e0, e1, e2, e3, e4, e5, e6⟩, _, _⟩ := blk7_facts hb0
  have HB0 := Lib.hid hb0
  have HB1 := Lib.hid hb1
  have HF := Lib.hid F0
  have HYS := Lib.hid hys
  have hwy : w.heap.size + 1 < y.heap.size := by omega
  clear hb0 hb1 F0 hys
  go_region_held3 (fun w' => w'.cell? ⟨w.heap.size, 0, none⟩ = some (.string ⟨fr.toArray⟩) ∧ w'.cell? ⟨w.heap.size, 1, none⟩ = some (.int .i64 at_) ∧ w'.cell? ⟨w.heap.size, 2, none⟩ = some (.int .u8 qs) ∧ w'.cell? ⟨w.heap.size, 3, none⟩ = some (.bool rt) ∧ w'.cell? ⟨w.heap.size, 4, none⟩ = some (.slice A n c) ∧ w'.cell? ⟨w.heap.size, 5, none⟩ = some (.string ⟨tp.toArray⟩) ∧ w'.cell? ⟨w.heap.size, 6, none⟩ = some (.string ⟨py.toArray⟩)) (first | go_keep | exact kk) (first | (refine step_first y (.tmp 16) (.tmp 17) 51 42 i0 (.agg #[.string ⟨#[]⟩, .int .i64 0, .int .u8 0, .bool false, .slice none 0 0, .string ⟨#[]⟩, .string ⟨#[]⟩]) 7 88 Try.underlying51 hi hz0 hz1 hz2 rfl (by decide) (by decide) (fun p : Ms × List Pr => msC p.1) (fun p => msC_len p.1) (fun p => msC_one p.1) RR (by omega) _ HV.out (by rfl) (by rfl) _ (by rfl) (by rfl) (by repeat (first | exact Fr.refl _ _ | (with_reducible apply Fr.alloc) | (with_reducible apply Fr.drew) | (with_reducible apply Fr.drewN) | (with_reducible refine Fr.setCell ?_ (by simp) _))) (by first | exact blk_new _ _ | exact blk_old (blk_new _ _) _ | exact blk_at1 _ _ _) (by simp) ?_; intro v5 y5 own5 fr5 k5; have kk := (blk7_facts (fr5.blk HB0.out (by simp))).1; (first | have kP5 : y5.heap[y.heap.size + 1]? = some (.cells #[.string ⟨fr.toArray⟩, .int .i64 at_, .int .u8 qs, .bool rt, .slice A n c, .string ⟨tp.toArray⟩, .string ⟨py.toArray⟩] 42 (0, 0)) := k5 _ _ (blk_at1 _ _ _) (by simp) | have kP5 : y5.heap[y.heap.size]? = some (.cells #[.string ⟨fr.toArray⟩, .int .i64 at_, .int .u8 qs, .bool rt, .slice A n c, .string ⟨tp.toArray⟩, .string ⟨py.toArray⟩] 42 (0, 0)) := k5 _ _ (blk_old (blk_new _ _) _) (by simp) | skip)) | (refine step_second y (.tmp 18) (.tmp 20) 51 42 i0 (.agg #[.string ⟨#[]⟩, .int .i64 0, .int .u8 0, .bool false, .slice none 0 0, .string ⟨#[]⟩, .string ⟨#[]⟩]) 7 88 Try.underlying51 hi hz0 hz1 hz2 rfl (by decide) (by decide) (fun p : Ms × List Pr => msC p.1) (fun p => msC_len p.1) (fun p => msC_one p.1) RR (by omega) ((⟨fr, at_, qs, rt, A, n, c, tp, py⟩ : Ms), ps) _ (by rfl) (by rfl) (by rfl) _ _ (by rfl) (by first | exact fr5 | exact fr5.alloc _) (by first | exact own5 | exact own5.alloc _) (by first | exact kP5 | exact blk_new _ _) rfl ?_; intro v6 y6 own6 fr6; have kk := (blk7_facts (fr6.blk HB0.out (by simp))).1; have hz6 := fr6.blk HB1.out (by simp); obtain ⟨⟨d0, d1, d2, d3, d4, d5, d6⟩, ⟨k0, k1, k2, k3, k4, k5', k6⟩, _⟩ := blk7_facts hz6; obtain ⟨A6, c6, rfl⟩ := own_shape own6))
  all_goals
    have HZ := Lib.hid (blk7_set hz6 (.string ⟨#[]⟩) (.int .i64 0) (.int .u8 0) (.bool false) (.slice none 0 0) (.string ⟨#[]⟩) (.string ⟨#[]⟩))
    have hs6 := fr6.size
    have FZ := Lib.hid (fr7_set (HF.out.trans fr6 (by simp)) (b := w.heap.size + 1) (by omega) (.string ⟨#[]⟩) (.int .i64 0) (.int .u8 0) (.bool false) (.slice none 0 0) (.string ⟨#[]⟩) (.string ⟨#[]⟩))
    have OZ := Lib.hid (own_set7 own6 (b := w.heap.size + 1) (by intro e; have := (own6.lt _ e.symm).1; omega) (.string ⟨#[]⟩) (.int .i64 0) (.int .u8 0) (.bool false) (.slice none 0 0) (.string ⟨#[]⟩) (.string ⟨#[]⟩))
    clear own6 hz6 kk fr6 e0 e1 e2 e3 e4 e5 e6
    go_wp2
    change bodyPost _ _ _ _ _ (set7 y6 (w.heap.size + 1) (.string ⟨#[]⟩) (.int .i64 0) (.int .u8 0) (.bool false) (.slice none 0 0) (.string ⟨#[]⟩) (.string ⟨#[]⟩))
    generalize set7 y6 (w.heap.size + 1) (.string ⟨#[]⟩) (.int .i64 0) (.int .u8 0) (.bool false) (.slice none 0 0) (.string ⟨#[]⟩) (.string ⟨#[]⟩) = W5 at *
    clear d0 d1 d2 d3 d4 d5 d6 k0 k1 k2 k3 k4 k5' k6
    obtain ⟨e0, e1, e2, e3, e4, e5, e6⟩ := (blk7_facts HZ.out).1
    refine bodyPost_ret (v := .tuple #[.slice A6 (RR ++ [((⟨fr, at_, qs, rt, A, n, c, tp, py⟩ : Ms), ps)]).length c6, .agg #[.string ⟨#[]⟩, .int .i64 0, .int .u8 0, .bool false, .slice none 0 0, .string ⟨#[]⟩, .string ⟨#[]⟩], .bool false]) (by simp [results, Try.results26, go_sem, e0, e1, e2, e3, e4, e5, e6]) rfl ?_
    exact ⟨_, by rw [HG.out]; rfl, by rw [HG.out]; exact RView.own OZ.out, FZ.out⟩
set_option maxHeartbeats 4000000 in
set_option maxRecDepth 100000 in
theorem rpush_light (v : Value) (RR : List (Ms × List Pr)) (x : Ms) (ps : List Pr) (most : Nat) (w : World) (hv : RView w v RR) (hl : RR.length < 1000000) (hm : most ≤ 9223372036854775807) (hr : ¬ RR.length < most) (hx : ltMs x = true) :
    Calls Try.prog 26 #[v, .agg (msC x).toArray, .int .i64 (most : Int)] w (RPushTo v RR (x, ps) most w) := by
  have HG : Hid (pushG ltP RR (x, ps) most = (RR, some (x, ps))) := Lib.hid (push_light ltP RR (x, ps) most hr hx)
  have hd : decide (RR.length < most) = false := by simpa using hr
  obtain ⟨hv, A0, c0, rfl, hc0, hc1⟩ := hv
  obtain ⟨fr, at_, qs, rt, A, n, c, tp, py⟩ := x
  have F0 : Fr [] w ((w.alloc (.cells #[.string ⟨fr.toArray⟩, .int .i64 at_, .int .u8 qs, .bool rt, .slice A n c, .string ⟨tp.toArray⟩, .string ⟨py.toArray⟩] 42)).alloc (.cells #[.string ⟨#[]⟩, .int .i64 0, .int .u8 0, .bool false, .slice none 0 0, .string ⟨#[]⟩, .string ⟨#[]⟩] 42)) := ((Fr.refl _ _).alloc _).alloc _
  have HTV := Lib.hid hv
  have HV := Lib.hid (hv.1.fr F0 (by simp))
  have hb0 := blk_old (blk_new w (.cells #[.string ⟨fr.toArray⟩, .int .i64 at_, .int .u8 qs, .bool rt, .slice A n c, .string ⟨tp.toArray⟩, .string ⟨py.toArray⟩] 42)) (.cells #[.string ⟨#[]⟩, .int .i64 0, .int .u8 0, .bool false, .slice none 0 0, .string ⟨#[]⟩, .string ⟨#[]⟩] 42)
  have hb1 := blk_at1 w (.cells #[.string ⟨fr.toArray⟩, .int .i64 at_, .int .u8 qs, .bool rt, .slice A n c, .string ⟨tp.toArray⟩, .string ⟨py.toArray⟩] 42) (.cells #[.string ⟨#[]⟩, .int .i64 0, .int .u8 0, .bool false, .slice none 0 0, .string ⟨#[]⟩, .string ⟨#[]⟩] 42)
  dsimp only [msC]
  have hq : (qs == 0) = true := hx
  clear hr hv hx
  go_enter Try.func26, Try.ntmps26
  go_wp2
  obtain ⟨y, hy⟩ : ∃ y, (w.alloc (.cells #[.string ⟨fr.toArray⟩, .int .i64 at_, .int .u8 qs, .bool rt, .slice A n c, .string ⟨tp.toArray⟩, .string ⟨py.toArray⟩] 42)).alloc (.cells #[.string ⟨#[]⟩, .int .i64 0, .int .u8 0, .bool false, .slice none 0 0, .string ⟨#[]⟩, .string ⟨#[]⟩] 42) = y := ⟨_, rfl⟩
  have hys : y.heap.size = w.heap.size + 2 := by rw [← hy]; simp
  rw [hy] at HV hb0 hb1 F0 ⊢
  clear hy
  obtain ⟨⟨e0, e1, e2, e3, e4, e5, e6⟩, _, _⟩ := blk7_facts hb0
  obtain ⟨⟨d0, d1, d2, d3, d4, d5, d6⟩, ⟨k0, k1, k2, k3, k4, k5', k6⟩, _⟩ := blk7_facts hb1
  have HB0 := Lib.hid hb0
  have HB1 := Lib.hid hb1
  have HF := Lib.hid F0
  have HYS := Lib.hid hys
  have hwy : w.heap.size + 1 < y.heap.size := by omega
  clear hb0 hb1 F0 hys
  go_cut [6, 8] (fun v6 v8 wx => v6 = .slice A0 RR.length c0 ∧ v8 = .bool true ∧ wx.heap[w.heap.size + 1]? = some (.cells #[.string ⟨fr.toArray⟩, .int .i64 at_, .int .u8 qs, .bool rt, .slice A n c, .string ⟨tp.toArray⟩, .string ⟨py.toArray⟩] 42 (0, 0)) ∧ Fr [] w wx)
  case first =>
    refine wp_region_late [3] (S := fun w' => w'.cell? ⟨w.heap.size, 0, none⟩ = some (.string ⟨fr.toArray⟩) ∧ w'.cell? ⟨w.heap.size, 1, none⟩ = some (.int .i64 at_) ∧ w'.cell? ⟨w.heap.size, 2, none⟩ = some (.int .u8 qs) ∧ w'.cell? ⟨w.heap.size, 3, none⟩ = some (.bool rt) ∧ w'.cell? ⟨w.heap.size, 4, none⟩ = some (.slice A n c) ∧ w'.cell? ⟨w.heap.size, 5, none⟩ = some (.string ⟨tp.toArray⟩) ∧ w'.cell? ⟨w.heap.size, 6, none⟩ = some (.string ⟨py.toArray⟩)) (by kernel_rfl) ⟨e0, e1, e2, e3, e4, e5, e6⟩ (fun hHeld => ?_)
    have bd : y.drew.heap[w.heap.size + 1]? = some (.cells #[.string ⟨#[]⟩, .int .i64 0, .int .u8 0, .bool false, .slice none 0 0, .string ⟨#[]⟩, .string ⟨#[]⟩] 42 (0, 0)) := HB1.out
    have fd := HF.out.drew
    obtain ⟨yd, hyd⟩ : ∃ yd, y.drew = yd := ⟨_, rfl⟩
    rw [hyd] at hHeld bd fd ⊢
    clear hyd e0 e1 e2 e3 e4 e5 e6 d0 d1 d2 d3 d4 d5 d6 k0 k1 k2 k3 k4 k5' k6
    obtain ⟨⟨d0, d1, d2, d3, d4, d5, d6⟩, ⟨k0, k1, k2, k3, k4, k5', k6⟩, _⟩ := blk7_facts bd
    have HZ := Lib.hid (blk7_set bd (.string ⟨fr.toArray⟩) (.int .i64 at_) (.int .u8 qs) (.bool rt) (.slice A n c) (.string ⟨tp.toArray⟩) (.string ⟨py.toArray⟩))
    have FZ := Lib.hid (fr7_set fd (b := w.heap.size + 1) (by omega) (.string ⟨fr.toArray⟩) (.int .i64 at_) (.int .u8 qs) (.bool rt) (.slice A n c) (.string ⟨tp.toArray⟩) (.string ⟨py.toArray⟩))
    clear bd fd
    refine wpLate_pure (i := 0) (oi := _) (v := ?_) rfl (by kernel_rfl) (by kernel_rfl) (by kernel_rfl) (by kernel_rfl) (fun _ _ _ h => h) (Gives.load (by rfl) ?_) (fun _ => hHeld) ?_
    rotate_left
    · intro w hSw
      clear hSw
      go_simp
      try with_reducible rfl
    try simp only [Act.put, List.getElem_toArray, List.getElem_cons_succ, List.getElem_cons_zero, List.setIfInBounds_toArray, List.set_cons_zero, List.set_cons_succ]
    refine wpLate_take (i := 1) (oi := _) (v := ?_) rfl (by kernel_rfl) (by kernel_rfl) (by kernel_rfl) (by kernel_rfl) (fun _ _ _ h => h) (Gives.load (by rfl) ?_) hHeld ?_
    rotate_left
    · intro w hSw
      (try dsimp only at hSw)
      go_simp
      try with_reducible rfl
    try simp only [Act.put, List.getElem_toArray, List.getElem_cons_succ, List.getElem_cons_zero, List.setIfInBounds_toArray, List.set_cons_zero, List.set_cons_succ]
    refine wpLate_pure (i := 2) (oi := _) (v := ?_) rfl (by kernel_rfl) (by kernel_rfl) (by kernel_rfl) (by kernel_rfl) (fun _ _ _ h => h) (Gives.load (by rfl) ?_) (fun _ => hHeld) ?_
    rotate_left
    · intro w hSw
      clear hSw
      go_simp
      try with_reducible rfl
    try simp only [Act.put, List.getElem_toArray, List.getElem_cons_succ, List.getElem_cons_zero, List.setIfInBounds_toArray, List.set_cons_zero, List.set_cons_succ]
    refine wpLate_ready (rs := [3]) (by kernel_rfl) (by simp) ?_
    refine AllLate.cons (o := _) rfl (fun K hK => ?_) ?_
    · go_simp
      refine hK.out _ _ (fun h => absurd h (by decide)) (fun _ => ?_)
      clear hK K
      try simp only [Act.put, List.getElem_toArray, List.getElem_cons_succ, List.getElem_cons_zero, List.setIfInBounds_toArray, List.set_cons_zero, List.set_cons_succ]
      refine wpLate_pure (i := 4) (oi := _) (v := ?_) rfl (by kernel_rfl) (by kernel_rfl) (by kernel_rfl) (by kernel_rfl) (fun _ _ _ h => h) (Gives.load (by rfl) ?_) (fun h => absurd h (by decide)) ?_
      rotate_left
      · intro w hSw
        clear hSw
        go_simp
        try with_reducible rfl
      try simp only [Act.put, List.getElem_toArray, List.getElem_cons_succ, List.getElem_cons_zero, List.setIfInBounds_toArray, List.set_cons_zero, List.set_cons_succ]
      refine wpLate_done (by kernel_rfl) ?_ _
      go_wp2_with fail
      go_meet
      exact ⟨rfl, rfl, HZ.out, FZ.out⟩
    exact AllLate.nil
  case rest =>
    obtain ⟨rfl, rfl, hz, hfz⟩ := hcut
    clear e0 e1 e2 e3 e4 e5 e6 d0 d1 d2 d3 d4 d5 d6 k0 k1 k2 k3 k4 k5' k6
    obtain ⟨⟨e0, e1, e2, e3, e4, e5, e6⟩, _, _⟩ := blk7_facts hz
    go_wp2
    refine bodyPost_ret (v := .tuple #[.slice A0 RR.length c0, .agg #[.string ⟨fr.toArray⟩, .int .i64 at_, .int .u8 qs, .bool rt, .slice A n c, .string ⟨tp.toArray⟩, .string ⟨py.toArray⟩], .bool true]) (by simp [results, Try.results26, go_sem, e0, e1, e2, e3, e4, e5, e6]) rfl ?_
    exact ⟨_, by rw [HG.out]; rfl, by rw [HG.out]; exact ⟨TView.fr0 HTV.out hfz, A0, c0, rfl, hc0, hc1⟩, hfz⟩

theorem View.takes {w : World} {A : Option Addr} {c : Nat} {l : List (Ms × List Pr)} (h : View w (.slice A l.length c) l.length (l.flatMap fun p => msC p.1)) (i c' : Nat) (hi : i ≤ l.length) : View w (.slice A i c') i ((l.take i).flatMap fun p => msC p.1) := by
  obtain ⟨A2, c2, he, h⟩ := h
  cases he
  refine ⟨A, c', rfl, ?_⟩
  rcases h with h | ⟨b, off, rfl, hc⟩
  · left
    rw [← flat_take 7 (fun p : Ms × List Pr => msC p.1) (fun p => msC_len p.1), h, List.take_nil]
  · refine Or.inr ⟨b, off, rfl, fun j u hj => hc j u ?_⟩
    rw [← flat_take 7 (fun p : Ms × List Pr => msC p.1) (fun p => msC_len p.1), List.getElem?_take] at hj
    split at hj
    · exact hj
    · cases hj
theorem View.drops {w : World} {b off c : Nat} {l : List (Ms × List Pr)} (h : View w (.slice (some ⟨b, off, none⟩) l.length c) l.length (l.flatMap fun p => msC p.1)) (i c' : Nat) (hi : i ≤ l.length) (hlc : l.length ≤ c) :
    View w (.slice (if c = i then some ⟨b, off, none⟩ else some ⟨b, off + i * 7, none⟩) (l.length - i) c') (l.length - i) ((l.drop i).flatMap fun p => msC p.1) := by
  by_cases he : c = i
  · have hd : l.drop i = [] := List.drop_eq_nil_of_le (by omega)
    rw [hd]
    exact ⟨_, _, rfl, Or.inl rfl⟩
  · rw [if_neg he]
    obtain ⟨A2, c2, he2, h⟩ := h
    cases he2
    refine ⟨_, _, rfl, ?_⟩
    rcases h with h | ⟨b', off', hb, hc⟩
    · left
      rw [← flat_drop 7 (fun p : Ms × List Pr => msC p.1) (fun p => msC_len p.1), h, List.drop_nil]
    · cases hb
      refine Or.inr ⟨b, off + i * 7, rfl, fun j u hj => ?_⟩
      rw [← flat_drop 7 (fun p : Ms × List Pr => msC p.1) (fun p => msC_len p.1), List.getElem?_drop] at hj
      have := hc _ u hj
      rwa [← Nat.add_assoc] at this
set_option maxHeartbeats 4000000 in
set_option maxRecDepth 100000 in
theorem rpush_none (v : Value) (RR : List (Ms × List Pr)) (x : Ms) (ps : List Pr) (most : Nat) (w : World) (hv : RView w v RR) (hl : RR.length < 1000000) (hm : most ≤ 9223372036854775807) (hr : ¬ RR.length < most) (hf : RR.findIdx? ltP = none) (hx : ltMs x = false) :
    Calls Try.prog 26 #[v, .agg (msC x).toArray, .int .i64 (most : Int)] w (RPushTo v RR (x, ps) most w) := by
  have HG : Hid (pushG ltP RR (x, ps) most = (RR, some (x, ps))) := Lib.hid (by rw [pushG, if_neg hr, hf])
  have HNL : Hid (∀ (k : Nat) (hk : k < RR.length), k < RR.length → ltP RR[k] = false) := Lib.hid (fun k hk _ => List.findIdx?_eq_none_iff.1 hf _ (List.getElem_mem hk))
  have hd : decide (RR.length < most) = false := by simpa using hr
  obtain ⟨hv, A0, c0, rfl, hc0, hc1⟩ := hv
  obtain ⟨fr, at_, qs, rt, A, n, c, tp, py⟩ := x
  have F0 : Fr [] w ((w.alloc (.cells #[.string ⟨fr.toArray⟩, .int .i64 at_, .int .u8 qs, .bool rt, .slice A n c, .string ⟨tp.toArray⟩, .string ⟨py.toArray⟩] 42)).alloc (.cells #[.string ⟨#[]⟩, .int .i64 0, .int .u8 0, .bool false, .slice none 0 0, .string ⟨#[]⟩, .string ⟨#[]⟩] 42)) := ((Fr.refl _ _).alloc _).alloc _
  have HTV := Lib.hid hv
  have HV := Lib.hid (hv.1.fr F0 (by simp))
  have hb0 := blk_old (blk_new w (.cells #[.string ⟨fr.toArray⟩, .int .i64 at_, .int .u8 qs, .bool rt, .slice A n c, .string ⟨tp.toArray⟩, .string ⟨py.toArray⟩] 42)) (.cells #[.string ⟨#[]⟩, .int .i64 0, .int .u8 0, .bool false, .slice none 0 0, .string ⟨#[]⟩, .string ⟨#[]⟩] 42)
  have hb1 := blk_at1 w (.cells #[.string ⟨fr.toArray⟩, .int .i64 at_, .int .u8 qs, .bool rt, .slice A n c, .string ⟨tp.toArray⟩, .string ⟨py.toArray⟩] 42) (.cells #[.string ⟨#[]⟩, .int .i64 0, .int .u8 0, .bool false, .slice none 0 0, .string ⟨#[]⟩, .string ⟨#[]⟩] 42)
  dsimp only [msC]
  have hq : (qs == 0) = false := hx
  clear hr hv hx hf
  go_enter Try.func26, Try.ntmps26
  go_wp2
  obtain ⟨y, hy⟩ : ∃ y, (w.alloc (.cells #[.string ⟨fr.toArray⟩, .int .i64 at_, .int .u8 qs, .bool rt, .slice A n c, .string ⟨tp.toArray⟩, .string ⟨py.toArray⟩] 42)).alloc (.cells #[.string ⟨#[]⟩, .int .i64 0, .int .u8 0, .bool false, .slice none 0 0, .string ⟨#[]⟩, .string ⟨#[]⟩] 42) = y := ⟨_, rfl⟩
  have hys : y.heap.size = w.heap.size + 2 := by rw [← hy]; simp
  rw [hy] at HV hb0 hb1 F0 ⊢
  clear hy
  have HC : Hid (0 < RR.length → ∃ b off c, Value.slice A0 RR.length c0 = .slice (some ⟨b, off, none⟩) RR.length c ∧ b < y.heap.size ∧ ∀ (i : Nat) (hi : i < RR.length) j u, (msC RR[i].1)[j]? = some u → y.cell? ⟨b, off + i * 7 + j, none⟩ = some u) := Lib.hid (fun hl => View.at (enc := fun p : Ms × List Pr => msC p.1) HV.out (fun p => msC_len p.1) (by decide) hl)
  have HB0 := Lib.hid hb0
  have HB1 := Lib.hid hb1
  have HF := Lib.hid F0
  have HYS := Lib.hid hys
  have hwy : w.heap.size + 1 < y.heap.size := by omega
  clear hb0 hb1 F0 hys
  go_loopw [30] (fun iv wr => ∃ k : Nat, iv = .int .i64 k ∧ k ≤ RR.length ∧ Fr [] y wr) (fun iv _ => RR.length - (intOf iv).toNat)
  case atStart => exact ⟨0, rfl, by omega, Fr.refl _ _⟩
  case round =>
    obtain ⟨k, rfl, hk, hfr⟩ := hrel
    have HFR := Lib.hid hfr
    have hsr := hfr.size
    clear hfr
    by_cases hlt : k < RR.length
    · obtain ⟨bb, off, c', hsl, hbb, hc⟩ := HC.out (by omega)
      cases hsl
      have hcell := hc k hlt
      have hnl := HNL.out k hlt hlt
      generalize RR[k] = p at *
      obtain ⟨⟨fr', at', qs', rt', A', n', c', tp', py'⟩, ps'⟩ := p
      have c0' : wr.cell? ⟨bb, off + k * 7, none⟩ = some (.string ⟨fr'.toArray⟩) := HFR.out.cell (hcell 0 _ rfl) (by simp)
      have c1' : wr.cell? ⟨bb, off + k * 7 + 1, none⟩ = some (.int .i64 at') := HFR.out.cell (hcell 1 _ rfl) (by simp)
      have c2' : wr.cell? ⟨bb, off + k * 7 + 2, none⟩ = some (.int .u8 qs') := HFR.out.cell (hcell 2 _ rfl) (by simp)
      have c3' : wr.cell? ⟨bb, off + k * 7 + 3, none⟩ = some (.bool rt') := HFR.out.cell (hcell 3 _ rfl) (by simp)
      have c4' : wr.cell? ⟨bb, off + k * 7 + 4, none⟩ = some (.slice A' n' c') := HFR.out.cell (hcell 4 _ rfl) (by simp)
      have c5' : wr.cell? ⟨bb, off + k * 7 + 5, none⟩ = some (.string ⟨tp'.toArray⟩) := HFR.out.cell (hcell 5 _ rfl) (by simp)
      have c6' : wr.cell? ⟨bb, off + k * 7 + 6, none⟩ = some (.string ⟨py'.toArray⟩) := HFR.out.cell (hcell 6 _ rfl) (by simp)
      have hq' : (qs' == 0) = false := hnl
      have fr1 := Lib.hid (HFR.out.alloc (.cells #[.string ⟨fr'.toArray⟩, .int .i64 at', .int .u8 qs', .bool rt', .slice A' n' c', .string ⟨tp'.toArray⟩, .string ⟨py'.toArray⟩] 42))
      clear hcell hc hnl
      go_wp2
      go_roundw
      case rel => exact ⟨k + 1, by go_num, by omega, fr1.out⟩
      case measure => simp [intOf]; omega
    · have hk1 : decide (k < RR.length) = false := by simpa using hlt
      have FW := Lib.hid (HF.out.trans HFR.out (by simp))
      have hb0 := HFR.out.blk HB0.out (by simp)
      have hb1 := HFR.out.blk HB1.out (by simp)
      have HBW := Lib.hid hb1
      obtain ⟨⟨e0, e1, e2, e3, e4, e5, e6⟩, _, _⟩ := blk7_facts hb0
      obtain ⟨⟨d0, d1, d2, d3, d4, d5, d6⟩, ⟨k0, k1, k2, k3, k4, k5', k6⟩, _⟩ := blk7_facts hb1
      clear hb0 hb1
      go_wp2
      go_cut [6, 8] (fun v6 v8 wx => v6 = .slice A0 RR.length c0 ∧ v8 = .bool true ∧ wx.heap[w.heap.size + 1]? = some (.cells #[.string ⟨fr.toArray⟩, .int .i64 at_, .int .u8 qs, .bool rt, .slice A n c, .string ⟨tp.toArray⟩, .string ⟨py.toArray⟩] 42 (0, 0)) ∧ Fr [] w wx)
      case first =>
        refine wp_region_late [3] (S := fun w' => w'.cell? ⟨w.heap.size, 0, none⟩ = some (.string ⟨fr.toArray⟩) ∧ w'.cell? ⟨w.heap.size, 1, none⟩ = some (.int .i64 at_) ∧ w'.cell? ⟨w.heap.size, 2, none⟩ = some (.int .u8 qs) ∧ w'.cell? ⟨w.heap.size, 3, none⟩ = some (.bool rt) ∧ w'.cell? ⟨w.heap.size, 4, none⟩ = some (.slice A n c) ∧ w'.cell? ⟨w.heap.size, 5, none⟩ = some (.string ⟨tp.toArray⟩) ∧ w'.cell? ⟨w.heap.size, 6, none⟩ = some (.string ⟨py.toArray⟩)) (by kernel_rfl) ⟨e0, e1, e2, e3, e4, e5, e6⟩ (fun hHeld => ?_)
        have bd : wr.drew.heap[w.heap.size + 1]? = some (.cells #[.string ⟨#[]⟩, .int .i64 0, .int .u8 0, .bool false, .slice none 0 0, .string ⟨#[]⟩, .string ⟨#[]⟩] 42 (0, 0)) := HBW.out
        have fd := FW.out.drew
        obtain ⟨yd, hyd⟩ : ∃ yd, wr.drew = yd := ⟨_, rfl⟩
        rw [hyd] at hHeld bd fd ⊢
        clear hyd e0 e1 e2 e3 e4 e5 e6 d0 d1 d2 d3 d4 d5 d6 k0 k1 k2 k3 k4 k5' k6
        obtain ⟨⟨d0, d1, d2, d3, d4, d5, d6⟩, ⟨k0, k1, k2, k3, k4, k5', k6⟩, _⟩ := blk7_facts bd
        have HZ := Lib.hid (blk7_set bd (.string ⟨fr.toArray⟩) (.int .i64 at_) (.int .u8 qs) (.bool rt) (.slice A n c) (.string ⟨tp.toArray⟩) (.string ⟨py.toArray⟩))
        have FZ := Lib.hid (fr7_set fd (b := w.heap.size + 1) (by omega) (.string ⟨fr.toArray⟩) (.int .i64 at_) (.int .u8 qs) (.bool rt) (.slice A n c) (.string ⟨tp.toArray⟩) (.string ⟨py.toArray⟩))
        clear bd fd
        refine wpLate_pure (i := 0) (oi := _) (v := ?_) rfl (by kernel_rfl) (by kernel_rfl) (by kernel_rfl) (by kernel_rfl) (fun _ _ _ h => h) (Gives.load (by rfl) ?_) (fun _ => hHeld) ?_
        rotate_left
        · intro w hSw
          clear hSw
          go_simp
          try with_reducible rfl
        try simp only [Act.put, List.getElem_toArray, List.getElem_cons_succ, List.getElem_cons_zero, List.setIfInBounds_toArray, List.set_cons_zero, List.set_cons_succ]
        refine wpLate_take (i := 1) (oi := _) (v := ?_) rfl (by kernel_rfl) (by kernel_rfl) (by kernel_rfl) (by kernel_rfl) (fun _ _ _ h => h) (Gives.load (by rfl) ?_) hHeld ?_
        rotate_left
        · intro w hSw
          (try dsimp only at hSw)
          go_simp
          try with_reducible rfl
        try simp only [Act.put, List.getElem_toArray, List.getElem_cons_succ, List.getElem_cons_zero, List.setIfInBounds_toArray, List.set_cons_zero, List.set_cons_succ]
        refine wpLate_pure (i := 2) (oi := _) (v := ?_) rfl (by kernel_rfl) (by kernel_rfl) (by kernel_rfl) (by kernel_rfl) (fun _ _ _ h => h) (Gives.load (by rfl) ?_) (fun _ => hHeld) ?_
        rotate_left
        · intro w hSw
          clear hSw
          go_simp
          try with_reducible rfl
        try simp only [Act.put, List.getElem_toArray, List.getElem_cons_succ, List.getElem_cons_zero, List.setIfInBounds_toArray, List.set_cons_zero, List.set_cons_succ]
        refine wpLate_ready (rs := [3]) (by kernel_rfl) (by simp) ?_
        refine AllLate.cons (o := _) rfl (fun K hK => ?_) ?_
        · go_simp
          refine hK.out _ _ (fun h => absurd h (by decide)) (fun _ => ?_)
          clear hK K
          try simp only [Act.put, List.getElem_toArray, List.getElem_cons_succ, List.getElem_cons_zero, List.setIfInBounds_toArray, List.set_cons_zero, List.set_cons_succ]
          refine wpLate_pure (i := 4) (oi := _) (v := ?_) rfl (by kernel_rfl) (by kernel_rfl) (by kernel_rfl) (by kernel_rfl) (fun _ _ _ h => h) (Gives.load (by rfl) ?_) (fun h => absurd h (by decide)) ?_
          rotate_left
          · intro w hSw
            clear hSw
            go_simp
            try with_reducible rfl
          try simp only [Act.put, List.getElem_toArray, List.getElem_cons_succ, List.getElem_cons_zero, List.setIfInBounds_toArray, List.set_cons_zero, List.set_cons_succ]
          refine wpLate_done (by kernel_rfl) ?_ _
          go_wp2_with fail
          go_meet
          exact ⟨rfl, rfl, HZ.out, FZ.out⟩
        exact AllLate.nil
      case rest =>
        obtain ⟨rfl, rfl, hz, hfz⟩ := hcut
        clear e0 e1 e2 e3 e4 e5 e6 d0 d1 d2 d3 d4 d5 d6 k0 k1 k2 k3 k4 k5' k6
        obtain ⟨⟨e0, e1, e2, e3, e4, e5, e6⟩, _, _⟩ := blk7_facts hz
        go_wp2
        refine bodyPost_ret (v := .tuple #[.slice A0 RR.length c0, .agg #[.string ⟨fr.toArray⟩, .int .i64 at_, .int .u8 qs, .bool rt, .slice A n c, .string ⟨tp.toArray⟩, .string ⟨py.toArray⟩], .bool true]) (by simp [results, Try.results26, go_sem, e0, e1, e2, e3, e4, e5, e6]) rfl ?_
        exact ⟨_, by rw [HG.out]; rfl, by rw [HG.out]; exact ⟨TView.fr0 HTV.out hfz, A0, c0, rfl, hc0, hc1⟩, hfz⟩
set_option maxHeartbeats 4000000 in
set_option maxRecDepth 100000 in
theorem rpush_swap (v : Value) (RR : List (Ms × List Pr)) (x : Ms) (ps : List Pr) (most : Nat) (w : World) (hv : RView w v RR) (hl : RR.length < 1000000) (hm : most ≤ 9223372036854775807) (hr : ¬ RR.length < most) (i : Nat) (hf : RR.findIdx? ltP = some i) (hx : ltMs x = false) :
    Calls Try.prog 26 #[v, .agg (msC x).toArray, .int .i64 (most : Int)] w (RPushTo v RR (x, ps) most w) := by
  obtain ⟨i0, hi, hz0, hz1, hz2⟩ := info_parts Try.infoRMs
  have hii := List.findIdx?_eq_some_iff_getElem.1 hf
  have hiL := hii.1
  have HG0 : Hid (pushG ltP RR (x, ps) most = (RR.eraseIdx i ++ [(x, ps)], RR[i]?)) := Lib.hid (by rw [pushG, if_neg hr, hf]; dsimp only; rw [if_neg (by show ¬ ltMs x = true; rw [hx]; simp)])
  have HNL : Hid (∀ (k : Nat) (hk : k < RR.length), k < i → ltP RR[k] = false) := Lib.hid (fun k hk hki => by have := hii.2.2 k hki; simpa using this)
  have HYL : Hid (ltP RR[i] = true) := Lib.hid hii.2.1
  have hd : decide (RR.length < most) = false := by simpa using hr
  obtain ⟨hv, A0, c0, rfl, hc0, hc1⟩ := hv
  obtain ⟨fr, at_, qs, rt, A, n, c, tp, py⟩ := x
  have F0 : Fr [] w ((w.alloc (.cells #[.string ⟨fr.toArray⟩, .int .i64 at_, .int .u8 qs, .bool rt, .slice A n c, .string ⟨tp.toArray⟩, .string ⟨py.toArray⟩] 42)).alloc (.cells #[.string ⟨#[]⟩, .int .i64 0, .int .u8 0, .bool false, .slice none 0 0, .string ⟨#[]⟩, .string ⟨#[]⟩] 42)) := ((Fr.refl _ _).alloc _).alloc _
  have HTV := Lib.hid hv
  have HV := Lib.hid (hv.1.fr F0 (by simp))
  have hb0 := blk_old (blk_new w (.cells #[.string ⟨fr.toArray⟩, .int .i64 at_, .int .u8 qs, .bool rt, .slice A n c, .string ⟨tp.toArray⟩, .string ⟨py.toArray⟩] 42)) (.cells #[.string ⟨#[]⟩, .int .i64 0, .int .u8 0, .bool false, .slice none 0 0, .string ⟨#[]⟩, .string ⟨#[]⟩] 42)
  have hb1 := blk_at1 w (.cells #[.string ⟨fr.toArray⟩, .int .i64 at_, .int .u8 qs, .bool rt, .slice A n c, .string ⟨tp.toArray⟩, .string ⟨py.toArray⟩] 42) (.cells #[.string ⟨#[]⟩, .int .i64 0, .int .u8 0, .bool false, .slice none 0 0, .string ⟨#[]⟩, .string ⟨#[]⟩] 42)
  dsimp only [msC]
  have hq : (qs == 0) = false := hx
  clear hr hv hx hf hii
  go_enter Try.func26, Try.ntmps26
  go_wp2
  obtain ⟨y, hy⟩ : ∃ y, (w.alloc (.cells #[.string ⟨fr.toArray⟩, .int .i64 at_, .int .u8 qs, .bool rt, .slice A n c, .string ⟨tp.toArray⟩, .string ⟨py.toArray⟩] 42)).alloc (.cells #[.string ⟨#[]⟩, .int .i64 0, .int .u8 0, .bool false, .slice none 0 0, .string ⟨#[]⟩, .string ⟨#[]⟩] 42) = y := ⟨_, rfl⟩
  have hys : y.heap.size = w.heap.size + 2 := by rw [← hy]; simp
  rw [hy] at HV hb0 hb1 F0 ⊢
  clear hy
  have HC : Hid (0 < RR.length → ∃ b off c, Value.slice A0 RR.length c0 = .slice (some ⟨b, off, none⟩) RR.length c ∧ b < y.heap.size ∧ ∀ (i : Nat) (hi : i < RR.length) j u, (msC RR[i].1)[j]? = some u → y.cell? ⟨b, off + i * 7 + j, none⟩ = some u) := Lib.hid (fun hl => View.at (enc := fun p : Ms × List Pr => msC p.1) HV.out (fun p => msC_len p.1) (by decide) hl)
  have HB0 := Lib.hid hb0
  have HB1 := Lib.hid hb1
  have HF := Lib.hid F0
  have HYS := Lib.hid hys
  have hwy : w.heap.size + 1 < y.heap.size := by omega
  clear hb0 hb1 F0 hys
  go_loopw [30] (fun iv wr => ∃ k : Nat, iv = .int .i64 k ∧ k ≤ i ∧ Fr [] y wr) (fun iv _ => RR.length - (intOf iv).toNat)
  case atStart => exact ⟨0, rfl, by omega, Fr.refl _ _⟩
  case round =>
    obtain ⟨k, rfl, hk, hfr⟩ := hrel
    have HFR := Lib.hid hfr
    have hsr := hfr.size
    clear hfr
    have hlt : k < RR.length := by omega
    by_cases hki : k < i
    · obtain ⟨bb, off, c', hsl, hbb, hc⟩ := HC.out (by omega)
      cases hsl
      have hcell := hc k hlt
      have hnl := HNL.out k hlt hki
      generalize RR[k] = p at *
      obtain ⟨⟨fr', at', qs', rt', A', n', c', tp', py'⟩, ps'⟩ := p
      have c0' : wr.cell? ⟨bb, off + k * 7, none⟩ = some (.string ⟨fr'.toArray⟩) := HFR.out.cell (hcell 0 _ rfl) (by simp)
      have c1' : wr.cell? ⟨bb, off + k * 7 + 1, none⟩ = some (.int .i64 at') := HFR.out.cell (hcell 1 _ rfl) (by simp)
      have c2' : wr.cell? ⟨bb, off + k * 7 + 2, none⟩ = some (.int .u8 qs') := HFR.out.cell (hcell 2 _ rfl) (by simp)
      have c3' : wr.cell? ⟨bb, off + k * 7 + 3, none⟩ = some (.bool rt') := HFR.out.cell (hcell 3 _ rfl) (by simp)
      have c4' : wr.cell? ⟨bb, off + k * 7 + 4, none⟩ = some (.slice A' n' c') := HFR.out.cell (hcell 4 _ rfl) (by simp)
      have c5' : wr.cell? ⟨bb, off + k * 7 + 5, none⟩ = some (.string ⟨tp'.toArray⟩) := HFR.out.cell (hcell 5 _ rfl) (by simp)
      have c6' : wr.cell? ⟨bb, off + k * 7 + 6, none⟩ = some (.string ⟨py'.toArray⟩) := HFR.out.cell (hcell 6 _ rfl) (by simp)
      have hq' : (qs' == 0) = false := hnl
      have fr1 := Lib.hid (HFR.out.alloc (.cells #[.string ⟨fr'.toArray⟩, .int .i64 at', .int .u8 qs', .bool rt', .slice A' n' c', .string ⟨tp'.toArray⟩, .string ⟨py'.toArray⟩] 42))
      clear hcell hc hnl
      go_wp2
      go_roundw
      case rel => exact ⟨k + 1, by go_num, by omega, fr1.out⟩
      case measure => simp [intOf]; omega
    · have he : k = i := by omega
      have HGI : Hid (RR[k]? = some RR[k]) := Lib.hid (List.getElem?_eq_getElem hlt)
      have hyl : ltP RR[k] = true := by subst he; exact HYL.out
      obtain ⟨bb, off, c', hsl, hbb, hc⟩ := HC.out (by omega)
      cases hsl
      have hcell := hc k hlt
      generalize RR[k] = p at *
      obtain ⟨⟨fr', at', qs', rt', A', n', c', tp', py'⟩, ps'⟩ := p
      have c0' : wr.cell? ⟨bb, off + k * 7, none⟩ = some (.string ⟨fr'.toArray⟩) := HFR.out.cell (hcell 0 _ rfl) (by simp)
      have c1' : wr.cell? ⟨bb, off + k * 7 + 1, none⟩ = some (.int .i64 at') := HFR.out.cell (hcell 1 _ rfl) (by simp)
      have c2' : wr.cell? ⟨bb, off + k * 7 + 2, none⟩ = some (.int .u8 qs') := HFR.out.cell (hcell 2 _ rfl) (by simp)
      have c3' : wr.cell? ⟨bb, off + k * 7 + 3, none⟩ = some (.bool rt') := HFR.out.cell (hcell 3 _ rfl) (by simp)
      have c4' : wr.cell? ⟨bb, off + k * 7 + 4, none⟩ = some (.slice A' n' c') := HFR.out.cell (hcell 4 _ rfl) (by simp)
      have c5' : wr.cell? ⟨bb, off + k * 7 + 5, none⟩ = some (.string ⟨tp'.toArray⟩) := HFR.out.cell (hcell 5 _ rfl) (by simp)
      have c6' : wr.cell? ⟨bb, off + k * 7 + 6, none⟩ = some (.string ⟨py'.toArray⟩) := HFR.out.cell (hcell 6 _ rfl) (by simp)
      have hq' : (qs' == 0) = true := hyl
      have fr1 := Lib.hid (HFR.out.alloc (.cells #[.string ⟨fr'.toArray⟩, .int .i64 at', .int .u8 qs', .bool rt', .slice A' n' c', .string ⟨tp'.toArray⟩, .string ⟨py'.toArray⟩] 42))
      subst he
      have hkc : (k : Int) ≤ (c0 : Int) := by omega
      have hk0 : (0 : Int) ≤ (k : Int) := by omega
      have hkl : (k : Int) ≤ (RR.length : Int) := by omega
      have hk1l : (k : Int) + 1 ≤ (RR.length : Int) := by omega
      have hk10 : (0 : Int) ≤ (k : Int) + 1 := by omega
      have hk1n : ((k : Int) + 1).toNat = k + 1 := by omega
      have hwr1 : IntKind.i64.wrap ((k : Int) + 1) = (k : Int) + 1 := by rw [IntKind.wrap_i64]; omega
      have hkn : k ≤ RR.length := by omega
      have hkn1 : k + 1 ≤ RR.length := by omega
      have hkcn : k ≤ c0 := by omega
      have HVr := Lib.hid (HV.out.fr fr1.out (by simp))
      have hbx := blk_new wr (.cells #[.string ⟨fr'.toArray⟩, .int .i64 at', .int .u8 qs', .bool rt', .slice A' n' c', .string ⟨tp'.toArray⟩, .string ⟨py'.toArray⟩] 42)
      have hb0 := blk_old (HFR.out.blk HB0.out (by simp)) (.cells #[.string ⟨fr'.toArray⟩, .int .i64 at', .int .u8 qs', .bool rt', .slice A' n' c', .string ⟨tp'.toArray⟩, .string ⟨py'.toArray⟩] 42)
      have hb1 := blk_old (HFR.out.blk HB1.out (by simp)) (.cells #[.string ⟨fr'.toArray⟩, .int .i64 at', .int .u8 qs', .bool rt', .slice A' n' c', .string ⟨tp'.toArray⟩, .string ⟨py'.toArray⟩] 42)
      have FW := Lib.hid (HF.out.trans fr1.out (by simp))
      have hwz : wr.heap.size < (wr.alloc (.cells #[.string ⟨fr'.toArray⟩, .int .i64 at', .int .u8 qs', .bool rt', .slice A' n' c', .string ⟨tp'.toArray⟩, .string ⟨py'.toArray⟩] 42)).heap.size := by simp
      clear hcell hc hyl
      go_upto_region 9 with (fail)
      obtain ⟨z, hz⟩ : ∃ z, wr.alloc (.cells #[.string ⟨fr'.toArray⟩, .int .i64 at', .int .u8 qs', .bool rt', .slice A' n' c', .string ⟨tp'.toArray⟩, .string ⟨py'.toArray⟩] 42) = z := ⟨_, rfl⟩
      rw [hz] at HVr hbx hb0 hb1 FW hwz ⊢
      have hzs : wr.heap.size + 1 = z.heap.size := by rw [← hz]; simp
      have HBX := Lib.hid hbx
      have HBB0 := Lib.hid hb0
      have HBB1 := Lib.hid hb1
      have HZS := Lib.hid hzs
      have hwz2 : w.heap.size + 2 ≤ z.heap.size := by have := HYS.out; omega
      have HE1 := Lib.hid (own_emp z 42 7 z.heap.size (Nat.le_refl _))
      have HT1 := Lib.hid ((View.takes HVr.out k c0 hkn).fr ((Fr.refl [] z).alloc (.cells #[] 42)) (by simp))
      have HFE := Lib.hid ((Fr.refl [] z).alloc (.cells #[] 42))
      have htl : ((RR.take k).flatMap fun p => msC p.1).length = k * 7 := by rw [flat_len 7 _ (fun p : Ms × List Pr => msC_len p.1), List.length_take, Nat.min_eq_left hkn]
      have HTL := Lib.hid htl
      have hzb : z.heap.size ≤ (z.alloc (.cells #[] 42)).heap.size := by simp
      clear hz hbx hb0 hb1 hzs htl c0' c1' c2' c3' c4' c5' c6'
      go_upto_region 10 with (at_builtin; refine wpl_appv _ rfl (.tmp 38) (.tmp 41) 51 rfl z.heap.size 42 i0 _ 7 88 Try.underlying51 hi hz0 hz1 hz2 rfl (by decide) _ 0 [] rfl HE1.out _ k ((RR.take k).flatMap (fun p : Ms × List Pr => msC p.1)) rfl HTL.out HT1.out (enc_mem (fun p : Ms × List Pr => msC_one p.1) _) ?c3 ?c4 ?c5 ?_)
      case c3 => unfold maxLen; omega
      case c4 => omega
      case c5 => omega
      intro v5 w5 own5 hg5 _
      have F5 : Fr [] z w5 := HFE.out.app (own_emp z 42 7 z.heap.size (Nat.le_refl _)) (Nat.le_refl _) hg5
      have hlen5 : (RR.take k).length = k := by rw [List.length_take, Nat.min_eq_left hkn]
      have own5' := own5
      obtain ⟨A5, cp5, rfl⟩ := own_shape own5'
      have HO5 := Lib.hid own5'
      have HF5 := Lib.hid F5
      have hs5 := F5.size
      obtain ⟨A6', hA6, hview6⟩ : ∃ A : Option Addr, (if c0 = k + 1 then some (⟨bb, off, none⟩ : Addr) else some ⟨bb, off + (k + 1) * 7, none⟩) = A ∧ Hid (View w5 (.slice A (RR.length - (k + 1)) (c0 - (k + 1))) (RR.length - (k + 1)) ((RR.drop (k + 1)).flatMap (fun p : Ms × List Pr => msC p.1))) :=
        ⟨_, rfl, Lib.hid (View.drops (HVr.out.fr HF5.out (by simp)) (k + 1) (c0 - (k + 1)) hkn1 hc0)⟩
      have hdl : ((RR.drop (k + 1)).flatMap (fun p : Ms × List Pr => msC p.1)).length = (RR.length - (k + 1)) * 7 := by rw [flat_len 7 _ (fun p : Ms × List Pr => msC_len p.1), List.length_drop]
      have HDL := Lib.hid hdl
      clear own5 own5' hg5 F5 hlen5 hdl
      go_upto_region 11 with (at_builtin; refine wpl_appv _ rfl (.tmp 43) (.tmp 47) 51 rfl z.heap.size 42 i0 _ 7 88 Try.underlying51 hi hz0 hz1 hz2 rfl (by decide) _ k ((RR.take k).flatMap (fun p : Ms × List Pr => msC p.1)) rfl HO5.out _ (RR.length - (k + 1)) ((RR.drop (k + 1)).flatMap (fun p : Ms × List Pr => msC p.1)) rfl HDL.out hview6.out (enc_mem (fun p : Ms × List Pr => msC_one p.1) _) ?c6 ?c7 ?c8 ?_)
      case c6 => unfold maxLen; omega
      case c7 => omega
      case c8 => omega
      intro v6 w6 own6 hg6 _
      have F6 : Fr [] z w6 := HF5.out.app HO5.out (Nat.le_refl _) hg6
      have hel : (RR.eraseIdx k).length = k + (RR.length - (k + 1)) := by rw [List.length_eraseIdx_of_lt hlt]; omega
      have hef : (RR.eraseIdx k).flatMap (fun p : Ms × List Pr => msC p.1) = (RR.take k).flatMap (fun p : Ms × List Pr => msC p.1) ++ (RR.drop (k + 1)).flatMap (fun p : Ms × List Pr => msC p.1) := by rw [List.eraseIdx_eq_take_drop_succ, List.flatMap_append]
      obtain ⟨N, hN⟩ : ∃ N, N = k + (RR.length - (k + 1)) := ⟨_, rfl⟩
      rw [← hN, ← hef] at own6
      rw [← hN] at hel
      clear hN
      have hb0 := F6.blk HBB0.out (by simp)
      have hb1 := F6.blk HBB1.out (by simp)
      have hbx := F6.blk HBX.out (by simp)
      have FW6 := FW.out.trans F6 (by simp)
      obtain ⟨A6, cp6, rfl⟩ := own_shape own6
      have hs6 := F6.size
      obtain ⟨e0, e1, e2, e3, e4, e5, e6⟩ := (blk7_facts hb0).1
      obtain ⟨g0, g1, g2, g3, g4, g5, g6⟩ := (blk7_facts hbx).1
      have HG : Hid (pushG ltP RR ((⟨fr, at_, qs, rt, A, n, c, tp, py⟩ : Ms), ps) most = (RR.eraseIdx k ++ [((⟨fr, at_, qs, rt, A, n, c, tp, py⟩ : Ms), ps)], some ((⟨fr', at', qs', rt', A', n', c', tp', py'⟩ : Ms), ps'))) := Lib.hid (by rw [HG0.out, HGI.out])
      clear hg6
      go_upto_region 11 with (fail)
      refine wp_region_late [6] (S := fun w' => (w'.cell? ⟨w.heap.size, 0, none⟩ = some (.string ⟨fr.toArray⟩) ∧ w'.cell? ⟨w.heap.size, 1, none⟩ = some (.int .i64 at_) ∧ w'.cell? ⟨w.heap.size, 2, none⟩ = some (.int .u8 qs) ∧ w'.cell? ⟨w.heap.size, 3, none⟩ = some (.bool rt) ∧ w'.cell? ⟨w.heap.size, 4, none⟩ = some (.slice A n c) ∧ w'.cell? ⟨w.heap.size, 5, none⟩ = some (.string ⟨tp.toArray⟩) ∧ w'.cell? ⟨w.heap.size, 6, none⟩ = some (.string ⟨py.toArray⟩)) ∧ (w'.cell? ⟨wr.heap.size, 0, none⟩ = some (.string ⟨fr'.toArray⟩) ∧ w'.cell? ⟨wr.heap.size, 1, none⟩ = some (.int .i64 at') ∧ w'.cell? ⟨wr.heap.size, 2, none⟩ = some (.int .u8 qs') ∧ w'.cell? ⟨wr.heap.size, 3, none⟩ = some (.bool rt') ∧ w'.cell? ⟨wr.heap.size, 4, none⟩ = some (.slice A' n' c') ∧ w'.cell? ⟨wr.heap.size, 5, none⟩ = some (.string ⟨tp'.toArray⟩) ∧ w'.cell? ⟨wr.heap.size, 6, none⟩ = some (.string ⟨py'.toArray⟩))) (by kernel_rfl) ⟨⟨e0, e1, e2, e3, e4, e5, e6⟩, ⟨g0, g1, g2, g3, g4, g5, g6⟩⟩ (fun hHeld => ?_)
      have od := World.ownsRow.drew own6
      have fd := FW6.drew
      have bd0 : w6.drew.heap[w.heap.size]? = some (.cells #[.string ⟨fr.toArray⟩, .int .i64 at_, .int .u8 qs, .bool rt, .slice A n c, .string ⟨tp.toArray⟩, .string ⟨py.toArray⟩] 42 (0, 0)) := hb0
      have bd1 : w6.drew.heap[w.heap.size + 1]? = some (.cells #[.string ⟨#[]⟩, .int .i64 0, .int .u8 0, .bool false, .slice none 0 0, .string ⟨#[]⟩, .string ⟨#[]⟩] 42 (0, 0)) := hb1
      have bdx : w6.drew.heap[wr.heap.size]? = some (.cells #[.string ⟨fr'.toArray⟩, .int .i64 at', .int .u8 qs', .bool rt', .slice A' n' c', .string ⟨tp'.toArray⟩, .string ⟨py'.toArray⟩] 42 (0, 0)) := hbx
      have hs6d : w6.heap.size = w6.drew.heap.size := rfl
      obtain ⟨yd, hyd⟩ : ∃ yd, w6.drew = yd := ⟨_, rfl⟩
      rw [hyd] at hHeld od fd bd0 bd1 bdx hs6d ⊢
      clear hyd e0 e1 e2 e3 e4 e5 e6 g0 g1 g2 g3 g4 g5 g6 hb0 hb1 hbx own6 FW6
      have hel6 : N < 1000000 := by rw [← hel, List.length_eraseIdx_of_lt hlt]; omega
      have HEL := Lib.hid hel
      clear hel
      have hnews := Lib.hid (news_at yd yd.heap.size rfl (msC ⟨fr, at_, qs, rt, A, n, c, tp, py⟩) 42)
      have hoa := Lib.hid (od.alloc (.cells (msC ⟨fr, at_, qs, rt, A, n, c, tp, py⟩).toArray 42))
      have hsa : (yd.alloc (.cells (msC ⟨fr, at_, qs, rt, A, n, c, tp, py⟩).toArray 42)).heap.size = yd.heap.size + 1 := by simp
      have HSA := Lib.hid hsa
      have bo0 := blk_old bd0 (.cells (msC ⟨fr, at_, qs, rt, A, n, c, tp, py⟩).toArray 42)
      have bo1 := blk_old bd1 (.cells (msC ⟨fr, at_, qs, rt, A, n, c, tp, py⟩).toArray 42)
      have box := blk_old bdx (.cells (msC ⟨fr, at_, qs, rt, A, n, c, tp, py⟩).toArray 42)
      have fo := fd.alloc (.cells (msC ⟨fr, at_, qs, rt, A, n, c, tp, py⟩).toArray 42)
      have hlow := Lib.hid (fun b hb => (od.lt b hb).1)
      have hzy : z.heap.size ≤ yd.heap.size := by omega
      clear hsa od
      refine wpLate_pure (i := 0) (oi := _) (v := ?_) rfl (by kernel_rfl) (by kernel_rfl) (by kernel_rfl) (by kernel_rfl) (fun _ _ _ h => h) (Gives.load (by rfl) ?_) (fun _ => hHeld) ?_
      rotate_left
      · intro w hSw
        clear hSw
        go_simp
        try with_reducible rfl
      try simp only [Act.put, List.getElem_toArray, List.getElem_cons_succ, List.getElem_cons_zero, List.setIfInBounds_toArray, List.set_cons_zero, List.set_cons_succ]
      refine wpLate_take (i := 1) (oi := _) (v := ?_) rfl (by kernel_rfl) (by kernel_rfl) (by kernel_rfl) (by kernel_rfl) (fun _ _ _ h => h) (Gives.load (by rfl) ?_) hHeld ?_
      rotate_left
      · intro w hSw
        (try dsimp only at hSw)
        go_simp
        try with_reducible rfl
      try simp only [Act.put, List.getElem_toArray, List.getElem_cons_succ, List.getElem_cons_zero, List.setIfInBounds_toArray, List.set_cons_zero, List.set_cons_succ]
      refine wpLate_take (i := 4) (oi := _) (v := ?_) rfl (by kernel_rfl) (by kernel_rfl) (by kernel_rfl) (by kernel_rfl) (fun _ _ _ h => h) (Gives.load (by rfl) ?_) hHeld ?_
      rotate_left
      · intro w hSw
        (try dsimp only at hSw)
        go_simp
        try with_reducible rfl
      try simp only [Act.put, List.getElem_toArray, List.getElem_cons_succ, List.getElem_cons_zero, List.setIfInBounds_toArray, List.set_cons_zero, List.set_cons_succ]
      refine wpLate_ready (rs := [2]) (by kernel_rfl) (by simp) ?_
      refine AllLate.cons (o := _) rfl (fun K hK => ?_) ?_
      · go_simp
        refine hK.out _ _ (fun _ => ⟨(blk7_facts bo0).1, (blk7_facts box).1⟩) (fun hHeld => ?_)
        replace hHeld := hHeld (by kernel_rfl)
        clear hK K
        try simp only [Act.put, List.getElem_toArray, List.getElem_cons_succ, List.getElem_cons_zero, List.setIfInBounds_toArray, List.set_cons_zero, List.set_cons_succ]
        refine wpLate_ready (rs := [3]) (by kernel_rfl) (by simp) ?_
        refine AllLate.cons (o := _) rfl (fun K hK => ?_) ?_
        · refine step_append_lies _ (by rfl) (.tmp 49) (.tmp 51) 51 (by rfl) z.heap.size 42 i0 _ 7 88 Try.underlying51 hi hz0 hz1 hz2 (by rfl) (by decide) _ N ((RR.eraseIdx k).flatMap (fun p : Ms × List Pr => msC p.1)) (by rfl) hoa.out ⟨yd.heap.size, 0, none⟩ 1 1 (msC ⟨fr, at_, qs, rt, A, n, c, tp, py⟩) (by rfl) (by rfl) hnews.out (msC_one _) (by decide) (by unfold maxLen; omega) (by omega) (by simp; omega) (yd.heap.size + 1) (by simp) ?_
          intro g cap y7 own7 hg7 hat hlt7
          have hne7 : ∀ b, b < z.heap.size → (Value.slice A6 N cp6).ownBlock ≠ some b := fun b hb e => by have := hlow.out b e; omega
          have bz0 := grown_blk hg7 bo0 (hne7 _ (by omega))
          have bz1 := grown_blk hg7 bo1 (hne7 _ (by omega))
          have bzx := grown_blk hg7 box (hne7 _ (by omega))
          have f7 := fo.grown hg7 (fun b hb => Or.inl (by have := hlow.out b hb; omega))
          have own7' : y7.ownsRow z.heap.size 42 7 (.slice (some ⟨g, 0, none⟩) (RR.eraseIdx k ++ [((⟨fr, at_, qs, rt, A, n, c, tp, py⟩ : Ms), ps)]).length cap) (RR.eraseIdx k ++ [((⟨fr, at_, qs, rt, A, n, c, tp, py⟩ : Ms), ps)]).length ((RR.eraseIdx k ++ [((⟨fr, at_, qs, rt, A, n, c, tp, py⟩ : Ms), ps)]).flatMap (fun p : Ms × List Pr => msC p.1)) := by
            rw [List.flatMap_append, List.length_append, HEL.out]; simpa using own7
          have hel7 : N + 1 = (RR.eraseIdx k ++ [((⟨fr, at_, qs, rt, A, n, c, tp, py⟩ : Ms), ps)]).length := by rw [List.length_append, HEL.out]; rfl
          have HE7 := Lib.hid hel7
          clear hel7 own7 hg7 hat
          refine hK.out _ _ (fun _ => ⟨(blk7_facts bz0).1, (blk7_facts bzx).1⟩) (fun hHeld => ?_)
          replace hHeld := hHeld (by kernel_rfl)
          clear hK K
          try simp only [Act.put, List.getElem_toArray, List.getElem_cons_succ, List.getElem_cons_zero, List.setIfInBounds_toArray, List.set_cons_zero, List.set_cons_succ]
          refine wpLate_pure (i := 5) (oi := _) (v := ?_) rfl (by kernel_rfl) (by kernel_rfl) (by kernel_rfl) (by kernel_rfl) (fun _ _ _ h => h) (Gives.load (by rfl) ?_) (fun _ => hHeld) ?_
          rotate_left
          · intro w hSw
            clear hSw
            go_simp
            try with_reducible rfl
          try simp only [Act.put, List.getElem_toArray, List.getElem_cons_succ, List.getElem_cons_zero, List.setIfInBounds_toArray, List.set_cons_zero, List.set_cons_succ]
          obtain ⟨⟨d0, d1, d2, d3, d4, d5, d6⟩, ⟨k0, k1, k2, k3, k4, k5', k6⟩, _⟩ := blk7_facts bz1
          have HZ := Lib.hid (blk7_set bz1 (.string ⟨fr'.toArray⟩) (.int .i64 at') (.int .u8 qs') (.bool rt') (.slice A' n' c') (.string ⟨tp'.toArray⟩) (.string ⟨py'.toArray⟩))
          have FZ := Lib.hid (fr7_set f7 (b := w.heap.size + 1) (by omega) (.string ⟨fr'.toArray⟩) (.int .i64 at') (.int .u8 qs') (.bool rt') (.slice A' n' c') (.string ⟨tp'.toArray⟩) (.string ⟨py'.toArray⟩))
          have hgz : z.heap.size ≤ g := (own7'.lt g rfl).1
          have OZ := Lib.hid (own_set7 own7' (b := w.heap.size + 1) (by intro e; simp [Value.ownBlock] at e; omega) (.string ⟨fr'.toArray⟩) (.int .i64 at') (.int .u8 qs') (.bool rt') (.slice A' n' c') (.string ⟨tp'.toArray⟩) (.string ⟨py'.toArray⟩))
          clear bz0 bz1 bzx f7 own7'
          refine wpLate_ready (rs := [6]) (by kernel_rfl) (by simp) ?_
          refine AllLate.cons (o := _) rfl (fun K hK => ?_) ?_
          · go_simp
            refine hK.out _ _ (fun h => absurd h (by decide)) (fun _ => ?_)
            clear hK K
            try simp only [Act.put, List.getElem_toArray, List.getElem_cons_succ, List.getElem_cons_zero, List.setIfInBounds_toArray, List.set_cons_zero, List.set_cons_succ]
            refine wpLate_pure (i := 7) (oi := _) (v := ?_) rfl (by kernel_rfl) (by kernel_rfl) (by kernel_rfl) (by kernel_rfl) (fun _ _ _ h => h) (Gives.load (by rfl) ?_) (fun h => absurd h (by decide)) ?_
            rotate_left
            · intro w hSw
              clear hSw
              go_simp
              try with_reducible rfl
            try simp only [Act.put, List.getElem_toArray, List.getElem_cons_succ, List.getElem_cons_zero, List.setIfInBounds_toArray, List.set_cons_zero, List.set_cons_succ]
            refine wpLate_done (by kernel_rfl) ?_ _
            go_wp2_with fail
            rw [HE7.out]
            change bodyPost _ _ _ _ _ (set7 y7 (w.heap.size + 1) (.string ⟨fr'.toArray⟩) (.int .i64 at') (.int .u8 qs') (.bool rt') (.slice A' n' c') (.string ⟨tp'.toArray⟩) (.string ⟨py'.toArray⟩))
            generalize set7 y7 (w.heap.size + 1) (.string ⟨fr'.toArray⟩) (.int .i64 at') (.int .u8 qs') (.bool rt') (.slice A' n' c') (.string ⟨tp'.toArray⟩) (.string ⟨py'.toArray⟩) = W5 at *
            clear d0 d1 d2 d3 d4 d5 d6 k0 k1 k2 k3 k4 k5' k6
            obtain ⟨e0, e1, e2, e3, e4, e5, e6⟩ := (blk7_facts HZ.out).1
            refine bodyPost_ret (v := .tuple #[.slice (some ⟨g, 0, none⟩) (RR.eraseIdx k ++ [((⟨fr, at_, qs, rt, A, n, c, tp, py⟩ : Ms), ps)]).length cap, .agg #[.string ⟨fr'.toArray⟩, .int .i64 at', .int .u8 qs', .bool rt', .slice A' n' c', .string ⟨tp'.toArray⟩, .string ⟨py'.toArray⟩], .bool true]) (by simp [results, Try.results26, go_sem, e0, e1, e2, e3, e4, e5, e6]) rfl ?_
            exact ⟨_, by rw [HG.out]; rfl, by rw [HG.out]; exact RView.own OZ.out, FZ.out⟩
          exact AllLate.nil
        exact AllLate.nil
      exact AllLate.nil
end Go.Proofs.Ytnplinohoflabaa
