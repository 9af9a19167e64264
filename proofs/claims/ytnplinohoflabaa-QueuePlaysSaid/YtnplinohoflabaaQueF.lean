/- What Push of package queue comes to where one goes for another. Conditions: sizes that may be. -/
import Derived.Test.YtnplinohoflabaaQueE
import Derived.Deep.DeepCutAuto
namespace Go.Proofs.Ytnplinohoflabaa
open Go.RowKit
set_option linter.unusedVariables false
set_option linter.unusedSimpArgs false
attribute [local go_sem ↓] Go.wp_at_zero Go.wp_at_succ

set_option maxHeartbeats 4000000 in
set_option maxRecDepth 100000 in
theorem qpush_swap (base q : Nat) (v : Value) (L : List Ms) (most : Nat) (x : Ms) (w : World) (h : QAt w base q v L most) (hb : base ≤ w.heap.size) (hl : L.length < 1000000) (hm : most ≤ 9223372036854775807) (hr : ¬ L.length < most) (i : Nat) (hf : L.findIdx? ltMs = some i) (hx0 : ltMs x = false) :
    Calls Try.prog 17 #[.pointer (some ⟨q, 0, none⟩), .agg (msC x).toArray] w (PushTo base q v L most x w) := by
  obtain ⟨i0, hi0', hz0, hz1, hz2⟩ := info_parts Try.infoMs
  have hiL : i < L.length := (List.findIdx?_eq_some_iff_getElem.1 hf).1
  have HI : Hid (lightI L = (i : Int)) := Lib.hid (by unfold ltMs at hf; rw [lightI, hf])
  have hi0 : (0 : Int) ≤ (i : Int) := by omega
  have hdi : decide ((i : Int) < 0) = false := by simp
  have HG0 : Hid (pushG ltMs L x most = (L.eraseIdx i ++ [x], L[i]?)) := Lib.hid (by rw [pushG, if_neg hr, hf]; dsimp only; rw [if_neg (by simp [hx0])])
  obtain ⟨hq, ho⟩ := h
  have HX : Hid ((L.eraseIdx i ++ [x]).flatMap msC = (L.eraseIdx i).flatMap msC ++ msC x) := Lib.hid (by simp)
  have HLe : Hid ((L.eraseIdx i ++ [x]).length = L.length - 1 + 1) := Lib.hid (by rw [List.length_append, List.length_eraseIdx_of_lt hiL]; rfl)
  obtain ⟨r, c, cur, rfl, hbr, hrw, hrr, -, -, -, -, hcell⟩ := own_cells ho msC_len (by decide) (by omega)
  have hgi : L[i]? = some L[i] := List.getElem?_eq_getElem hiL
  generalize L[i] = x' at *
  obtain ⟨fr', at', qs', rt', pA', pn', pc', tp', py'⟩ := x'
  clear hcell hrr
  have HG : Hid (pushG ltMs L x most = (L.eraseIdx i ++ [x], some (⟨fr', at', qs', rt', pA', pn', pc', tp', py'⟩ : Ms))) := Lib.hid (by rw [HG0.out, hgi])
  have HGI := Lib.hid hgi
  clear HG0 hgi
  have hd : decide (L.length < most) = false := by simp; omega
  obtain ⟨fr, at_, qs, rt, pA, pn, pc, tp, py⟩ := x
  unfold msC
  have hq1 := blk_old (blk_old hq (.cells (msC ⟨fr, at_, qs, rt, pA, pn, pc, tp, py⟩).toArray 29)) (.cells (msC ms0).toArray 29)
  have hb0 := blk_old (blk_new w (.cells (msC ⟨fr, at_, qs, rt, pA, pn, pc, tp, py⟩).toArray 29)) (.cells (msC ms0).toArray 29)
  have hb1 := blk_at1 w (.cells (msC ⟨fr, at_, qs, rt, pA, pn, pc, tp, py⟩).toArray 29) (.cells (msC ms0).toArray 29)
  have F0 : Fr (q :: (Value.slice (some ⟨r, 0, none⟩) L.length c).ownBlock.toList) w ((w.alloc (.cells (msC ⟨fr, at_, qs, rt, pA, pn, pc, tp, py⟩).toArray 29)).alloc (.cells (msC ms0).toArray 29)) := ((Fr.refl _ _).alloc _).alloc _
  have ho1 := (ho.alloc (.cells (msC ⟨fr, at_, qs, rt, pA, pn, pc, tp, py⟩).toArray 29)).alloc (.cells (msC ms0).toArray 29)
  have hqw := blk_lt hq
  simp only [msC, ms0] at hq1 hb0 hb1 F0 ho1
  obtain ⟨c0, c1, z0, z1, _⟩ := blk2_facts hq1
  have HLT := Lib.hid (fun k hk => (ho.lt k hk).2)
  clear hr hq ho hf
  have hx1 : (qs == 0) = false := hx0
  clear hx0
  go_enter Try.func17, Try.ntmps17
  go_wp2
  obtain ⟨y, hy⟩ : ∃ y, (w.alloc (.cells #[.string ⟨fr.toArray⟩, .int .i64 at_, .int .u8 qs, .bool rt, .slice pA pn pc, .string ⟨tp.toArray⟩, .string ⟨py.toArray⟩] 29)).alloc (.cells #[.string ⟨#[]⟩, .int .i64 0, .int .u8 0, .bool false, .slice none 0 0, .string ⟨#[]⟩, .string ⟨#[]⟩] 29) = y := ⟨_, rfl⟩
  have hys : y.heap.size = w.heap.size + 2 := by rw [← hy]; simp
  rw [hy] at hq1 hb0 hb1 F0 ho1 c0 c1 z0 z1 ⊢
  clear hy
  go_quiet (fail)
  have G1 : Fr [] y (y.drewN nq) := (Fr.refl _ _).drewN nq
  obtain ⟨z, hz⟩ : ∃ z, y.drewN nq = z := ⟨_, rfl⟩
  rw [hz] at G1 ⊢
  have G1s : z.heap.size = w.heap.size + 2 := by rw [← hz]; exact hys
  clear hz c0 c1 z0 z1
  replace hq1 := G1.blk hq1 (by simp)
  replace hb0 := G1.blk hb0 (by simp)
  replace hb1 := Lib.hid (G1.blk hb1 (by simp))
  replace ho1 := own_fr G1 ho1 (by simp)
  replace F0 := Lib.hid (F0.trans G1 (by simp))
  obtain ⟨c0, c1, z0, z1, _⟩ := blk2_facts hq1
  obtain ⟨⟨e0, e1, e2, e3, e4, e5, e6⟩, _, _⟩ := blk7_facts hb0
  have HQ := Lib.hid hq1
  have HO := Lib.hid ho1
  have HM := Lib.hid (own_ne ho1 hq1 (by decide))
  have HB0 := Lib.hid hb0
  have hqz : q < w.heap.size + 2 := by omega
  clear hb0 ho1 hq1 G1
  go_wp2_with fail
  refine (qlight_any base q _ L most _ ⟨HQ.out, HO.out⟩ (by omega)).mono ?_
  rintro _ w1 ⟨rfl, g1⟩
  rw [HI.out]
  replace HQ := Lib.hid (g1.blk HQ.out (by simp))
  replace HO := Lib.hid (own_fr g1 HO.out (by simp))
  replace HB0 := Lib.hid (g1.blk HB0.out (by simp))
  replace hb1 := Lib.hid (g1.blk hb1.out (by simp))
  replace F0 := Lib.hid (F0.out.trans g1 (by simp))
  have hs1 := g1.size
  have hil : (i : Int) < (L.length : Int) := by omega
  have hcw : ∀ j u, (msC ⟨fr', at', qs', rt', pA', pn', pc', tp', py'⟩)[j]? = some u → w1.cell? ⟨r, i * 7 + j, none⟩ = some u := fun j u hj => by
    obtain ⟨r', _, _, he, _, _, _, _, _, _, _, hcell⟩ := own_cells HO.out msC_len (by decide) (by omega)
    cases he
    have e := (List.getElem?_eq_some_iff.1 HGI.out).2
    exact hcell i hiL j u (by rw [e]; exact hj)
  have d0 : w1.cell? ⟨r, i * 7, none⟩ = some (.string ⟨fr'.toArray⟩) := hcw 0 _ rfl
  have d1 : w1.cell? ⟨r, i * 7 + 1, none⟩ = some (.int .i64 at') := hcw 1 _ rfl
  have d2 : w1.cell? ⟨r, i * 7 + 2, none⟩ = some (.int .u8 qs') := hcw 2 _ rfl
  have d3 : w1.cell? ⟨r, i * 7 + 3, none⟩ = some (.bool rt') := hcw 3 _ rfl
  have d4 : w1.cell? ⟨r, i * 7 + 4, none⟩ = some (.slice pA' pn' pc') := hcw 4 _ rfl
  have d5 : w1.cell? ⟨r, i * 7 + 5, none⟩ = some (.string ⟨tp'.toArray⟩) := hcw 5 _ rfl
  have d6 : w1.cell? ⟨r, i * 7 + 6, none⟩ = some (.string ⟨py'.toArray⟩) := hcw 6 _ rfl
  clear hcw c0 c1 z0 z1 e0 e1 e2 e3 e4 e5 e6 g1
  obtain ⟨c0, c1, z0, z1, _⟩ := blk2_facts HQ.out
  obtain ⟨⟨e0, e1, e2, e3, e4, e5, e6⟩, _, _⟩ := blk7_facts HB0.out
  have hb2 := Lib.hid (blk_new w1 (.cells #[.string ⟨fr'.toArray⟩, .int .i64 at', .int .u8 qs', .bool rt', .slice pA' pn' pc', .string ⟨tp'.toArray⟩, .string ⟨py'.toArray⟩] 29))
  replace HQ := Lib.hid (blk_old HQ.out (.cells #[.string ⟨fr'.toArray⟩, .int .i64 at', .int .u8 qs', .bool rt', .slice pA' pn' pc', .string ⟨tp'.toArray⟩, .string ⟨py'.toArray⟩] 29))
  replace HO := Lib.hid (HO.out.alloc (.cells #[.string ⟨fr'.toArray⟩, .int .i64 at', .int .u8 qs', .bool rt', .slice pA' pn' pc', .string ⟨tp'.toArray⟩, .string ⟨py'.toArray⟩] 29))
  replace HB0 := Lib.hid (blk_old HB0.out (.cells #[.string ⟨fr'.toArray⟩, .int .i64 at', .int .u8 qs', .bool rt', .slice pA' pn' pc', .string ⟨tp'.toArray⟩, .string ⟨py'.toArray⟩] 29))
  replace hb1 := Lib.hid (blk_old hb1.out (.cells #[.string ⟨fr'.toArray⟩, .int .i64 at', .int .u8 qs', .bool rt', .slice pA' pn' pc', .string ⟨tp'.toArray⟩, .string ⟨py'.toArray⟩] 29))
  replace F0 := Lib.hid (F0.out.alloc (.cells #[.string ⟨fr'.toArray⟩, .int .i64 at', .int .u8 qs', .bool rt', .slice pA' pn' pc', .string ⟨tp'.toArray⟩, .string ⟨py'.toArray⟩] 29))
  go_wp2
  obtain ⟨z, hz⟩ : ∃ z, w1.alloc (.cells #[.string ⟨fr'.toArray⟩, .int .i64 at', .int .u8 qs', .bool rt', .slice pA' pn' pc', .string ⟨tp'.toArray⟩, .string ⟨py'.toArray⟩] 29) = z := ⟨_, rfl⟩
  have hzs : z.heap.size = w1.heap.size + 1 := by rw [← hz]; simp
  have hrz : r < w.heap.size := HLT.out r rfl
  have hqr : q ≠ r := by have := HM.out; simpa [Value.ownBlock, eq_comm] using this
  rw [hz] at HQ HO HB0 hb1 hb2 F0 ⊢
  clear hz c0 c1 z0 z1 e0 e1 e2 e3 e4 e5 e6 d0 d1 d2 d3 d4 d5 d6
  obtain ⟨c0, c1, z0, z1, hqz⟩ := blk2_facts HQ.out
  obtain ⟨⟨e0, e1, e2, e3, e4, e5, e6⟩, _, hez⟩ := blk7_facts HB0.out
  have hwr : IntKind.i64.wrap ((i : Int) + 1) = (i : Int) + 1 := by rw [IntKind.wrap_i64]; omega
  have HBz := blk_lt hb1.out
  go_cut [] (fun wx => ∃ g cap, wx.heap[q]? = some (.cells #[.slice (some ⟨g, 0, none⟩) (L.length - 1 + 1) cap, .int .i64 (most : Int)] 100 (0, 0)) ∧ wx.heap[w.heap.size + 1]? = some (.cells #[.string ⟨#[]⟩, .int .i64 0, .int .u8 0, .bool false, .slice none 0 0, .string ⟨#[]⟩, .string ⟨#[]⟩] 29 (0, 0)) ∧ wx.heap[w1.heap.size]? = some (.cells #[.string ⟨fr'.toArray⟩, .int .i64 at', .int .u8 qs', .bool rt', .slice pA' pn' pc', .string ⟨tp'.toArray⟩, .string ⟨py'.toArray⟩] 29 (0, 0)) ∧ wx.ownsRow base 29 7 (.slice (some ⟨g, 0, none⟩) (L.length - 1 + 1) cap) (L.length - 1 + 1) ((L.eraseIdx i).flatMap msC ++ msC ⟨fr, at_, qs, rt, pA, pn, pc, tp, py⟩) ∧ Fr (q :: (Value.slice (some ⟨r, 0, none⟩) L.length c).ownBlock.toList) w wx ∧ w.heap.size + 1 ≠ g)
  case first =>
    go_region_law (first | (refine step_append_lies _ (by rfl) (.tmp 54) (.tmp 56) 22 (by rfl) base 29 i0 _ 7 88 Try.underlying22 hi0' hz0 hz1 hz2 (by rfl) (by decide) _ (L.length - 1) ((L.eraseIdx i).flatMap msC) (by simp [Act.eval, Act.put]) (own2.alloc _) ⟨y2.heap.size, 0, none⟩ 1 1 (msC ⟨fr, at_, qs, rt, pA, pn, pc, tp, py⟩) (by simp [Act.eval, Act.put]) (by rfl) (news_at y2 _ rfl (msC ⟨fr, at_, qs, rt, pA, pn, pc, tp, py⟩) _) (msC_one _) (by decide) (by unfold maxLen; omega) (by omega) (by have := F2.out.size; simp at *; omega) (y2.heap.size + 1) (by simp) ?_; intro g cap y3 own3 hg3 hat hlt; have hq3 := grown_blk hg3 (blk_old HQ2.out _) (by simp [Value.ownBlock]; omega); have hb3 := grown_blk hg3 (blk_old HB12.out _) (by simp [Value.ownBlock]; omega); have hc3 := grown_blk hg3 (blk_old HB22.out _) (by simp [Value.ownBlock]; omega); have F3 := (FF2.out.alloc _).grown hg3 (fun k hk => Or.inr (by simp [Value.ownBlock] at hk ⊢; omega)); obtain ⟨c0', c1', z0', z1', _⟩ := blk2_facts hq3) | (refine step_append_lies _ (by rfl) (.tmp 54) (.tmp 56) 22 (by rfl) base 29 i0 _ 7 88 Try.underlying22 hi0' hz0 hz1 hz2 (by rfl) (by decide) _ (L.length - 1) ((L.eraseIdx i).flatMap msC) (by simp [Act.eval, Act.put]) (own2) ⟨z.heap.size, 0, none⟩ 1 1 (msC ⟨fr, at_, qs, rt, pA, pn, pc, tp, py⟩) (by simp [Act.eval, Act.put]) (by rfl) (fun j u hj => F2.out.cell (news_at z.drew _ rfl (msC ⟨fr, at_, qs, rt, pA, pn, pc, tp, py⟩) 29 j u hj) (by rw [add_plain0]; simp; omega)) (msC_one _) (by decide) (by unfold maxLen; omega) (by omega) (by have := F2.out.size; simp at *; omega) (y2.heap.size) (by rfl) ?_; intro g cap y3 own3 hg3 hat hlt; have hq3 := grown_blk hg3 (HQ2.out) (by simp [Value.ownBlock]; omega); have hb3 := grown_blk hg3 (HB12.out) (by simp [Value.ownBlock]; omega); have hc3 := grown_blk hg3 (HB22.out) (by simp [Value.ownBlock]; omega); have F3 := (FF2.out).grown hg3 (fun k hk => Or.inr (by simp [Value.ownBlock] at hk ⊢; omega)); obtain ⟨c0', c1', z0', z1', _⟩ := blk2_facts hq3) | (go_simp; go_at_call 47; (first | (with_reducible refine (qdelete_any base _ L i z.drew (World.ownsRow.drew HO.out) hiL (by omega)).mono ?_) | (with_reducible refine (qdelete_any base _ L i (World.drew (z.alloc _)) (World.ownsRow.drew (World.ownsRow.alloc HO.out _)) hiL (by omega)).mono ?_)); rintro _ y2 ⟨g, c2, hv, rfl, own2, hf2⟩; cases hv; have F2 := Lib.hid hf2; obtain ⟨e0, e1, e2, e3, e4, e5, e6⟩ := (blk7_facts ((F2.out).blk (by first | exact HB0.out | exact blk_old (w := z.drew) HB0.out _) (by simp; omega))).1; have HQ2 := Lib.hid ((F2.out).blk (by first | exact HQ.out | exact blk_old (w := z.drew) HQ.out _) (by simp; exact hqr)); have HB12 := Lib.hid ((F2.out).blk (by first | exact hb1.out | exact blk_old (w := z.drew) hb1.out _) (by simp; omega)); have HB22 := Lib.hid ((F2.out).blk (by first | exact hb2.out | exact blk_old (w := z.drew) hb2.out _) (by simp; omega)); have FF2 : Hid (Fr (q :: (Value.slice (some ⟨r, 0, none⟩) L.length c).ownBlock.toList) w y2) := Lib.hid (by first | exact (F0.out.drew).trans F2.out (fun x _ hx => by simp [Value.ownBlock] at hx ⊢; omega) | exact ((F0.out.drew).alloc _).trans F2.out (fun x _ hx => by simp [Value.ownBlock] at hx ⊢; omega)); obtain ⟨c0, c1, z0, z1, hqz2⟩ := blk2_facts HQ2.out; go_wp2_with fail))
    all_goals go_wp2_with fail
    all_goals go_meet
    all_goals
      have hqg : q ≠ g := by
        rcases hat with hat | hat
        · simp [Value.ownBlock] at hat; omega
        · omega
      have hgB : w.heap.size + 1 ≠ g := by
        rcases hat with hat | hat
        · simp [Value.ownBlock] at hat; omega
        · have := blk_lt HB12.out; omega
      have hb4 := blk_far hb3 (p := ⟨q, 0, none⟩) (by simp; omega) (.slice (some ⟨g, 0, none⟩) (L.length - 1 + 1) cap)
      have hc4 := blk_far hc3 (p := ⟨q, 0, none⟩) (by simp; omega) (.slice (some ⟨g, 0, none⟩) (L.length - 1 + 1) cap)
      have hq4 := blk_set hq3 0 (.slice (some ⟨g, 0, none⟩) (L.length - 1 + 1) cap)
      have own4 := own_set own3 (p := ⟨q, 0, none⟩) (by simp [Value.ownBlock]; exact hqg) (.slice (some ⟨g, 0, none⟩) (L.length - 1 + 1) cap)
      have F4 := F3.setCell (p := ⟨q, 0, none⟩) (Or.inr (by simp)) (.slice (some ⟨g, 0, none⟩) (L.length - 1 + 1) cap)
      exact ⟨g, cap, hq4, hb4, hc4, own4, F4, hgB⟩
  case rest =>
    obtain ⟨g, cap, hq4, hb4, hc4, own4, F4, hgB⟩ := hcut
    clear c0 c1 z0 z1 e0 e1 e2 e3 e4 e5 e6
    obtain ⟨⟨e0, e1, e2, e3, e4, e5, e6⟩, _, _⟩ := blk7_facts hc4
    obtain ⟨⟨d0, d1, d2, d3, d4, d5, d6⟩, ⟨k0, k1, k2, k3, k4, k5, k6⟩, _⟩ := blk7_facts hb4
    have HZ := Lib.hid (blk7_set hb4 (.string ⟨fr'.toArray⟩) (.int .i64 at') (.int .u8 qs') (.bool rt') (.slice pA' pn' pc') (.string ⟨tp'.toArray⟩) (.string ⟨py'.toArray⟩))
    have HF := Lib.hid (fr7_set F4 (b := w.heap.size + 1) (by omega) (.string ⟨fr'.toArray⟩) (.int .i64 at') (.int .u8 qs') (.bool rt') (.slice pA' pn' pc') (.string ⟨tp'.toArray⟩) (.string ⟨py'.toArray⟩))
    have HQ3 := Lib.hid ((set7_fr wc (w.heap.size + 1) (.string ⟨fr'.toArray⟩) (.int .i64 at') (.int .u8 qs') (.bool rt') (.slice pA' pn' pc') (.string ⟨tp'.toArray⟩) (.string ⟨py'.toArray⟩)).blk hq4 (by simp; omega))
    have HO3 := Lib.hid (own_set7 own4 (b := w.heap.size + 1) (by simp [Value.ownBlock]; exact hgB) (.string ⟨fr'.toArray⟩) (.int .i64 at') (.int .u8 qs') (.bool rt') (.slice pA' pn' pc') (.string ⟨tp'.toArray⟩) (.string ⟨py'.toArray⟩))
    clear hb4 hc4 hq4 own4 F4
    go_wp2
    change bodyPost _ _ _ _ _ (set7 wc (w.heap.size + 1) (.string ⟨fr'.toArray⟩) (.int .i64 at') (.int .u8 qs') (.bool rt') (.slice pA' pn' pc') (.string ⟨tp'.toArray⟩) (.string ⟨py'.toArray⟩))
    generalize set7 wc (w.heap.size + 1) (.string ⟨fr'.toArray⟩) (.int .i64 at') (.int .u8 qs') (.bool rt') (.slice pA' pn' pc') (.string ⟨tp'.toArray⟩) (.string ⟨py'.toArray⟩) = W5 at *
    clear e0 e1 e2 e3 e4 e5 e6 k0 k1 k2 k3 k4 k5 k6 d0 d1 d2 d3 d4 d5 d6
    obtain ⟨e0, e1, e2, e3, e4, e5, e6⟩ := (blk7_facts HZ.out).1
    refine bodyPost_ret (v := .tuple #[.agg #[.string ⟨fr'.toArray⟩, .int .i64 at', .int .u8 qs', .bool rt', .slice pA' pn' pc', .string ⟨tp'.toArray⟩, .string ⟨py'.toArray⟩], .bool true]) (by simp [results, Try.results17, go_sem, e0, e1, e2, e3, e4, e5, e6]) rfl ?_
    refine ⟨.slice (some ⟨g, 0, none⟩) (L.length - 1 + 1) cap, by rw [HG.out]; rfl, ⟨HQ3.out, ?_⟩, HF.out⟩
    rw [HG.out]
    dsimp only
    rw [HX.out, HLe.out]
    exact HO3.out
end Go.Proofs.Ytnplinohoflabaa
