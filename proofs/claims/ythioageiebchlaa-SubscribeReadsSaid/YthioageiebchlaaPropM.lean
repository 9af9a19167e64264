/- What take of the reference of layer 3 comes to, for the kinds 4 to 7. Conditions: strings that may be. -/
import Derived.Test.YthioageiebchlaaPropK1
import Derived.Test.YthioageiebchlaaPropK2
import Derived.Test.YthioageiebchlaaPropK3
import Derived.Test.YthioageiebchlaaPropF
namespace Go.Proofs.Ythioageiebchlaa
open Go.RowKit
set_option linter.unusedSimpArgs false
set_option linter.unusedVariables false
set_option maxRecDepth 100000 in
set_option maxHeartbeats 4000000 in
theorem rtake4_pany (q : Rd) (id : Int) (w : World) (hk : (ruleOf id).kind = 4) (hs : q.s.length ≤ 9223372036854775807) :
    Calls Try.prog 95 #[.agg #[.string ⟨q.s.toArray⟩, .int .i64 q.e], .int .i64 id] w (RTakeTo (valR (ruleOf id) id q) w) := by
  have hc := Lib.hid (blk_old (blk_old (blk_old (blk_new w (.cells #[.string ⟨q.s.toArray⟩, .int .i64 q.e] 99)) (.cells #[.string ⟨#[]⟩, .int .i64 0] 99)) (.cells #[.int .i64 0, .int .u32 0, .string ⟨#[]⟩, .string ⟨#[]⟩] 121)) (.cells #[.int .i64 id, .int .u32 0, .string ⟨#[]⟩, .string ⟨#[]⟩] 121))
  have hr := Lib.hid (show ((((w.alloc (.cells #[.string ⟨q.s.toArray⟩, .int .i64 q.e] 99)).alloc (.cells #[.string ⟨#[]⟩, .int .i64 0] 99)).alloc (.cells #[.int .i64 0, .int .u32 0, .string ⟨#[]⟩, .string ⟨#[]⟩] 121)).alloc (.cells #[.int .i64 id, .int .u32 0, .string ⟨#[]⟩, .string ⟨#[]⟩] 121)).heap[w.heap.size + 1]? = some (.cells #[.string ⟨#[]⟩, .int .i64 0] 99 (0, 0)) from blk_old (blk_old (blk_atH _ _ _ (by simp)) _) _)
  have hs2 := Lib.hid (show ((((w.alloc (.cells #[.string ⟨q.s.toArray⟩, .int .i64 q.e] 99)).alloc (.cells #[.string ⟨#[]⟩, .int .i64 0] 99)).alloc (.cells #[.int .i64 0, .int .u32 0, .string ⟨#[]⟩, .string ⟨#[]⟩] 121)).alloc (.cells #[.int .i64 id, .int .u32 0, .string ⟨#[]⟩, .string ⟨#[]⟩] 121)).heap[w.heap.size + 2]? = some (.cells #[.int .i64 0, .int .u32 0, .string ⟨#[]⟩, .string ⟨#[]⟩] 121 (0, 0)) from blk_old (blk_atH _ _ _ (by simp)) _)
  have hp := Lib.hid (show ((((w.alloc (.cells #[.string ⟨q.s.toArray⟩, .int .i64 q.e] 99)).alloc (.cells #[.string ⟨#[]⟩, .int .i64 0] 99)).alloc (.cells #[.int .i64 0, .int .u32 0, .string ⟨#[]⟩, .string ⟨#[]⟩] 121)).alloc (.cells #[.int .i64 id, .int .u32 0, .string ⟨#[]⟩, .string ⟨#[]⟩] 121)).heap[w.heap.size + 3]? = some (.cells #[.int .i64 id, .int .u32 0, .string ⟨#[]⟩, .string ⟨#[]⟩] 121 (0, 0)) from blk_atH _ _ _ (by simp))
  have hf := Lib.hid (show Fr [] w ((((w.alloc (.cells #[.string ⟨q.s.toArray⟩, .int .i64 q.e] 99)).alloc (.cells #[.string ⟨#[]⟩, .int .i64 0] 99)).alloc (.cells #[.int .i64 0, .int .u32 0, .string ⟨#[]⟩, .string ⟨#[]⟩] 121)).alloc (.cells #[.int .i64 id, .int .u32 0, .string ⟨#[]⟩, .string ⟨#[]⟩] 121)) from ((((Fr.refl [] w).alloc _).alloc _).alloc _).alloc _)
  have Hk := Lib.hid hk
  clear hk
  obtain ⟨⟨n, q1⟩, hq⟩ : ∃ y, q.var = y := ⟨_, rfl⟩
  have HV0 := Lib.hid (show valR (ruleOf id) id q = (⟨id, n, [], []⟩, chkR (ruleOf id) n q1) from by unfold valR; simp only [Hk.out]; rw [hq]; rfl)
  have hn : n ≤ 268435455 := by have := var_lt q; rw [hq] at this; show n ≤ _; dsimp only at this; omega
  have HS := Lib.hid (says_chk id n (Or.inr (Or.inr (Or.inr ⟨Hk.out, hn⟩))))
  replace hn : n < 4294967296 := by omega
  go_enter Try.func95, Try.ntmps95
  go_wp2_with fail
  refine (rkind_any id _).mono ?_
  rintro _ wa ⟨rfl, hwa⟩
  rw [Hk.out]
  rw [hwa] at hc hr hs2 hp hf
  clear hwa
  obtain ⟨c0, c1, f0, f1, hlc⟩ := blk2_facts hc.out
  go_wp2_with fail
  refine (rtakevar_any q _ hs).mono ?_
  rintro _ x1 ⟨rfl, hx⟩
  rw [hq]
  have hc2 := hx.blk hc.out (by simp)
  have hr2 := hx.blk hr.out (by simp)
  have hs3 := hx.blk hs2.out (by simp)
  have hp2 := hx.blk hp.out (by simp)
  have hf2 := hf.out.trans hx (by simp)
  clear c0 c1 f0 f1 hlc
  obtain ⟨c0, c1, f0, f1, hlc⟩ := blk2_facts hc2
  obtain ⟨⟨p0, p1, p2, p3⟩, ⟨k0, k1, k2, k3⟩, hlp⟩ := blk4_facts hp2
  have gc := Lib.hid (blk_old (blk_far (p := ⟨w.heap.size + 3, 1, none⟩) (blk2_set hc2 (.string ⟨q1.s.toArray⟩) (.int .i64 q1.e)) (by simp) (.int .u32 n)) (.cells #[.string ⟨q1.s.toArray⟩, .int .i64 q1.e] 99))
  have gp := Lib.hid (blk_old (blk_set (blk_far (p := ⟨w.heap.size, 1, none⟩) (blk_far (p := ⟨w.heap.size, 0, none⟩) hp2 (by simp) (.string ⟨q1.s.toArray⟩)) (by simp) (.int .i64 q1.e)) 1 (.int .u32 n)) (.cells #[.string ⟨q1.s.toArray⟩, .int .i64 q1.e] 99))
  have gr := Lib.hid (blk_old (blk_far (p := ⟨w.heap.size + 3, 1, none⟩) (blk_far (p := ⟨w.heap.size, 1, none⟩) (blk_far (p := ⟨w.heap.size, 0, none⟩) hr2 (by simp) (.string ⟨q1.s.toArray⟩)) (by simp) (.int .i64 q1.e)) (by simp) (.int .u32 n)) (.cells #[.string ⟨q1.s.toArray⟩, .int .i64 q1.e] 99))
  have gs := Lib.hid (blk_old (blk_far (p := ⟨w.heap.size + 3, 1, none⟩) (blk_far (p := ⟨w.heap.size, 1, none⟩) (blk_far (p := ⟨w.heap.size, 0, none⟩) hs3 (by simp) (.string ⟨q1.s.toArray⟩)) (by simp) (.int .i64 q1.e)) (by simp) (.int .u32 n)) (.cells #[.string ⟨q1.s.toArray⟩, .int .i64 q1.e] 99))
  have gf := Lib.hid ((((hf2.setCell (p := ⟨w.heap.size, 0, none⟩) (Or.inl (by simp)) (.string ⟨q1.s.toArray⟩)).setCell (p := ⟨w.heap.size, 1, none⟩) (Or.inl (by simp)) (.int .i64 q1.e)).setCell (p := ⟨w.heap.size + 3, 1, none⟩) (Or.inl (by simp)) (.int .u32 n)).alloc (.cells #[.string ⟨q1.s.toArray⟩, .int .i64 q1.e] 99))
  clear hc2 hr2 hs3 hp2 hf2 hx hc hr hs2 hp hf
  go_upto_region 27 with (fail)
  obtain ⟨y, hy⟩ : ∃ y, ((((x1.setCell ⟨w.heap.size, 0, none⟩ (.string ⟨q1.s.toArray⟩)).setCell ⟨w.heap.size, 1, none⟩ (.int .i64 q1.e)).setCell ⟨w.heap.size + 3, 1, none⟩ (.int .u32 n)).alloc (.cells #[.string ⟨q1.s.toArray⟩, .int .i64 q1.e] 99)) = y := ⟨_, rfl⟩
  rw [hy] at gc gp gr gs gf ⊢
  clear hy c0 c1 f0 f1 hlc p0 p1 p2 p3 k0 k1 k2 k3 hlp
  obtain ⟨c0, c1, f0, f1, hlc⟩ := blk2_facts gc.out
  obtain ⟨⟨p0, p1, p2, p3⟩, ⟨k0, k1, k2, k3⟩, hlp⟩ := blk4_facts gp.out
  obtain ⟨r0, r1, z0, z1, hlr⟩ := blk2_facts gr.out
  obtain ⟨⟨s0, s1, s2, s3⟩, ⟨t0, t1, t2, t3⟩, hls⟩ := blk4_facts gs.out
  by_cases he : q1.e = 0
  rotate_left
  · have e1 : (q1.e == 0) = false := by simpa using he
    have HV := Lib.hid (HV0.out.trans (by rw [show chkR (ruleOf id) n q1 = q1 from if_neg (fun h => he h.1)]))
    clear he
    go_wp2
    refine wp_region_held_drew (S := fun w' => w'.cell? ⟨w.heap.size, 0, none⟩ = some (.string ⟨q1.s.toArray⟩) ∧ w'.cell? ⟨w.heap.size, 1, none⟩ = some (.int .i64 q1.e) ∧ w'.cell? ⟨w.heap.size + 3, 0, none⟩ = some (.int .i64 id) ∧ w'.cell? ⟨w.heap.size + 3, 1, none⟩ = some (.int .u32 n) ∧ w'.cell? ⟨w.heap.size + 3, 2, none⟩ = some (.string ⟨#[]⟩) ∧ w'.cell? ⟨w.heap.size + 3, 3, none⟩ = some (.string ⟨#[]⟩)) (by kernel_rfl) ⟨c0, c1, p0, p1, p2, p3⟩ (fun hHeld => ?_)
    refine wpAnyH_take (i := 0) (oi := _) (v := ?_) rfl (by kernel_rfl) (by kernel_rfl) (by kernel_rfl) (fun _ _ _ h => h) (Or.inl ⟨by rfl, ?_⟩) hHeld ?_
    rotate_left
    · intro w hSw
      (try dsimp only at hSw)
      go_simp
      try with_reducible rfl
    try simp only [Act.put, List.getElem_toArray, List.getElem_cons_succ, List.getElem_cons_zero, List.setIfInBounds_toArray, List.set_cons_zero, List.set_cons_succ]
    refine wpAnyH_take (i := 1) (oi := _) (v := ?_) rfl (by kernel_rfl) (by kernel_rfl) (by kernel_rfl) (fun _ _ _ h => h) (Or.inl ⟨by rfl, ?_⟩) hHeld ?_
    rotate_left
    · intro w hSw
      (try dsimp only at hSw)
      go_simp
      try with_reducible rfl
    try simp only [Act.put, List.getElem_toArray, List.getElem_cons_succ, List.getElem_cons_zero, List.setIfInBounds_toArray, List.set_cons_zero, List.set_cons_succ]
    refine wpAnyH_ready (rs := [2]) (by kernel_rfl) (by simp) ?_
    refine AllReadyH.cons (o := _) rfl (fun K hK => ?_) ?_
    · go_simp
      generalize hz1 : ((y.setCell ⟨w.heap.size + 1, 0, none⟩ (.string ⟨q1.s.toArray⟩)).setCell ⟨w.heap.size + 1, 1, none⟩ (.int .i64 q1.e)).drew = y1
      have F1 : Fr [w.heap.size + 1, w.heap.size + 2] y y1 := hz1 ▸ (((Fr.refl _ y).setCell (Or.inr (by simp)) _).setCell (Or.inr (by simp)) _).drew
      have hA1 : y1.heap[w.heap.size + 1]? = some (.cells #[(.string ⟨q1.s.toArray⟩), (.int .i64 q1.e)] 99 (0, 0)) := hz1 ▸ blk2_set gr.out (.string ⟨q1.s.toArray⟩) (.int .i64 q1.e)
      have hB1 : y1.heap[w.heap.size + 1 + 1]? = some (.cells #[.int .i64 0, .int .u32 0, .string ⟨#[]⟩, .string ⟨#[]⟩] 121 (0, 0)) := hz1 ▸ blk_far (blk_far gs.out (by simp) _) (by simp) _
      have hG1 : Fr [] w y1 := hz1 ▸ ((gf.out.setCell (p := ⟨w.heap.size + 1, 0, none⟩) (Or.inl (by simp)) (.string ⟨q1.s.toArray⟩)).setCell (p := ⟨w.heap.size + 1, 1, none⟩) (Or.inl (by simp)) (.int .i64 q1.e)).drew
      refine hK.out _ _ ⟨F1.cell c0 (by simp), F1.cell c1 (by simp), F1.cell p0 (by simp), F1.cell p1 (by simp), F1.cell p2 (by simp), F1.cell p3 (by simp)⟩ (fun hHeld => ?_)
      clear hK K hz1
      try simp only [Act.put, List.getElem_toArray, List.getElem_cons_succ, List.getElem_cons_zero, List.setIfInBounds_toArray, List.set_cons_zero, List.set_cons_succ]
      obtain ⟨⟨v0, v1, v2, v3⟩, ⟨g0, g1, g2, g3⟩, hg⟩ := blk4_facts hB1
      refine wpAnyH_ready (rs := [3]) (by kernel_rfl) (by simp) ?_
      refine AllReadyH.cons (o := _) rfl (fun K hK => ?_) ?_
      · go_simp
        generalize hz2 : (((y1.setCell ⟨w.heap.size + 1 + 1, 0, none⟩ (.int .i64 id)).setCell ⟨w.heap.size + 1 + 1, 1, none⟩ (.int .u32 n)).setCell ⟨w.heap.size + 1 + 1, 2, none⟩ (.string ⟨#[]⟩)).setCell ⟨w.heap.size + 1 + 1, 3, none⟩ (.string ⟨#[]⟩) = y2
        have F2 : Fr [w.heap.size + 1, w.heap.size + 2] y1 y2 := hz2 ▸ ((((Fr.refl _ y1).setCell (Or.inr (by simp)) _).setCell (Or.inr (by simp)) _).setCell (Or.inr (by simp)) _).setCell (Or.inr (by simp)) _
        have hA2 : y2.heap[w.heap.size + 1]? = some (.cells #[(.string ⟨q1.s.toArray⟩), (.int .i64 q1.e)] 99 (0, 0)) := hz2 ▸ blk_far (blk_far (blk_far (blk_far hA1 (by simp) _) (by simp) _) (by simp) _) (by simp) _
        have hB2 : y2.heap[w.heap.size + 1 + 1]? = some (.cells #[(.int .i64 id), (.int .u32 n), (.string ⟨#[]⟩), (.string ⟨#[]⟩)] 121 (0, 0)) := hz2 ▸ blk4_set hB1 (.int .i64 id) (.int .u32 n) (.string ⟨#[]⟩) (.string ⟨#[]⟩)
        have hle2 : w.heap.size ≤ w.heap.size + 1 + 1 := by omega
        have hG2 : Fr [] w y2 := hz2 ▸ (((hG1.setCell (p := ⟨w.heap.size + 1 + 1, 0, none⟩) (Or.inl hle2) (.int .i64 id)).setCell (p := ⟨w.heap.size + 1 + 1, 1, none⟩) (Or.inl hle2) (.int .u32 n)).setCell (p := ⟨w.heap.size + 1 + 1, 2, none⟩) (Or.inl hle2) (.string ⟨#[]⟩)).setCell (p := ⟨w.heap.size + 1 + 1, 3, none⟩) (Or.inl hle2) (.string ⟨#[]⟩)
        have F3 := F1.trans F2 (fun _ _ h => h)
        refine hK.out _ _ ⟨F3.cell c0 (by simp), F3.cell c1 (by simp), F3.cell p0 (by simp), F3.cell p1 (by simp), F3.cell p2 (by simp), F3.cell p3 (by simp)⟩ (fun hHeld => ?_)
        clear hK K hz2
        try simp only [Act.put, List.getElem_toArray, List.getElem_cons_succ, List.getElem_cons_zero, List.setIfInBounds_toArray, List.set_cons_zero, List.set_cons_succ]
        refine wpAnyH_done (by kernel_rfl) ?_ _
        obtain ⟨rr0, rr1, zz0, zz1, hlr2⟩ := blk2_facts hA2
        obtain ⟨⟨ss0, ss1, ss2, ss3⟩, ⟨tt0, tt1, tt2, tt3⟩, hls2⟩ := blk4_facts hB2
        go_wp2
        refine bodyPost_ret (v := .tuple #[.agg #[(.string ⟨q1.s.toArray⟩), (.int .i64 q1.e)], .agg #[(.int .i64 id), (.int .u32 n), (.string ⟨#[]⟩), (.string ⟨#[]⟩)]]) (by simp [results, Try.results95, go_sem, rr0, rr1, ss0, ss1, ss2, ss3]) rfl ?_
        rw [HV.out]
        exact ⟨(Pr.mk id n [] []), rfl, (fun _ => rfl), hn, hG2⟩
      exact AllReadyH.nil
    exact AllReadyH.nil
  have e1 : (q1.e == 0) = true := by simpa using he
  go_wp2_with fail
  refine (rkind_any id _).mono ?_
  rintro _ _ ⟨rfl, rfl⟩
  rw [Hk.out]
  go_wp2_with fail
  refine (says_any id n _ hn).mono ?_
  rintro _ _ ⟨rfl, rfl⟩
  cases hso : sayOk id n
  rotate_left
  · have HV := Lib.hid (HV0.out.trans (by rw [show chkR (ruleOf id) n q1 = q1 from if_neg (fun h => (HS.out.1 hso) h.2)]))
    clear he hso
    go_wp2
    refine wp_region_held_drew (S := fun w' => w'.cell? ⟨w.heap.size, 0, none⟩ = some (.string ⟨q1.s.toArray⟩) ∧ w'.cell? ⟨w.heap.size, 1, none⟩ = some (.int .i64 q1.e) ∧ w'.cell? ⟨w.heap.size + 3, 0, none⟩ = some (.int .i64 id) ∧ w'.cell? ⟨w.heap.size + 3, 1, none⟩ = some (.int .u32 n) ∧ w'.cell? ⟨w.heap.size + 3, 2, none⟩ = some (.string ⟨#[]⟩) ∧ w'.cell? ⟨w.heap.size + 3, 3, none⟩ = some (.string ⟨#[]⟩)) (by kernel_rfl) ⟨c0, c1, p0, p1, p2, p3⟩ (fun hHeld => ?_)
    refine wpAnyH_take (i := 0) (oi := _) (v := ?_) rfl (by kernel_rfl) (by kernel_rfl) (by kernel_rfl) (fun _ _ _ h => h) (Or.inl ⟨by rfl, ?_⟩) hHeld ?_
    rotate_left
    · intro w hSw
      (try dsimp only at hSw)
      go_simp
      try with_reducible rfl
    try simp only [Act.put, List.getElem_toArray, List.getElem_cons_succ, List.getElem_cons_zero, List.setIfInBounds_toArray, List.set_cons_zero, List.set_cons_succ]
    refine wpAnyH_take (i := 1) (oi := _) (v := ?_) rfl (by kernel_rfl) (by kernel_rfl) (by kernel_rfl) (fun _ _ _ h => h) (Or.inl ⟨by rfl, ?_⟩) hHeld ?_
    rotate_left
    · intro w hSw
      (try dsimp only at hSw)
      go_simp
      try with_reducible rfl
    try simp only [Act.put, List.getElem_toArray, List.getElem_cons_succ, List.getElem_cons_zero, List.setIfInBounds_toArray, List.set_cons_zero, List.set_cons_succ]
    refine wpAnyH_ready (rs := [2]) (by kernel_rfl) (by simp) ?_
    refine AllReadyH.cons (o := _) rfl (fun K hK => ?_) ?_
    · go_simp
      generalize hz1 : ((y.setCell ⟨w.heap.size + 1, 0, none⟩ (.string ⟨q1.s.toArray⟩)).setCell ⟨w.heap.size + 1, 1, none⟩ (.int .i64 q1.e)).drew = y1
      have F1 : Fr [w.heap.size + 1, w.heap.size + 2] y y1 := hz1 ▸ (((Fr.refl _ y).setCell (Or.inr (by simp)) _).setCell (Or.inr (by simp)) _).drew
      have hA1 : y1.heap[w.heap.size + 1]? = some (.cells #[(.string ⟨q1.s.toArray⟩), (.int .i64 q1.e)] 99 (0, 0)) := hz1 ▸ blk2_set gr.out (.string ⟨q1.s.toArray⟩) (.int .i64 q1.e)
      have hB1 : y1.heap[w.heap.size + 1 + 1]? = some (.cells #[.int .i64 0, .int .u32 0, .string ⟨#[]⟩, .string ⟨#[]⟩] 121 (0, 0)) := hz1 ▸ blk_far (blk_far gs.out (by simp) _) (by simp) _
      have hG1 : Fr [] w y1 := hz1 ▸ ((gf.out.setCell (p := ⟨w.heap.size + 1, 0, none⟩) (Or.inl (by simp)) (.string ⟨q1.s.toArray⟩)).setCell (p := ⟨w.heap.size + 1, 1, none⟩) (Or.inl (by simp)) (.int .i64 q1.e)).drew
      refine hK.out _ _ ⟨F1.cell c0 (by simp), F1.cell c1 (by simp), F1.cell p0 (by simp), F1.cell p1 (by simp), F1.cell p2 (by simp), F1.cell p3 (by simp)⟩ (fun hHeld => ?_)
      clear hK K hz1
      try simp only [Act.put, List.getElem_toArray, List.getElem_cons_succ, List.getElem_cons_zero, List.setIfInBounds_toArray, List.set_cons_zero, List.set_cons_succ]
      obtain ⟨⟨v0, v1, v2, v3⟩, ⟨g0, g1, g2, g3⟩, hg⟩ := blk4_facts hB1
      refine wpAnyH_ready (rs := [3]) (by kernel_rfl) (by simp) ?_
      refine AllReadyH.cons (o := _) rfl (fun K hK => ?_) ?_
      · go_simp
        generalize hz2 : (((y1.setCell ⟨w.heap.size + 1 + 1, 0, none⟩ (.int .i64 id)).setCell ⟨w.heap.size + 1 + 1, 1, none⟩ (.int .u32 n)).setCell ⟨w.heap.size + 1 + 1, 2, none⟩ (.string ⟨#[]⟩)).setCell ⟨w.heap.size + 1 + 1, 3, none⟩ (.string ⟨#[]⟩) = y2
        have F2 : Fr [w.heap.size + 1, w.heap.size + 2] y1 y2 := hz2 ▸ ((((Fr.refl _ y1).setCell (Or.inr (by simp)) _).setCell (Or.inr (by simp)) _).setCell (Or.inr (by simp)) _).setCell (Or.inr (by simp)) _
        have hA2 : y2.heap[w.heap.size + 1]? = some (.cells #[(.string ⟨q1.s.toArray⟩), (.int .i64 q1.e)] 99 (0, 0)) := hz2 ▸ blk_far (blk_far (blk_far (blk_far hA1 (by simp) _) (by simp) _) (by simp) _) (by simp) _
        have hB2 : y2.heap[w.heap.size + 1 + 1]? = some (.cells #[(.int .i64 id), (.int .u32 n), (.string ⟨#[]⟩), (.string ⟨#[]⟩)] 121 (0, 0)) := hz2 ▸ blk4_set hB1 (.int .i64 id) (.int .u32 n) (.string ⟨#[]⟩) (.string ⟨#[]⟩)
        have hle2 : w.heap.size ≤ w.heap.size + 1 + 1 := by omega
        have hG2 : Fr [] w y2 := hz2 ▸ (((hG1.setCell (p := ⟨w.heap.size + 1 + 1, 0, none⟩) (Or.inl hle2) (.int .i64 id)).setCell (p := ⟨w.heap.size + 1 + 1, 1, none⟩) (Or.inl hle2) (.int .u32 n)).setCell (p := ⟨w.heap.size + 1 + 1, 2, none⟩) (Or.inl hle2) (.string ⟨#[]⟩)).setCell (p := ⟨w.heap.size + 1 + 1, 3, none⟩) (Or.inl hle2) (.string ⟨#[]⟩)
        have F3 := F1.trans F2 (fun _ _ h => h)
        refine hK.out _ _ ⟨F3.cell c0 (by simp), F3.cell c1 (by simp), F3.cell p0 (by simp), F3.cell p1 (by simp), F3.cell p2 (by simp), F3.cell p3 (by simp)⟩ (fun hHeld => ?_)
        clear hK K hz2
        try simp only [Act.put, List.getElem_toArray, List.getElem_cons_succ, List.getElem_cons_zero, List.setIfInBounds_toArray, List.set_cons_zero, List.set_cons_succ]
        refine wpAnyH_done (by kernel_rfl) ?_ _
        obtain ⟨rr0, rr1, zz0, zz1, hlr2⟩ := blk2_facts hA2
        obtain ⟨⟨ss0, ss1, ss2, ss3⟩, ⟨tt0, tt1, tt2, tt3⟩, hls2⟩ := blk4_facts hB2
        go_wp2
        refine bodyPost_ret (v := .tuple #[.agg #[(.string ⟨q1.s.toArray⟩), (.int .i64 q1.e)], .agg #[(.int .i64 id), (.int .u32 n), (.string ⟨#[]⟩), (.string ⟨#[]⟩)]]) (by simp [results, Try.results95, go_sem, rr0, rr1, ss0, ss1, ss2, ss3]) rfl ?_
        rw [HV.out]
        exact ⟨(Pr.mk id n [] []), rfl, (fun _ => rfl), hn, hG2⟩
      exact AllReadyH.nil
    exact AllReadyH.nil
  · have hno : n < (ruleOf id).least ∨ (ruleOf id).most < n := Classical.byContradiction (fun h => by rw [HS.out.2 h] at hso; cases hso)
    have HV := Lib.hid (HV0.out.trans (by rw [show chkR (ruleOf id) n q1 = ⟨q1.s, 3⟩ from if_pos ⟨he, hno⟩]))
    clear he hso hno
    have gc2 := Lib.hid (blk_set gc.out 1 (.int .i64 3))
    have gp2 := Lib.hid (blk_far (p := ⟨w.heap.size, 1, none⟩) gp.out (by simp) (.int .i64 3))
    have gr2 := Lib.hid (blk_far (p := ⟨w.heap.size, 1, none⟩) gr.out (by simp) (.int .i64 3))
    have gs2 := Lib.hid (blk_far (p := ⟨w.heap.size, 1, none⟩) gs.out (by simp) (.int .i64 3))
    have gf2 := Lib.hid (gf.out.setCell (p := ⟨w.heap.size, 1, none⟩) (Or.inl (by simp)) (.int .i64 3))
    go_upto_region 29 with (fail)
    obtain ⟨yy, hyy⟩ : ∃ yy, y.setCell ⟨w.heap.size, 1, none⟩ (.int .i64 3) = yy := ⟨_, rfl⟩
    rw [hyy] at gc2 gp2 gr2 gs2 gf2 ⊢
    clear hyy gc gp gr gs gf
    have gc := gc2
    have gp := gp2
    have gr := gr2
    have gs := gs2
    have gf := gf2
    clear gc2 gp2 gr2 gs2 gf2 c0 c1 f0 f1 hlc p0 p1 p2 p3 k0 k1 k2 k3 hlp r0 r1 z0 z1 hlr s0 s1 s2 s3 t0 t1 t2 t3 hls
    obtain ⟨c0, c1, f0, f1, hlc⟩ := blk2_facts gc.out
    obtain ⟨⟨p0, p1, p2, p3⟩, ⟨k0, k1, k2, k3⟩, hlp⟩ := blk4_facts gp.out
    obtain ⟨r0, r1, z0, z1, hlr⟩ := blk2_facts gr.out
    obtain ⟨⟨s0, s1, s2, s3⟩, ⟨t0, t1, t2, t3⟩, hls⟩ := blk4_facts gs.out
    refine wp_region_held_drew (S := fun w' => w'.cell? ⟨w.heap.size, 0, none⟩ = some (.string ⟨q1.s.toArray⟩) ∧ w'.cell? ⟨w.heap.size, 1, none⟩ = some (.int .i64 3) ∧ w'.cell? ⟨w.heap.size + 3, 0, none⟩ = some (.int .i64 id) ∧ w'.cell? ⟨w.heap.size + 3, 1, none⟩ = some (.int .u32 n) ∧ w'.cell? ⟨w.heap.size + 3, 2, none⟩ = some (.string ⟨#[]⟩) ∧ w'.cell? ⟨w.heap.size + 3, 3, none⟩ = some (.string ⟨#[]⟩)) (by kernel_rfl) ⟨c0, c1, p0, p1, p2, p3⟩ (fun hHeld => ?_)
    refine wpAnyH_take (i := 0) (oi := _) (v := ?_) rfl (by kernel_rfl) (by kernel_rfl) (by kernel_rfl) (fun _ _ _ h => h) (Or.inl ⟨by rfl, ?_⟩) hHeld ?_
    rotate_left
    · intro w hSw
      (try dsimp only at hSw)
      go_simp
      try with_reducible rfl
    try simp only [Act.put, List.getElem_toArray, List.getElem_cons_succ, List.getElem_cons_zero, List.setIfInBounds_toArray, List.set_cons_zero, List.set_cons_succ]
    refine wpAnyH_take (i := 1) (oi := _) (v := ?_) rfl (by kernel_rfl) (by kernel_rfl) (by kernel_rfl) (fun _ _ _ h => h) (Or.inl ⟨by rfl, ?_⟩) hHeld ?_
    rotate_left
    · intro w hSw
      (try dsimp only at hSw)
      go_simp
      try with_reducible rfl
    try simp only [Act.put, List.getElem_toArray, List.getElem_cons_succ, List.getElem_cons_zero, List.setIfInBounds_toArray, List.set_cons_zero, List.set_cons_succ]
    refine wpAnyH_ready (rs := [2]) (by kernel_rfl) (by simp) ?_
    refine AllReadyH.cons (o := _) rfl (fun K hK => ?_) ?_
    · go_simp
      generalize hz1 : ((yy.setCell ⟨w.heap.size + 1, 0, none⟩ (.string ⟨q1.s.toArray⟩)).setCell ⟨w.heap.size + 1, 1, none⟩ (.int .i64 3)).drew = y1
      have F1 : Fr [w.heap.size + 1, w.heap.size + 2] yy y1 := hz1 ▸ (((Fr.refl _ yy).setCell (Or.inr (by simp)) _).setCell (Or.inr (by simp)) _).drew
      have hA1 : y1.heap[w.heap.size + 1]? = some (.cells #[(.string ⟨q1.s.toArray⟩), (.int .i64 3)] 99 (0, 0)) := hz1 ▸ blk2_set gr.out (.string ⟨q1.s.toArray⟩) (.int .i64 3)
      have hB1 : y1.heap[w.heap.size + 1 + 1]? = some (.cells #[.int .i64 0, .int .u32 0, .string ⟨#[]⟩, .string ⟨#[]⟩] 121 (0, 0)) := hz1 ▸ blk_far (blk_far gs.out (by simp) _) (by simp) _
      have hG1 : Fr [] w y1 := hz1 ▸ ((gf.out.setCell (p := ⟨w.heap.size + 1, 0, none⟩) (Or.inl (by simp)) (.string ⟨q1.s.toArray⟩)).setCell (p := ⟨w.heap.size + 1, 1, none⟩) (Or.inl (by simp)) (.int .i64 3)).drew
      refine hK.out _ _ ⟨F1.cell c0 (by simp), F1.cell c1 (by simp), F1.cell p0 (by simp), F1.cell p1 (by simp), F1.cell p2 (by simp), F1.cell p3 (by simp)⟩ (fun hHeld => ?_)
      clear hK K hz1
      try simp only [Act.put, List.getElem_toArray, List.getElem_cons_succ, List.getElem_cons_zero, List.setIfInBounds_toArray, List.set_cons_zero, List.set_cons_succ]
      obtain ⟨⟨v0, v1, v2, v3⟩, ⟨g0, g1, g2, g3⟩, hg⟩ := blk4_facts hB1
      refine wpAnyH_ready (rs := [3]) (by kernel_rfl) (by simp) ?_
      refine AllReadyH.cons (o := _) rfl (fun K hK => ?_) ?_
      · go_simp
        generalize hz2 : (((y1.setCell ⟨w.heap.size + 1 + 1, 0, none⟩ (.int .i64 id)).setCell ⟨w.heap.size + 1 + 1, 1, none⟩ (.int .u32 n)).setCell ⟨w.heap.size + 1 + 1, 2, none⟩ (.string ⟨#[]⟩)).setCell ⟨w.heap.size + 1 + 1, 3, none⟩ (.string ⟨#[]⟩) = y2
        have F2 : Fr [w.heap.size + 1, w.heap.size + 2] y1 y2 := hz2 ▸ ((((Fr.refl _ y1).setCell (Or.inr (by simp)) _).setCell (Or.inr (by simp)) _).setCell (Or.inr (by simp)) _).setCell (Or.inr (by simp)) _
        have hA2 : y2.heap[w.heap.size + 1]? = some (.cells #[(.string ⟨q1.s.toArray⟩), (.int .i64 3)] 99 (0, 0)) := hz2 ▸ blk_far (blk_far (blk_far (blk_far hA1 (by simp) _) (by simp) _) (by simp) _) (by simp) _
        have hB2 : y2.heap[w.heap.size + 1 + 1]? = some (.cells #[(.int .i64 id), (.int .u32 n), (.string ⟨#[]⟩), (.string ⟨#[]⟩)] 121 (0, 0)) := hz2 ▸ blk4_set hB1 (.int .i64 id) (.int .u32 n) (.string ⟨#[]⟩) (.string ⟨#[]⟩)
        have hle2 : w.heap.size ≤ w.heap.size + 1 + 1 := by omega
        have hG2 : Fr [] w y2 := hz2 ▸ (((hG1.setCell (p := ⟨w.heap.size + 1 + 1, 0, none⟩) (Or.inl hle2) (.int .i64 id)).setCell (p := ⟨w.heap.size + 1 + 1, 1, none⟩) (Or.inl hle2) (.int .u32 n)).setCell (p := ⟨w.heap.size + 1 + 1, 2, none⟩) (Or.inl hle2) (.string ⟨#[]⟩)).setCell (p := ⟨w.heap.size + 1 + 1, 3, none⟩) (Or.inl hle2) (.string ⟨#[]⟩)
        have F3 := F1.trans F2 (fun _ _ h => h)
        refine hK.out _ _ ⟨F3.cell c0 (by simp), F3.cell c1 (by simp), F3.cell p0 (by simp), F3.cell p1 (by simp), F3.cell p2 (by simp), F3.cell p3 (by simp)⟩ (fun hHeld => ?_)
        clear hK K hz2
        try simp only [Act.put, List.getElem_toArray, List.getElem_cons_succ, List.getElem_cons_zero, List.setIfInBounds_toArray, List.set_cons_zero, List.set_cons_succ]
        refine wpAnyH_done (by kernel_rfl) ?_ _
        obtain ⟨rr0, rr1, zz0, zz1, hlr2⟩ := blk2_facts hA2
        obtain ⟨⟨ss0, ss1, ss2, ss3⟩, ⟨tt0, tt1, tt2, tt3⟩, hls2⟩ := blk4_facts hB2
        go_wp2
        refine bodyPost_ret (v := .tuple #[.agg #[(.string ⟨q1.s.toArray⟩), (.int .i64 3)], .agg #[(.int .i64 id), (.int .u32 n), (.string ⟨#[]⟩), (.string ⟨#[]⟩)]]) (by simp [results, Try.results95, go_sem, rr0, rr1, ss0, ss1, ss2, ss3]) rfl ?_
        rw [HV.out]
        exact ⟨(Pr.mk id n [] []), rfl, (fun _ => rfl), hn, hG2⟩
      exact AllReadyH.nil
    exact AllReadyH.nil
set_option maxRecDepth 100000 in
set_option maxHeartbeats 4000000 in
theorem rtake5_pany (q : Rd) (id : Int) (w : World) (hk : (ruleOf id).kind = 5) (hs : q.s.length ≤ 9223372036854775807) :
    Calls Try.prog 95 #[.agg #[.string ⟨q.s.toArray⟩, .int .i64 q.e], .int .i64 id] w (RTakeTo (valR (ruleOf id) id q) w) := by
  have hc := Lib.hid (blk_old (blk_old (blk_old (blk_new w (.cells #[.string ⟨q.s.toArray⟩, .int .i64 q.e] 99)) (.cells #[.string ⟨#[]⟩, .int .i64 0] 99)) (.cells #[.int .i64 0, .int .u32 0, .string ⟨#[]⟩, .string ⟨#[]⟩] 121)) (.cells #[.int .i64 id, .int .u32 0, .string ⟨#[]⟩, .string ⟨#[]⟩] 121))
  have hr := Lib.hid (show ((((w.alloc (.cells #[.string ⟨q.s.toArray⟩, .int .i64 q.e] 99)).alloc (.cells #[.string ⟨#[]⟩, .int .i64 0] 99)).alloc (.cells #[.int .i64 0, .int .u32 0, .string ⟨#[]⟩, .string ⟨#[]⟩] 121)).alloc (.cells #[.int .i64 id, .int .u32 0, .string ⟨#[]⟩, .string ⟨#[]⟩] 121)).heap[w.heap.size + 1]? = some (.cells #[.string ⟨#[]⟩, .int .i64 0] 99 (0, 0)) from blk_old (blk_old (blk_atH _ _ _ (by simp)) _) _)
  have hs2 := Lib.hid (show ((((w.alloc (.cells #[.string ⟨q.s.toArray⟩, .int .i64 q.e] 99)).alloc (.cells #[.string ⟨#[]⟩, .int .i64 0] 99)).alloc (.cells #[.int .i64 0, .int .u32 0, .string ⟨#[]⟩, .string ⟨#[]⟩] 121)).alloc (.cells #[.int .i64 id, .int .u32 0, .string ⟨#[]⟩, .string ⟨#[]⟩] 121)).heap[w.heap.size + 2]? = some (.cells #[.int .i64 0, .int .u32 0, .string ⟨#[]⟩, .string ⟨#[]⟩] 121 (0, 0)) from blk_old (blk_atH _ _ _ (by simp)) _)
  have hp := Lib.hid (show ((((w.alloc (.cells #[.string ⟨q.s.toArray⟩, .int .i64 q.e] 99)).alloc (.cells #[.string ⟨#[]⟩, .int .i64 0] 99)).alloc (.cells #[.int .i64 0, .int .u32 0, .string ⟨#[]⟩, .string ⟨#[]⟩] 121)).alloc (.cells #[.int .i64 id, .int .u32 0, .string ⟨#[]⟩, .string ⟨#[]⟩] 121)).heap[w.heap.size + 3]? = some (.cells #[.int .i64 id, .int .u32 0, .string ⟨#[]⟩, .string ⟨#[]⟩] 121 (0, 0)) from blk_atH _ _ _ (by simp))
  have hf := Lib.hid (show Fr [] w ((((w.alloc (.cells #[.string ⟨q.s.toArray⟩, .int .i64 q.e] 99)).alloc (.cells #[.string ⟨#[]⟩, .int .i64 0] 99)).alloc (.cells #[.int .i64 0, .int .u32 0, .string ⟨#[]⟩, .string ⟨#[]⟩] 121)).alloc (.cells #[.int .i64 id, .int .u32 0, .string ⟨#[]⟩, .string ⟨#[]⟩] 121)) from ((((Fr.refl [] w).alloc _).alloc _).alloc _).alloc _)
  have Hk := Lib.hid hk
  clear hk
  obtain ⟨⟨n, q1⟩, hq⟩ : ∃ y, q.str = y := ⟨_, rfl⟩
  have HV := Lib.hid (show valR (ruleOf id) id q = (⟨id, 0, n, []⟩, q1) from by unfold valR; simp only [Hk.out]; rw [hq]; rfl)
  have hn : 0 < 4294967296 := by decide
  go_enter Try.func95, Try.ntmps95
  go_wp2_with fail
  refine (rkind_any id _).mono ?_
  rintro _ wa ⟨rfl, hwa⟩
  rw [Hk.out]
  rw [hwa] at hc hr hs2 hp hf
  clear hwa
  obtain ⟨c0, c1, f0, f1, hlc⟩ := blk2_facts hc.out
  go_wp2_with fail
  refine (rtake_any q _ hs).mono ?_
  rintro _ x1 ⟨rfl, hx⟩
  rw [hq]
  have hc2 := hx.blk hc.out (by simp)
  have hr2 := hx.blk hr.out (by simp)
  have hs3 := hx.blk hs2.out (by simp)
  have hp2 := hx.blk hp.out (by simp)
  have hf2 := hf.out.trans hx (by simp)
  clear c0 c1 f0 f1 hlc
  obtain ⟨c0, c1, f0, f1, hlc⟩ := blk2_facts hc2
  obtain ⟨⟨p0, p1, p2, p3⟩, ⟨k0, k1, k2, k3⟩, hlp⟩ := blk4_facts hp2
  have gc := Lib.hid (blk_old (blk_far (p := ⟨w.heap.size + 3, 2, none⟩) (blk2_set hc2 (.string ⟨q1.s.toArray⟩) (.int .i64 q1.e)) (by simp) (.string ⟨n.toArray⟩)) (.cells #[.string ⟨q1.s.toArray⟩, .int .i64 q1.e] 99))
  have gp := Lib.hid (blk_old (blk_set (blk_far (p := ⟨w.heap.size, 1, none⟩) (blk_far (p := ⟨w.heap.size, 0, none⟩) hp2 (by simp) (.string ⟨q1.s.toArray⟩)) (by simp) (.int .i64 q1.e)) 2 (.string ⟨n.toArray⟩)) (.cells #[.string ⟨q1.s.toArray⟩, .int .i64 q1.e] 99))
  have gr := Lib.hid (blk_old (blk_far (p := ⟨w.heap.size + 3, 2, none⟩) (blk_far (p := ⟨w.heap.size, 1, none⟩) (blk_far (p := ⟨w.heap.size, 0, none⟩) hr2 (by simp) (.string ⟨q1.s.toArray⟩)) (by simp) (.int .i64 q1.e)) (by simp) (.string ⟨n.toArray⟩)) (.cells #[.string ⟨q1.s.toArray⟩, .int .i64 q1.e] 99))
  have gs := Lib.hid (blk_old (blk_far (p := ⟨w.heap.size + 3, 2, none⟩) (blk_far (p := ⟨w.heap.size, 1, none⟩) (blk_far (p := ⟨w.heap.size, 0, none⟩) hs3 (by simp) (.string ⟨q1.s.toArray⟩)) (by simp) (.int .i64 q1.e)) (by simp) (.string ⟨n.toArray⟩)) (.cells #[.string ⟨q1.s.toArray⟩, .int .i64 q1.e] 99))
  have gf := Lib.hid ((((hf2.setCell (p := ⟨w.heap.size, 0, none⟩) (Or.inl (by simp)) (.string ⟨q1.s.toArray⟩)).setCell (p := ⟨w.heap.size, 1, none⟩) (Or.inl (by simp)) (.int .i64 q1.e)).setCell (p := ⟨w.heap.size + 3, 2, none⟩) (Or.inl (by simp)) (.string ⟨n.toArray⟩)).alloc (.cells #[.string ⟨q1.s.toArray⟩, .int .i64 q1.e] 99))
  clear hc2 hr2 hs3 hp2 hf2 hx hc hr hs2 hp hf
  go_upto_region 27 with (fail)
  obtain ⟨y, hy⟩ : ∃ y, ((((x1.setCell ⟨w.heap.size, 0, none⟩ (.string ⟨q1.s.toArray⟩)).setCell ⟨w.heap.size, 1, none⟩ (.int .i64 q1.e)).setCell ⟨w.heap.size + 3, 2, none⟩ (.string ⟨n.toArray⟩)).alloc (.cells #[.string ⟨q1.s.toArray⟩, .int .i64 q1.e] 99)) = y := ⟨_, rfl⟩
  rw [hy] at gc gp gr gs gf ⊢
  clear hy c0 c1 f0 f1 hlc p0 p1 p2 p3 k0 k1 k2 k3 hlp
  obtain ⟨c0, c1, f0, f1, hlc⟩ := blk2_facts gc.out
  obtain ⟨⟨p0, p1, p2, p3⟩, ⟨k0, k1, k2, k3⟩, hlp⟩ := blk4_facts gp.out
  obtain ⟨r0, r1, z0, z1, hlr⟩ := blk2_facts gr.out
  obtain ⟨⟨s0, s1, s2, s3⟩, ⟨t0, t1, t2, t3⟩, hls⟩ := blk4_facts gs.out
  by_cases he : q1.e = 0
  rotate_left
  · have e1 : (q1.e == 0) = false := by simpa using he
    clear he
    go_wp2
    refine wp_region_held_drew (S := fun w' => w'.cell? ⟨w.heap.size, 0, none⟩ = some (.string ⟨q1.s.toArray⟩) ∧ w'.cell? ⟨w.heap.size, 1, none⟩ = some (.int .i64 q1.e) ∧ w'.cell? ⟨w.heap.size + 3, 0, none⟩ = some (.int .i64 id) ∧ w'.cell? ⟨w.heap.size + 3, 1, none⟩ = some (.int .u32 0) ∧ w'.cell? ⟨w.heap.size + 3, 2, none⟩ = some (.string ⟨n.toArray⟩) ∧ w'.cell? ⟨w.heap.size + 3, 3, none⟩ = some (.string ⟨#[]⟩)) (by kernel_rfl) ⟨c0, c1, p0, p1, p2, p3⟩ (fun hHeld => ?_)
    refine wpAnyH_take (i := 0) (oi := _) (v := ?_) rfl (by kernel_rfl) (by kernel_rfl) (by kernel_rfl) (fun _ _ _ h => h) (Or.inl ⟨by rfl, ?_⟩) hHeld ?_
    rotate_left
    · intro w hSw
      (try dsimp only at hSw)
      go_simp
      try with_reducible rfl
    try simp only [Act.put, List.getElem_toArray, List.getElem_cons_succ, List.getElem_cons_zero, List.setIfInBounds_toArray, List.set_cons_zero, List.set_cons_succ]
    refine wpAnyH_take (i := 1) (oi := _) (v := ?_) rfl (by kernel_rfl) (by kernel_rfl) (by kernel_rfl) (fun _ _ _ h => h) (Or.inl ⟨by rfl, ?_⟩) hHeld ?_
    rotate_left
    · intro w hSw
      (try dsimp only at hSw)
      go_simp
      try with_reducible rfl
    try simp only [Act.put, List.getElem_toArray, List.getElem_cons_succ, List.getElem_cons_zero, List.setIfInBounds_toArray, List.set_cons_zero, List.set_cons_succ]
    refine wpAnyH_ready (rs := [2]) (by kernel_rfl) (by simp) ?_
    refine AllReadyH.cons (o := _) rfl (fun K hK => ?_) ?_
    · go_simp
      generalize hz1 : ((y.setCell ⟨w.heap.size + 1, 0, none⟩ (.string ⟨q1.s.toArray⟩)).setCell ⟨w.heap.size + 1, 1, none⟩ (.int .i64 q1.e)).drew = y1
      have F1 : Fr [w.heap.size + 1, w.heap.size + 2] y y1 := hz1 ▸ (((Fr.refl _ y).setCell (Or.inr (by simp)) _).setCell (Or.inr (by simp)) _).drew
      have hA1 : y1.heap[w.heap.size + 1]? = some (.cells #[(.string ⟨q1.s.toArray⟩), (.int .i64 q1.e)] 99 (0, 0)) := hz1 ▸ blk2_set gr.out (.string ⟨q1.s.toArray⟩) (.int .i64 q1.e)
      have hB1 : y1.heap[w.heap.size + 1 + 1]? = some (.cells #[.int .i64 0, .int .u32 0, .string ⟨#[]⟩, .string ⟨#[]⟩] 121 (0, 0)) := hz1 ▸ blk_far (blk_far gs.out (by simp) _) (by simp) _
      have hG1 : Fr [] w y1 := hz1 ▸ ((gf.out.setCell (p := ⟨w.heap.size + 1, 0, none⟩) (Or.inl (by simp)) (.string ⟨q1.s.toArray⟩)).setCell (p := ⟨w.heap.size + 1, 1, none⟩) (Or.inl (by simp)) (.int .i64 q1.e)).drew
      refine hK.out _ _ ⟨F1.cell c0 (by simp), F1.cell c1 (by simp), F1.cell p0 (by simp), F1.cell p1 (by simp), F1.cell p2 (by simp), F1.cell p3 (by simp)⟩ (fun hHeld => ?_)
      clear hK K hz1
      try simp only [Act.put, List.getElem_toArray, List.getElem_cons_succ, List.getElem_cons_zero, List.setIfInBounds_toArray, List.set_cons_zero, List.set_cons_succ]
      obtain ⟨⟨v0, v1, v2, v3⟩, ⟨g0, g1, g2, g3⟩, hg⟩ := blk4_facts hB1
      refine wpAnyH_ready (rs := [3]) (by kernel_rfl) (by simp) ?_
      refine AllReadyH.cons (o := _) rfl (fun K hK => ?_) ?_
      · go_simp
        generalize hz2 : (((y1.setCell ⟨w.heap.size + 1 + 1, 0, none⟩ (.int .i64 id)).setCell ⟨w.heap.size + 1 + 1, 1, none⟩ (.int .u32 0)).setCell ⟨w.heap.size + 1 + 1, 2, none⟩ (.string ⟨n.toArray⟩)).setCell ⟨w.heap.size + 1 + 1, 3, none⟩ (.string ⟨#[]⟩) = y2
        have F2 : Fr [w.heap.size + 1, w.heap.size + 2] y1 y2 := hz2 ▸ ((((Fr.refl _ y1).setCell (Or.inr (by simp)) _).setCell (Or.inr (by simp)) _).setCell (Or.inr (by simp)) _).setCell (Or.inr (by simp)) _
        have hA2 : y2.heap[w.heap.size + 1]? = some (.cells #[(.string ⟨q1.s.toArray⟩), (.int .i64 q1.e)] 99 (0, 0)) := hz2 ▸ blk_far (blk_far (blk_far (blk_far hA1 (by simp) _) (by simp) _) (by simp) _) (by simp) _
        have hB2 : y2.heap[w.heap.size + 1 + 1]? = some (.cells #[(.int .i64 id), (.int .u32 0), (.string ⟨n.toArray⟩), (.string ⟨#[]⟩)] 121 (0, 0)) := hz2 ▸ blk4_set hB1 (.int .i64 id) (.int .u32 0) (.string ⟨n.toArray⟩) (.string ⟨#[]⟩)
        have hle2 : w.heap.size ≤ w.heap.size + 1 + 1 := by omega
        have hG2 : Fr [] w y2 := hz2 ▸ (((hG1.setCell (p := ⟨w.heap.size + 1 + 1, 0, none⟩) (Or.inl hle2) (.int .i64 id)).setCell (p := ⟨w.heap.size + 1 + 1, 1, none⟩) (Or.inl hle2) (.int .u32 0)).setCell (p := ⟨w.heap.size + 1 + 1, 2, none⟩) (Or.inl hle2) (.string ⟨n.toArray⟩)).setCell (p := ⟨w.heap.size + 1 + 1, 3, none⟩) (Or.inl hle2) (.string ⟨#[]⟩)
        have F3 := F1.trans F2 (fun _ _ h => h)
        refine hK.out _ _ ⟨F3.cell c0 (by simp), F3.cell c1 (by simp), F3.cell p0 (by simp), F3.cell p1 (by simp), F3.cell p2 (by simp), F3.cell p3 (by simp)⟩ (fun hHeld => ?_)
        clear hK K hz2
        try simp only [Act.put, List.getElem_toArray, List.getElem_cons_succ, List.getElem_cons_zero, List.setIfInBounds_toArray, List.set_cons_zero, List.set_cons_succ]
        refine wpAnyH_done (by kernel_rfl) ?_ _
        obtain ⟨rr0, rr1, zz0, zz1, hlr2⟩ := blk2_facts hA2
        obtain ⟨⟨ss0, ss1, ss2, ss3⟩, ⟨tt0, tt1, tt2, tt3⟩, hls2⟩ := blk4_facts hB2
        go_wp2
        refine bodyPost_ret (v := .tuple #[.agg #[(.string ⟨q1.s.toArray⟩), (.int .i64 q1.e)], .agg #[(.int .i64 id), (.int .u32 0), (.string ⟨n.toArray⟩), (.string ⟨#[]⟩)]]) (by simp [results, Try.results95, go_sem, rr0, rr1, ss0, ss1, ss2, ss3]) rfl ?_
        rw [HV.out]
        exact ⟨(Pr.mk id 0 n []), rfl, (fun _ => rfl), hn, hG2⟩
      exact AllReadyH.nil
    exact AllReadyH.nil
  · have e1 : (q1.e == 0) = true := by simpa using he
    clear he
    go_wp2_with fail
    refine (rkind_any id _).mono ?_
    rintro _ _ ⟨rfl, rfl⟩
    rw [Hk.out]
    go_wp2
    refine wp_region_held_drew (S := fun w' => w'.cell? ⟨w.heap.size, 0, none⟩ = some (.string ⟨q1.s.toArray⟩) ∧ w'.cell? ⟨w.heap.size, 1, none⟩ = some (.int .i64 q1.e) ∧ w'.cell? ⟨w.heap.size + 3, 0, none⟩ = some (.int .i64 id) ∧ w'.cell? ⟨w.heap.size + 3, 1, none⟩ = some (.int .u32 0) ∧ w'.cell? ⟨w.heap.size + 3, 2, none⟩ = some (.string ⟨n.toArray⟩) ∧ w'.cell? ⟨w.heap.size + 3, 3, none⟩ = some (.string ⟨#[]⟩)) (by kernel_rfl) ⟨c0, c1, p0, p1, p2, p3⟩ (fun hHeld => ?_)
    refine wpAnyH_take (i := 0) (oi := _) (v := ?_) rfl (by kernel_rfl) (by kernel_rfl) (by kernel_rfl) (fun _ _ _ h => h) (Or.inl ⟨by rfl, ?_⟩) hHeld ?_
    rotate_left
    · intro w hSw
      (try dsimp only at hSw)
      go_simp
      try with_reducible rfl
    try simp only [Act.put, List.getElem_toArray, List.getElem_cons_succ, List.getElem_cons_zero, List.setIfInBounds_toArray, List.set_cons_zero, List.set_cons_succ]
    refine wpAnyH_take (i := 1) (oi := _) (v := ?_) rfl (by kernel_rfl) (by kernel_rfl) (by kernel_rfl) (fun _ _ _ h => h) (Or.inl ⟨by rfl, ?_⟩) hHeld ?_
    rotate_left
    · intro w hSw
      (try dsimp only at hSw)
      go_simp
      try with_reducible rfl
    try simp only [Act.put, List.getElem_toArray, List.getElem_cons_succ, List.getElem_cons_zero, List.setIfInBounds_toArray, List.set_cons_zero, List.set_cons_succ]
    refine wpAnyH_ready (rs := [2]) (by kernel_rfl) (by simp) ?_
    refine AllReadyH.cons (o := _) rfl (fun K hK => ?_) ?_
    · go_simp
      generalize hz1 : ((y.setCell ⟨w.heap.size + 1, 0, none⟩ (.string ⟨q1.s.toArray⟩)).setCell ⟨w.heap.size + 1, 1, none⟩ (.int .i64 q1.e)).drew = y1
      have F1 : Fr [w.heap.size + 1, w.heap.size + 2] y y1 := hz1 ▸ (((Fr.refl _ y).setCell (Or.inr (by simp)) _).setCell (Or.inr (by simp)) _).drew
      have hA1 : y1.heap[w.heap.size + 1]? = some (.cells #[(.string ⟨q1.s.toArray⟩), (.int .i64 q1.e)] 99 (0, 0)) := hz1 ▸ blk2_set gr.out (.string ⟨q1.s.toArray⟩) (.int .i64 q1.e)
      have hB1 : y1.heap[w.heap.size + 1 + 1]? = some (.cells #[.int .i64 0, .int .u32 0, .string ⟨#[]⟩, .string ⟨#[]⟩] 121 (0, 0)) := hz1 ▸ blk_far (blk_far gs.out (by simp) _) (by simp) _
      have hG1 : Fr [] w y1 := hz1 ▸ ((gf.out.setCell (p := ⟨w.heap.size + 1, 0, none⟩) (Or.inl (by simp)) (.string ⟨q1.s.toArray⟩)).setCell (p := ⟨w.heap.size + 1, 1, none⟩) (Or.inl (by simp)) (.int .i64 q1.e)).drew
      refine hK.out _ _ ⟨F1.cell c0 (by simp), F1.cell c1 (by simp), F1.cell p0 (by simp), F1.cell p1 (by simp), F1.cell p2 (by simp), F1.cell p3 (by simp)⟩ (fun hHeld => ?_)
      clear hK K hz1
      try simp only [Act.put, List.getElem_toArray, List.getElem_cons_succ, List.getElem_cons_zero, List.setIfInBounds_toArray, List.set_cons_zero, List.set_cons_succ]
      obtain ⟨⟨v0, v1, v2, v3⟩, ⟨g0, g1, g2, g3⟩, hg⟩ := blk4_facts hB1
      refine wpAnyH_ready (rs := [3]) (by kernel_rfl) (by simp) ?_
      refine AllReadyH.cons (o := _) rfl (fun K hK => ?_) ?_
      · go_simp
        generalize hz2 : (((y1.setCell ⟨w.heap.size + 1 + 1, 0, none⟩ (.int .i64 id)).setCell ⟨w.heap.size + 1 + 1, 1, none⟩ (.int .u32 0)).setCell ⟨w.heap.size + 1 + 1, 2, none⟩ (.string ⟨n.toArray⟩)).setCell ⟨w.heap.size + 1 + 1, 3, none⟩ (.string ⟨#[]⟩) = y2
        have F2 : Fr [w.heap.size + 1, w.heap.size + 2] y1 y2 := hz2 ▸ ((((Fr.refl _ y1).setCell (Or.inr (by simp)) _).setCell (Or.inr (by simp)) _).setCell (Or.inr (by simp)) _).setCell (Or.inr (by simp)) _
        have hA2 : y2.heap[w.heap.size + 1]? = some (.cells #[(.string ⟨q1.s.toArray⟩), (.int .i64 q1.e)] 99 (0, 0)) := hz2 ▸ blk_far (blk_far (blk_far (blk_far hA1 (by simp) _) (by simp) _) (by simp) _) (by simp) _
        have hB2 : y2.heap[w.heap.size + 1 + 1]? = some (.cells #[(.int .i64 id), (.int .u32 0), (.string ⟨n.toArray⟩), (.string ⟨#[]⟩)] 121 (0, 0)) := hz2 ▸ blk4_set hB1 (.int .i64 id) (.int .u32 0) (.string ⟨n.toArray⟩) (.string ⟨#[]⟩)
        have hle2 : w.heap.size ≤ w.heap.size + 1 + 1 := by omega
        have hG2 : Fr [] w y2 := hz2 ▸ (((hG1.setCell (p := ⟨w.heap.size + 1 + 1, 0, none⟩) (Or.inl hle2) (.int .i64 id)).setCell (p := ⟨w.heap.size + 1 + 1, 1, none⟩) (Or.inl hle2) (.int .u32 0)).setCell (p := ⟨w.heap.size + 1 + 1, 2, none⟩) (Or.inl hle2) (.string ⟨n.toArray⟩)).setCell (p := ⟨w.heap.size + 1 + 1, 3, none⟩) (Or.inl hle2) (.string ⟨#[]⟩)
        have F3 := F1.trans F2 (fun _ _ h => h)
        refine hK.out _ _ ⟨F3.cell c0 (by simp), F3.cell c1 (by simp), F3.cell p0 (by simp), F3.cell p1 (by simp), F3.cell p2 (by simp), F3.cell p3 (by simp)⟩ (fun hHeld => ?_)
        clear hK K hz2
        try simp only [Act.put, List.getElem_toArray, List.getElem_cons_succ, List.getElem_cons_zero, List.setIfInBounds_toArray, List.set_cons_zero, List.set_cons_succ]
        refine wpAnyH_done (by kernel_rfl) ?_ _
        obtain ⟨rr0, rr1, zz0, zz1, hlr2⟩ := blk2_facts hA2
        obtain ⟨⟨ss0, ss1, ss2, ss3⟩, ⟨tt0, tt1, tt2, tt3⟩, hls2⟩ := blk4_facts hB2
        go_wp2
        refine bodyPost_ret (v := .tuple #[.agg #[(.string ⟨q1.s.toArray⟩), (.int .i64 q1.e)], .agg #[(.int .i64 id), (.int .u32 0), (.string ⟨n.toArray⟩), (.string ⟨#[]⟩)]]) (by simp [results, Try.results95, go_sem, rr0, rr1, ss0, ss1, ss2, ss3]) rfl ?_
        rw [HV.out]
        exact ⟨(Pr.mk id 0 n []), rfl, (fun _ => rfl), hn, hG2⟩
      exact AllReadyH.nil
    exact AllReadyH.nil
set_option maxRecDepth 100000 in
set_option maxHeartbeats 4000000 in
theorem rtake6_pany (q : Rd) (id : Int) (w : World) (hk : (ruleOf id).kind = 6) (hs : q.s.length ≤ 9223372036854775807) :
    Calls Try.prog 95 #[.agg #[.string ⟨q.s.toArray⟩, .int .i64 q.e], .int .i64 id] w (RTakeTo (valR (ruleOf id) id q) w) := by
  have hc := Lib.hid (blk_old (blk_old (blk_old (blk_new w (.cells #[.string ⟨q.s.toArray⟩, .int .i64 q.e] 99)) (.cells #[.string ⟨#[]⟩, .int .i64 0] 99)) (.cells #[.int .i64 0, .int .u32 0, .string ⟨#[]⟩, .string ⟨#[]⟩] 121)) (.cells #[.int .i64 id, .int .u32 0, .string ⟨#[]⟩, .string ⟨#[]⟩] 121))
  have hr := Lib.hid (show ((((w.alloc (.cells #[.string ⟨q.s.toArray⟩, .int .i64 q.e] 99)).alloc (.cells #[.string ⟨#[]⟩, .int .i64 0] 99)).alloc (.cells #[.int .i64 0, .int .u32 0, .string ⟨#[]⟩, .string ⟨#[]⟩] 121)).alloc (.cells #[.int .i64 id, .int .u32 0, .string ⟨#[]⟩, .string ⟨#[]⟩] 121)).heap[w.heap.size + 1]? = some (.cells #[.string ⟨#[]⟩, .int .i64 0] 99 (0, 0)) from blk_old (blk_old (blk_atH _ _ _ (by simp)) _) _)
  have hs2 := Lib.hid (show ((((w.alloc (.cells #[.string ⟨q.s.toArray⟩, .int .i64 q.e] 99)).alloc (.cells #[.string ⟨#[]⟩, .int .i64 0] 99)).alloc (.cells #[.int .i64 0, .int .u32 0, .string ⟨#[]⟩, .string ⟨#[]⟩] 121)).alloc (.cells #[.int .i64 id, .int .u32 0, .string ⟨#[]⟩, .string ⟨#[]⟩] 121)).heap[w.heap.size + 2]? = some (.cells #[.int .i64 0, .int .u32 0, .string ⟨#[]⟩, .string ⟨#[]⟩] 121 (0, 0)) from blk_old (blk_atH _ _ _ (by simp)) _)
  have hp := Lib.hid (show ((((w.alloc (.cells #[.string ⟨q.s.toArray⟩, .int .i64 q.e] 99)).alloc (.cells #[.string ⟨#[]⟩, .int .i64 0] 99)).alloc (.cells #[.int .i64 0, .int .u32 0, .string ⟨#[]⟩, .string ⟨#[]⟩] 121)).alloc (.cells #[.int .i64 id, .int .u32 0, .string ⟨#[]⟩, .string ⟨#[]⟩] 121)).heap[w.heap.size + 3]? = some (.cells #[.int .i64 id, .int .u32 0, .string ⟨#[]⟩, .string ⟨#[]⟩] 121 (0, 0)) from blk_atH _ _ _ (by simp))
  have hf := Lib.hid (show Fr [] w ((((w.alloc (.cells #[.string ⟨q.s.toArray⟩, .int .i64 q.e] 99)).alloc (.cells #[.string ⟨#[]⟩, .int .i64 0] 99)).alloc (.cells #[.int .i64 0, .int .u32 0, .string ⟨#[]⟩, .string ⟨#[]⟩] 121)).alloc (.cells #[.int .i64 id, .int .u32 0, .string ⟨#[]⟩, .string ⟨#[]⟩] 121)) from ((((Fr.refl [] w).alloc _).alloc _).alloc _).alloc _)
  have Hk := Lib.hid hk
  clear hk
  obtain ⟨⟨n, q1⟩, hq⟩ : ∃ y, q.data = y := ⟨_, rfl⟩
  have HV := Lib.hid (show valR (ruleOf id) id q = (⟨id, 0, n, []⟩, q1) from by unfold valR; simp only [Hk.out]; rw [hq]; rfl)
  have hn : 0 < 4294967296 := by decide
  go_enter Try.func95, Try.ntmps95
  go_wp2_with fail
  refine (rkind_any id _).mono ?_
  rintro _ wa ⟨rfl, hwa⟩
  rw [Hk.out]
  rw [hwa] at hc hr hs2 hp hf
  clear hwa
  obtain ⟨c0, c1, f0, f1, hlc⟩ := blk2_facts hc.out
  go_wp2_with fail
  refine (rtakedata_any q _ hs).mono ?_
  rintro _ x1 ⟨rfl, hx⟩
  rw [hq]
  have hc2 := hx.blk hc.out (by simp)
  have hr2 := hx.blk hr.out (by simp)
  have hs3 := hx.blk hs2.out (by simp)
  have hp2 := hx.blk hp.out (by simp)
  have hf2 := hf.out.trans hx (by simp)
  clear c0 c1 f0 f1 hlc
  obtain ⟨c0, c1, f0, f1, hlc⟩ := blk2_facts hc2
  obtain ⟨⟨p0, p1, p2, p3⟩, ⟨k0, k1, k2, k3⟩, hlp⟩ := blk4_facts hp2
  have gc := Lib.hid (blk_old (blk_far (p := ⟨w.heap.size + 3, 2, none⟩) (blk2_set hc2 (.string ⟨q1.s.toArray⟩) (.int .i64 q1.e)) (by simp) (.string ⟨n.toArray⟩)) (.cells #[.string ⟨q1.s.toArray⟩, .int .i64 q1.e] 99))
  have gp := Lib.hid (blk_old (blk_set (blk_far (p := ⟨w.heap.size, 1, none⟩) (blk_far (p := ⟨w.heap.size, 0, none⟩) hp2 (by simp) (.string ⟨q1.s.toArray⟩)) (by simp) (.int .i64 q1.e)) 2 (.string ⟨n.toArray⟩)) (.cells #[.string ⟨q1.s.toArray⟩, .int .i64 q1.e] 99))
  have gr := Lib.hid (blk_old (blk_far (p := ⟨w.heap.size + 3, 2, none⟩) (blk_far (p := ⟨w.heap.size, 1, none⟩) (blk_far (p := ⟨w.heap.size, 0, none⟩) hr2 (by simp) (.string ⟨q1.s.toArray⟩)) (by simp) (.int .i64 q1.e)) (by simp) (.string ⟨n.toArray⟩)) (.cells #[.string ⟨q1.s.toArray⟩, .int .i64 q1.e] 99))
  have gs := Lib.hid (blk_old (blk_far (p := ⟨w.heap.size + 3, 2, none⟩) (blk_far (p := ⟨w.heap.size, 1, none⟩) (blk_far (p := ⟨w.heap.size, 0, none⟩) hs3 (by simp) (.string ⟨q1.s.toArray⟩)) (by simp) (.int .i64 q1.e)) (by simp) (.string ⟨n.toArray⟩)) (.cells #[.string ⟨q1.s.toArray⟩, .int .i64 q1.e] 99))
  have gf := Lib.hid ((((hf2.setCell (p := ⟨w.heap.size, 0, none⟩) (Or.inl (by simp)) (.string ⟨q1.s.toArray⟩)).setCell (p := ⟨w.heap.size, 1, none⟩) (Or.inl (by simp)) (.int .i64 q1.e)).setCell (p := ⟨w.heap.size + 3, 2, none⟩) (Or.inl (by simp)) (.string ⟨n.toArray⟩)).alloc (.cells #[.string ⟨q1.s.toArray⟩, .int .i64 q1.e] 99))
  clear hc2 hr2 hs3 hp2 hf2 hx hc hr hs2 hp hf
  go_upto_region 27 with (fail)
  obtain ⟨y, hy⟩ : ∃ y, ((((x1.setCell ⟨w.heap.size, 0, none⟩ (.string ⟨q1.s.toArray⟩)).setCell ⟨w.heap.size, 1, none⟩ (.int .i64 q1.e)).setCell ⟨w.heap.size + 3, 2, none⟩ (.string ⟨n.toArray⟩)).alloc (.cells #[.string ⟨q1.s.toArray⟩, .int .i64 q1.e] 99)) = y := ⟨_, rfl⟩
  rw [hy] at gc gp gr gs gf ⊢
  clear hy c0 c1 f0 f1 hlc p0 p1 p2 p3 k0 k1 k2 k3 hlp
  obtain ⟨c0, c1, f0, f1, hlc⟩ := blk2_facts gc.out
  obtain ⟨⟨p0, p1, p2, p3⟩, ⟨k0, k1, k2, k3⟩, hlp⟩ := blk4_facts gp.out
  obtain ⟨r0, r1, z0, z1, hlr⟩ := blk2_facts gr.out
  obtain ⟨⟨s0, s1, s2, s3⟩, ⟨t0, t1, t2, t3⟩, hls⟩ := blk4_facts gs.out
  by_cases he : q1.e = 0
  rotate_left
  · have e1 : (q1.e == 0) = false := by simpa using he
    clear he
    go_wp2
    refine wp_region_held_drew (S := fun w' => w'.cell? ⟨w.heap.size, 0, none⟩ = some (.string ⟨q1.s.toArray⟩) ∧ w'.cell? ⟨w.heap.size, 1, none⟩ = some (.int .i64 q1.e) ∧ w'.cell? ⟨w.heap.size + 3, 0, none⟩ = some (.int .i64 id) ∧ w'.cell? ⟨w.heap.size + 3, 1, none⟩ = some (.int .u32 0) ∧ w'.cell? ⟨w.heap.size + 3, 2, none⟩ = some (.string ⟨n.toArray⟩) ∧ w'.cell? ⟨w.heap.size + 3, 3, none⟩ = some (.string ⟨#[]⟩)) (by kernel_rfl) ⟨c0, c1, p0, p1, p2, p3⟩ (fun hHeld => ?_)
    refine wpAnyH_take (i := 0) (oi := _) (v := ?_) rfl (by kernel_rfl) (by kernel_rfl) (by kernel_rfl) (fun _ _ _ h => h) (Or.inl ⟨by rfl, ?_⟩) hHeld ?_
    rotate_left
    · intro w hSw
      (try dsimp only at hSw)
      go_simp
      try with_reducible rfl
    try simp only [Act.put, List.getElem_toArray, List.getElem_cons_succ, List.getElem_cons_zero, List.setIfInBounds_toArray, List.set_cons_zero, List.set_cons_succ]
    refine wpAnyH_take (i := 1) (oi := _) (v := ?_) rfl (by kernel_rfl) (by kernel_rfl) (by kernel_rfl) (fun _ _ _ h => h) (Or.inl ⟨by rfl, ?_⟩) hHeld ?_
    rotate_left
    · intro w hSw
      (try dsimp only at hSw)
      go_simp
      try with_reducible rfl
    try simp only [Act.put, List.getElem_toArray, List.getElem_cons_succ, List.getElem_cons_zero, List.setIfInBounds_toArray, List.set_cons_zero, List.set_cons_succ]
    refine wpAnyH_ready (rs := [2]) (by kernel_rfl) (by simp) ?_
    refine AllReadyH.cons (o := _) rfl (fun K hK => ?_) ?_
    · go_simp
      generalize hz1 : ((y.setCell ⟨w.heap.size + 1, 0, none⟩ (.string ⟨q1.s.toArray⟩)).setCell ⟨w.heap.size + 1, 1, none⟩ (.int .i64 q1.e)).drew = y1
      have F1 : Fr [w.heap.size + 1, w.heap.size + 2] y y1 := hz1 ▸ (((Fr.refl _ y).setCell (Or.inr (by simp)) _).setCell (Or.inr (by simp)) _).drew
      have hA1 : y1.heap[w.heap.size + 1]? = some (.cells #[(.string ⟨q1.s.toArray⟩), (.int .i64 q1.e)] 99 (0, 0)) := hz1 ▸ blk2_set gr.out (.string ⟨q1.s.toArray⟩) (.int .i64 q1.e)
      have hB1 : y1.heap[w.heap.size + 1 + 1]? = some (.cells #[.int .i64 0, .int .u32 0, .string ⟨#[]⟩, .string ⟨#[]⟩] 121 (0, 0)) := hz1 ▸ blk_far (blk_far gs.out (by simp) _) (by simp) _
      have hG1 : Fr [] w y1 := hz1 ▸ ((gf.out.setCell (p := ⟨w.heap.size + 1, 0, none⟩) (Or.inl (by simp)) (.string ⟨q1.s.toArray⟩)).setCell (p := ⟨w.heap.size + 1, 1, none⟩) (Or.inl (by simp)) (.int .i64 q1.e)).drew
      refine hK.out _ _ ⟨F1.cell c0 (by simp), F1.cell c1 (by simp), F1.cell p0 (by simp), F1.cell p1 (by simp), F1.cell p2 (by simp), F1.cell p3 (by simp)⟩ (fun hHeld => ?_)
      clear hK K hz1
      try simp only [Act.put, List.getElem_toArray, List.getElem_cons_succ, List.getElem_cons_zero, List.setIfInBounds_toArray, List.set_cons_zero, List.set_cons_succ]
      obtain ⟨⟨v0, v1, v2, v3⟩, ⟨g0, g1, g2, g3⟩, hg⟩ := blk4_facts hB1
      refine wpAnyH_ready (rs := [3]) (by kernel_rfl) (by simp) ?_
      refine AllReadyH.cons (o := _) rfl (fun K hK => ?_) ?_
      · go_simp
        generalize hz2 : (((y1.setCell ⟨w.heap.size + 1 + 1, 0, none⟩ (.int .i64 id)).setCell ⟨w.heap.size + 1 + 1, 1, none⟩ (.int .u32 0)).setCell ⟨w.heap.size + 1 + 1, 2, none⟩ (.string ⟨n.toArray⟩)).setCell ⟨w.heap.size + 1 + 1, 3, none⟩ (.string ⟨#[]⟩) = y2
        have F2 : Fr [w.heap.size + 1, w.heap.size + 2] y1 y2 := hz2 ▸ ((((Fr.refl _ y1).setCell (Or.inr (by simp)) _).setCell (Or.inr (by simp)) _).setCell (Or.inr (by simp)) _).setCell (Or.inr (by simp)) _
        have hA2 : y2.heap[w.heap.size + 1]? = some (.cells #[(.string ⟨q1.s.toArray⟩), (.int .i64 q1.e)] 99 (0, 0)) := hz2 ▸ blk_far (blk_far (blk_far (blk_far hA1 (by simp) _) (by simp) _) (by simp) _) (by simp) _
        have hB2 : y2.heap[w.heap.size + 1 + 1]? = some (.cells #[(.int .i64 id), (.int .u32 0), (.string ⟨n.toArray⟩), (.string ⟨#[]⟩)] 121 (0, 0)) := hz2 ▸ blk4_set hB1 (.int .i64 id) (.int .u32 0) (.string ⟨n.toArray⟩) (.string ⟨#[]⟩)
        have hle2 : w.heap.size ≤ w.heap.size + 1 + 1 := by omega
        have hG2 : Fr [] w y2 := hz2 ▸ (((hG1.setCell (p := ⟨w.heap.size + 1 + 1, 0, none⟩) (Or.inl hle2) (.int .i64 id)).setCell (p := ⟨w.heap.size + 1 + 1, 1, none⟩) (Or.inl hle2) (.int .u32 0)).setCell (p := ⟨w.heap.size + 1 + 1, 2, none⟩) (Or.inl hle2) (.string ⟨n.toArray⟩)).setCell (p := ⟨w.heap.size + 1 + 1, 3, none⟩) (Or.inl hle2) (.string ⟨#[]⟩)
        have F3 := F1.trans F2 (fun _ _ h => h)
        refine hK.out _ _ ⟨F3.cell c0 (by simp), F3.cell c1 (by simp), F3.cell p0 (by simp), F3.cell p1 (by simp), F3.cell p2 (by simp), F3.cell p3 (by simp)⟩ (fun hHeld => ?_)
        clear hK K hz2
        try simp only [Act.put, List.getElem_toArray, List.getElem_cons_succ, List.getElem_cons_zero, List.setIfInBounds_toArray, List.set_cons_zero, List.set_cons_succ]
        refine wpAnyH_done (by kernel_rfl) ?_ _
        obtain ⟨rr0, rr1, zz0, zz1, hlr2⟩ := blk2_facts hA2
        obtain ⟨⟨ss0, ss1, ss2, ss3⟩, ⟨tt0, tt1, tt2, tt3⟩, hls2⟩ := blk4_facts hB2
        go_wp2
        refine bodyPost_ret (v := .tuple #[.agg #[(.string ⟨q1.s.toArray⟩), (.int .i64 q1.e)], .agg #[(.int .i64 id), (.int .u32 0), (.string ⟨n.toArray⟩), (.string ⟨#[]⟩)]]) (by simp [results, Try.results95, go_sem, rr0, rr1, ss0, ss1, ss2, ss3]) rfl ?_
        rw [HV.out]
        exact ⟨(Pr.mk id 0 n []), rfl, (fun _ => rfl), hn, hG2⟩
      exact AllReadyH.nil
    exact AllReadyH.nil
  · have e1 : (q1.e == 0) = true := by simpa using he
    clear he
    go_wp2_with fail
    refine (rkind_any id _).mono ?_
    rintro _ _ ⟨rfl, rfl⟩
    rw [Hk.out]
    go_wp2
    refine wp_region_held_drew (S := fun w' => w'.cell? ⟨w.heap.size, 0, none⟩ = some (.string ⟨q1.s.toArray⟩) ∧ w'.cell? ⟨w.heap.size, 1, none⟩ = some (.int .i64 q1.e) ∧ w'.cell? ⟨w.heap.size + 3, 0, none⟩ = some (.int .i64 id) ∧ w'.cell? ⟨w.heap.size + 3, 1, none⟩ = some (.int .u32 0) ∧ w'.cell? ⟨w.heap.size + 3, 2, none⟩ = some (.string ⟨n.toArray⟩) ∧ w'.cell? ⟨w.heap.size + 3, 3, none⟩ = some (.string ⟨#[]⟩)) (by kernel_rfl) ⟨c0, c1, p0, p1, p2, p3⟩ (fun hHeld => ?_)
    refine wpAnyH_take (i := 0) (oi := _) (v := ?_) rfl (by kernel_rfl) (by kernel_rfl) (by kernel_rfl) (fun _ _ _ h => h) (Or.inl ⟨by rfl, ?_⟩) hHeld ?_
    rotate_left
    · intro w hSw
      (try dsimp only at hSw)
      go_simp
      try with_reducible rfl
    try simp only [Act.put, List.getElem_toArray, List.getElem_cons_succ, List.getElem_cons_zero, List.setIfInBounds_toArray, List.set_cons_zero, List.set_cons_succ]
    refine wpAnyH_take (i := 1) (oi := _) (v := ?_) rfl (by kernel_rfl) (by kernel_rfl) (by kernel_rfl) (fun _ _ _ h => h) (Or.inl ⟨by rfl, ?_⟩) hHeld ?_
    rotate_left
    · intro w hSw
      (try dsimp only at hSw)
      go_simp
      try with_reducible rfl
    try simp only [Act.put, List.getElem_toArray, List.getElem_cons_succ, List.getElem_cons_zero, List.setIfInBounds_toArray, List.set_cons_zero, List.set_cons_succ]
    refine wpAnyH_ready (rs := [2]) (by kernel_rfl) (by simp) ?_
    refine AllReadyH.cons (o := _) rfl (fun K hK => ?_) ?_
    · go_simp
      generalize hz1 : ((y.setCell ⟨w.heap.size + 1, 0, none⟩ (.string ⟨q1.s.toArray⟩)).setCell ⟨w.heap.size + 1, 1, none⟩ (.int .i64 q1.e)).drew = y1
      have F1 : Fr [w.heap.size + 1, w.heap.size + 2] y y1 := hz1 ▸ (((Fr.refl _ y).setCell (Or.inr (by simp)) _).setCell (Or.inr (by simp)) _).drew
      have hA1 : y1.heap[w.heap.size + 1]? = some (.cells #[(.string ⟨q1.s.toArray⟩), (.int .i64 q1.e)] 99 (0, 0)) := hz1 ▸ blk2_set gr.out (.string ⟨q1.s.toArray⟩) (.int .i64 q1.e)
      have hB1 : y1.heap[w.heap.size + 1 + 1]? = some (.cells #[.int .i64 0, .int .u32 0, .string ⟨#[]⟩, .string ⟨#[]⟩] 121 (0, 0)) := hz1 ▸ blk_far (blk_far gs.out (by simp) _) (by simp) _
      have hG1 : Fr [] w y1 := hz1 ▸ ((gf.out.setCell (p := ⟨w.heap.size + 1, 0, none⟩) (Or.inl (by simp)) (.string ⟨q1.s.toArray⟩)).setCell (p := ⟨w.heap.size + 1, 1, none⟩) (Or.inl (by simp)) (.int .i64 q1.e)).drew
      refine hK.out _ _ ⟨F1.cell c0 (by simp), F1.cell c1 (by simp), F1.cell p0 (by simp), F1.cell p1 (by simp), F1.cell p2 (by simp), F1.cell p3 (by simp)⟩ (fun hHeld => ?_)
      clear hK K hz1
      try simp only [Act.put, List.getElem_toArray, List.getElem_cons_succ, List.getElem_cons_zero, List.setIfInBounds_toArray, List.set_cons_zero, List.set_cons_succ]
      obtain ⟨⟨v0, v1, v2, v3⟩, ⟨g0, g1, g2, g3⟩, hg⟩ := blk4_facts hB1
      refine wpAnyH_ready (rs := [3]) (by kernel_rfl) (by simp) ?_
      refine AllReadyH.cons (o := _) rfl (fun K hK => ?_) ?_
      · go_simp
        generalize hz2 : (((y1.setCell ⟨w.heap.size + 1 + 1, 0, none⟩ (.int .i64 id)).setCell ⟨w.heap.size + 1 + 1, 1, none⟩ (.int .u32 0)).setCell ⟨w.heap.size + 1 + 1, 2, none⟩ (.string ⟨n.toArray⟩)).setCell ⟨w.heap.size + 1 + 1, 3, none⟩ (.string ⟨#[]⟩) = y2
        have F2 : Fr [w.heap.size + 1, w.heap.size + 2] y1 y2 := hz2 ▸ ((((Fr.refl _ y1).setCell (Or.inr (by simp)) _).setCell (Or.inr (by simp)) _).setCell (Or.inr (by simp)) _).setCell (Or.inr (by simp)) _
        have hA2 : y2.heap[w.heap.size + 1]? = some (.cells #[(.string ⟨q1.s.toArray⟩), (.int .i64 q1.e)] 99 (0, 0)) := hz2 ▸ blk_far (blk_far (blk_far (blk_far hA1 (by simp) _) (by simp) _) (by simp) _) (by simp) _
        have hB2 : y2.heap[w.heap.size + 1 + 1]? = some (.cells #[(.int .i64 id), (.int .u32 0), (.string ⟨n.toArray⟩), (.string ⟨#[]⟩)] 121 (0, 0)) := hz2 ▸ blk4_set hB1 (.int .i64 id) (.int .u32 0) (.string ⟨n.toArray⟩) (.string ⟨#[]⟩)
        have hle2 : w.heap.size ≤ w.heap.size + 1 + 1 := by omega
        have hG2 : Fr [] w y2 := hz2 ▸ (((hG1.setCell (p := ⟨w.heap.size + 1 + 1, 0, none⟩) (Or.inl hle2) (.int .i64 id)).setCell (p := ⟨w.heap.size + 1 + 1, 1, none⟩) (Or.inl hle2) (.int .u32 0)).setCell (p := ⟨w.heap.size + 1 + 1, 2, none⟩) (Or.inl hle2) (.string ⟨n.toArray⟩)).setCell (p := ⟨w.heap.size + 1 + 1, 3, none⟩) (Or.inl hle2) (.string ⟨#[]⟩)
        have F3 := F1.trans F2 (fun _ _ h => h)
        refine hK.out _ _ ⟨F3.cell c0 (by simp), F3.cell c1 (by simp), F3.cell p0 (by simp), F3.cell p1 (by simp), F3.cell p2 (by simp), F3.cell p3 (by simp)⟩ (fun hHeld => ?_)
        clear hK K hz2
        try simp only [Act.put, List.getElem_toArray, List.getElem_cons_succ, List.getElem_cons_zero, List.setIfInBounds_toArray, List.set_cons_zero, List.set_cons_succ]
        refine wpAnyH_done (by kernel_rfl) ?_ _
        obtain ⟨rr0, rr1, zz0, zz1, hlr2⟩ := blk2_facts hA2
        obtain ⟨⟨ss0, ss1, ss2, ss3⟩, ⟨tt0, tt1, tt2, tt3⟩, hls2⟩ := blk4_facts hB2
        go_wp2
        refine bodyPost_ret (v := .tuple #[.agg #[(.string ⟨q1.s.toArray⟩), (.int .i64 q1.e)], .agg #[(.int .i64 id), (.int .u32 0), (.string ⟨n.toArray⟩), (.string ⟨#[]⟩)]]) (by simp [results, Try.results95, go_sem, rr0, rr1, ss0, ss1, ss2, ss3]) rfl ?_
        rw [HV.out]
        exact ⟨(Pr.mk id 0 n []), rfl, (fun _ => rfl), hn, hG2⟩
      exact AllReadyH.nil
    exact AllReadyH.nil
set_option maxRecDepth 100000 in
set_option maxHeartbeats 4000000 in
theorem rtake7_pany (q : Rd) (id : Int) (w : World) (hk : (ruleOf id).kind = 7) (hs : q.s.length ≤ 9223372036854775807) :
    Calls Try.prog 95 #[.agg #[.string ⟨q.s.toArray⟩, .int .i64 q.e], .int .i64 id] w (RTakeTo (valR (ruleOf id) id q) w) := by
  have hc := Lib.hid (blk_old (blk_old (blk_old (blk_new w (.cells #[.string ⟨q.s.toArray⟩, .int .i64 q.e] 99)) (.cells #[.string ⟨#[]⟩, .int .i64 0] 99)) (.cells #[.int .i64 0, .int .u32 0, .string ⟨#[]⟩, .string ⟨#[]⟩] 121)) (.cells #[.int .i64 id, .int .u32 0, .string ⟨#[]⟩, .string ⟨#[]⟩] 121))
  have hr := Lib.hid (show ((((w.alloc (.cells #[.string ⟨q.s.toArray⟩, .int .i64 q.e] 99)).alloc (.cells #[.string ⟨#[]⟩, .int .i64 0] 99)).alloc (.cells #[.int .i64 0, .int .u32 0, .string ⟨#[]⟩, .string ⟨#[]⟩] 121)).alloc (.cells #[.int .i64 id, .int .u32 0, .string ⟨#[]⟩, .string ⟨#[]⟩] 121)).heap[w.heap.size + 1]? = some (.cells #[.string ⟨#[]⟩, .int .i64 0] 99 (0, 0)) from blk_old (blk_old (blk_atH _ _ _ (by simp)) _) _)
  have hs2 := Lib.hid (show ((((w.alloc (.cells #[.string ⟨q.s.toArray⟩, .int .i64 q.e] 99)).alloc (.cells #[.string ⟨#[]⟩, .int .i64 0] 99)).alloc (.cells #[.int .i64 0, .int .u32 0, .string ⟨#[]⟩, .string ⟨#[]⟩] 121)).alloc (.cells #[.int .i64 id, .int .u32 0, .string ⟨#[]⟩, .string ⟨#[]⟩] 121)).heap[w.heap.size + 2]? = some (.cells #[.int .i64 0, .int .u32 0, .string ⟨#[]⟩, .string ⟨#[]⟩] 121 (0, 0)) from blk_old (blk_atH _ _ _ (by simp)) _)
  have hp := Lib.hid (show ((((w.alloc (.cells #[.string ⟨q.s.toArray⟩, .int .i64 q.e] 99)).alloc (.cells #[.string ⟨#[]⟩, .int .i64 0] 99)).alloc (.cells #[.int .i64 0, .int .u32 0, .string ⟨#[]⟩, .string ⟨#[]⟩] 121)).alloc (.cells #[.int .i64 id, .int .u32 0, .string ⟨#[]⟩, .string ⟨#[]⟩] 121)).heap[w.heap.size + 3]? = some (.cells #[.int .i64 id, .int .u32 0, .string ⟨#[]⟩, .string ⟨#[]⟩] 121 (0, 0)) from blk_atH _ _ _ (by simp))
  have hf := Lib.hid (show Fr [] w ((((w.alloc (.cells #[.string ⟨q.s.toArray⟩, .int .i64 q.e] 99)).alloc (.cells #[.string ⟨#[]⟩, .int .i64 0] 99)).alloc (.cells #[.int .i64 0, .int .u32 0, .string ⟨#[]⟩, .string ⟨#[]⟩] 121)).alloc (.cells #[.int .i64 id, .int .u32 0, .string ⟨#[]⟩, .string ⟨#[]⟩] 121)) from ((((Fr.refl [] w).alloc _).alloc _).alloc _).alloc _)
  have Hk := Lib.hid hk
  clear hk
  have HV0 := Lib.hid (show valR (ruleOf id) id q = (⟨id, 0, q.pair.1.1, q.pair.1.2⟩, q.pair.2) from by unfold valR; simp only [Hk.out]; rfl)
  have HP := Lib.hid (show q.pair = (if q.str.2.str.2.e = 0 then ((q.str.1, q.str.2.str.1), q.str.2.str.2) else (([], []), q.str.2.str.2)) from rfl)
  have hsl := Rd.str_left q
  obtain ⟨⟨n, q0⟩, hq⟩ : ∃ y, q.str = y := ⟨_, rfl⟩
  rw [hq] at HP hsl
  dsimp only at HP hsl
  obtain ⟨⟨m, q1⟩, hq1⟩ : ∃ y, q0.str = y := ⟨_, rfl⟩
  rw [hq1] at HP
  dsimp only at HP
  have hn : 0 < 4294967296 := by decide
  go_enter Try.func95, Try.ntmps95
  go_wp2_with fail
  refine (rkind_any id _).mono ?_
  rintro _ wa ⟨rfl, hwa⟩
  rw [Hk.out]
  rw [hwa] at hc hr hs2 hp hf
  clear hwa
  obtain ⟨c0, c1, f0, f1, hlc⟩ := blk2_facts hc.out
  go_wp2_with fail
  refine (rtake_any q _ hs).mono ?_
  rintro _ x0 ⟨rfl, hx0⟩
  rw [hq]
  clear c0 c1 f0 f1 hlc
  obtain ⟨c0, c1, f0, f1, hlc⟩ := blk2_facts (hx0.blk hc.out (by simp))
  go_wp2_with fail
  refine (rtake_any q0 _ (by omega)).mono ?_
  rintro _ x1 ⟨rfl, hx1⟩
  rw [hq1]
  have hx : Fr [] wa x1 := (hx0.alloc _).trans hx1 (by simp)
  clear hx0 hx1
  have hc2 := hx.blk hc.out (by simp)
  have hr2 := hx.blk hr.out (by simp)
  have hs3 := hx.blk hs2.out (by simp)
  have hp2 := hx.blk hp.out (by simp)
  have hf2 := hf.out.trans hx (by simp)
  clear c0 c1 f0 f1 hlc
  obtain ⟨c0, c1, f0, f1, hlc⟩ := blk2_facts hc2
  obtain ⟨⟨p0, p1, p2, p3⟩, ⟨k0, k1, k2, k3⟩, hlp⟩ := blk4_facts hp2
  have gc := Lib.hid (blk_old (blk_far (p := ⟨w.heap.size + 3, 3, none⟩) (blk_far (p := ⟨w.heap.size + 3, 2, none⟩) (blk2_set hc2 (.string ⟨q1.s.toArray⟩) (.int .i64 q1.e)) (by simp) (.string ⟨n.toArray⟩)) (by simp) (.string ⟨m.toArray⟩)) (.cells #[.string ⟨q1.s.toArray⟩, .int .i64 q1.e] 99))
  have gp := Lib.hid (blk_old (blk_set (blk_set (blk_far (p := ⟨w.heap.size, 1, none⟩) (blk_far (p := ⟨w.heap.size, 0, none⟩) hp2 (by simp) (.string ⟨q1.s.toArray⟩)) (by simp) (.int .i64 q1.e)) 2 (.string ⟨n.toArray⟩)) 3 (.string ⟨m.toArray⟩)) (.cells #[.string ⟨q1.s.toArray⟩, .int .i64 q1.e] 99))
  have gr := Lib.hid (blk_old (blk_far (p := ⟨w.heap.size + 3, 3, none⟩) (blk_far (p := ⟨w.heap.size + 3, 2, none⟩) (blk_far (p := ⟨w.heap.size, 1, none⟩) (blk_far (p := ⟨w.heap.size, 0, none⟩) hr2 (by simp) (.string ⟨q1.s.toArray⟩)) (by simp) (.int .i64 q1.e)) (by simp) (.string ⟨n.toArray⟩)) (by simp) (.string ⟨m.toArray⟩)) (.cells #[.string ⟨q1.s.toArray⟩, .int .i64 q1.e] 99))
  have gs := Lib.hid (blk_old (blk_far (p := ⟨w.heap.size + 3, 3, none⟩) (blk_far (p := ⟨w.heap.size + 3, 2, none⟩) (blk_far (p := ⟨w.heap.size, 1, none⟩) (blk_far (p := ⟨w.heap.size, 0, none⟩) hs3 (by simp) (.string ⟨q1.s.toArray⟩)) (by simp) (.int .i64 q1.e)) (by simp) (.string ⟨n.toArray⟩)) (by simp) (.string ⟨m.toArray⟩)) (.cells #[.string ⟨q1.s.toArray⟩, .int .i64 q1.e] 99))
  have gf := Lib.hid (((((hf2.setCell (p := ⟨w.heap.size, 0, none⟩) (Or.inl (by simp)) (.string ⟨q1.s.toArray⟩)).setCell (p := ⟨w.heap.size, 1, none⟩) (Or.inl (by simp)) (.int .i64 q1.e)).setCell (p := ⟨w.heap.size + 3, 2, none⟩) (Or.inl (by simp)) (.string ⟨n.toArray⟩)).setCell (p := ⟨w.heap.size + 3, 3, none⟩) (Or.inl (by simp)) (.string ⟨m.toArray⟩)).alloc (.cells #[.string ⟨q1.s.toArray⟩, .int .i64 q1.e] 99))
  clear hc2 hr2 hs3 hp2 hf2 hx hc hr hs2 hp hf
  go_upto_region 27 with (fail)
  obtain ⟨y, hy⟩ : ∃ y, ((((x1.setCell ⟨w.heap.size, 0, none⟩ (.string ⟨q1.s.toArray⟩)).setCell ⟨w.heap.size, 1, none⟩ (.int .i64 q1.e)).setCell ⟨w.heap.size + 3, 2, none⟩ (.string ⟨n.toArray⟩)).setCell ⟨w.heap.size + 3, 3, none⟩ (.string ⟨m.toArray⟩)).alloc (.cells #[.string ⟨q1.s.toArray⟩, .int .i64 q1.e] 99) = y := ⟨_, rfl⟩
  rw [hy] at gc gp gr gs gf ⊢
  clear hy c0 c1 f0 f1 hlc p0 p1 p2 p3 k0 k1 k2 k3 hlp
  obtain ⟨c0, c1, f0, f1, hlc⟩ := blk2_facts gc.out
  obtain ⟨⟨p0, p1, p2, p3⟩, ⟨k0, k1, k2, k3⟩, hlp⟩ := blk4_facts gp.out
  obtain ⟨r0, r1, z0, z1, hlr⟩ := blk2_facts gr.out
  obtain ⟨⟨s0, s1, s2, s3⟩, ⟨t0, t1, t2, t3⟩, hls⟩ := blk4_facts gs.out
  by_cases he : q1.e = 0
  rotate_left
  · have e1 : (q1.e == 0) = false := by simpa using he
    have HV := Lib.hid (HV0.out.trans (by rw [HP.out, if_neg he]))
    have HE := Lib.hid he
    clear he
    go_wp2
    refine wp_region_held_drew (S := fun w' => w'.cell? ⟨w.heap.size, 0, none⟩ = some (.string ⟨q1.s.toArray⟩) ∧ w'.cell? ⟨w.heap.size, 1, none⟩ = some (.int .i64 q1.e) ∧ w'.cell? ⟨w.heap.size + 3, 0, none⟩ = some (.int .i64 id) ∧ w'.cell? ⟨w.heap.size + 3, 1, none⟩ = some (.int .u32 0) ∧ w'.cell? ⟨w.heap.size + 3, 2, none⟩ = some (.string ⟨n.toArray⟩) ∧ w'.cell? ⟨w.heap.size + 3, 3, none⟩ = some (.string ⟨m.toArray⟩)) (by kernel_rfl) ⟨c0, c1, p0, p1, p2, p3⟩ (fun hHeld => ?_)
    refine wpAnyH_take (i := 0) (oi := _) (v := ?_) rfl (by kernel_rfl) (by kernel_rfl) (by kernel_rfl) (fun _ _ _ h => h) (Or.inl ⟨by rfl, ?_⟩) hHeld ?_
    rotate_left
    · intro w hSw
      (try dsimp only at hSw)
      go_simp
      try with_reducible rfl
    try simp only [Act.put, List.getElem_toArray, List.getElem_cons_succ, List.getElem_cons_zero, List.setIfInBounds_toArray, List.set_cons_zero, List.set_cons_succ]
    refine wpAnyH_take (i := 1) (oi := _) (v := ?_) rfl (by kernel_rfl) (by kernel_rfl) (by kernel_rfl) (fun _ _ _ h => h) (Or.inl ⟨by rfl, ?_⟩) hHeld ?_
    rotate_left
    · intro w hSw
      (try dsimp only at hSw)
      go_simp
      try with_reducible rfl
    try simp only [Act.put, List.getElem_toArray, List.getElem_cons_succ, List.getElem_cons_zero, List.setIfInBounds_toArray, List.set_cons_zero, List.set_cons_succ]
    refine wpAnyH_ready (rs := [2]) (by kernel_rfl) (by simp) ?_
    refine AllReadyH.cons (o := _) rfl (fun K hK => ?_) ?_
    · go_simp
      generalize hz1 : ((y.setCell ⟨w.heap.size + 1, 0, none⟩ (.string ⟨q1.s.toArray⟩)).setCell ⟨w.heap.size + 1, 1, none⟩ (.int .i64 q1.e)).drew = y1
      have F1 : Fr [w.heap.size + 1, w.heap.size + 2] y y1 := hz1 ▸ (((Fr.refl _ y).setCell (Or.inr (by simp)) _).setCell (Or.inr (by simp)) _).drew
      have hA1 : y1.heap[w.heap.size + 1]? = some (.cells #[(.string ⟨q1.s.toArray⟩), (.int .i64 q1.e)] 99 (0, 0)) := hz1 ▸ blk2_set gr.out (.string ⟨q1.s.toArray⟩) (.int .i64 q1.e)
      have hB1 : y1.heap[w.heap.size + 1 + 1]? = some (.cells #[.int .i64 0, .int .u32 0, .string ⟨#[]⟩, .string ⟨#[]⟩] 121 (0, 0)) := hz1 ▸ blk_far (blk_far gs.out (by simp) _) (by simp) _
      have hG1 : Fr [] w y1 := hz1 ▸ ((gf.out.setCell (p := ⟨w.heap.size + 1, 0, none⟩) (Or.inl (by simp)) (.string ⟨q1.s.toArray⟩)).setCell (p := ⟨w.heap.size + 1, 1, none⟩) (Or.inl (by simp)) (.int .i64 q1.e)).drew
      refine hK.out _ _ ⟨F1.cell c0 (by simp), F1.cell c1 (by simp), F1.cell p0 (by simp), F1.cell p1 (by simp), F1.cell p2 (by simp), F1.cell p3 (by simp)⟩ (fun hHeld => ?_)
      clear hK K hz1
      try simp only [Act.put, List.getElem_toArray, List.getElem_cons_succ, List.getElem_cons_zero, List.setIfInBounds_toArray, List.set_cons_zero, List.set_cons_succ]
      obtain ⟨⟨v0, v1, v2, v3⟩, ⟨g0, g1, g2, g3⟩, hg⟩ := blk4_facts hB1
      refine wpAnyH_ready (rs := [3]) (by kernel_rfl) (by simp) ?_
      refine AllReadyH.cons (o := _) rfl (fun K hK => ?_) ?_
      · go_simp
        generalize hz2 : (((y1.setCell ⟨w.heap.size + 1 + 1, 0, none⟩ (.int .i64 id)).setCell ⟨w.heap.size + 1 + 1, 1, none⟩ (.int .u32 0)).setCell ⟨w.heap.size + 1 + 1, 2, none⟩ (.string ⟨n.toArray⟩)).setCell ⟨w.heap.size + 1 + 1, 3, none⟩ (.string ⟨m.toArray⟩) = y2
        have F2 : Fr [w.heap.size + 1, w.heap.size + 2] y1 y2 := hz2 ▸ ((((Fr.refl _ y1).setCell (Or.inr (by simp)) _).setCell (Or.inr (by simp)) _).setCell (Or.inr (by simp)) _).setCell (Or.inr (by simp)) _
        have hA2 : y2.heap[w.heap.size + 1]? = some (.cells #[(.string ⟨q1.s.toArray⟩), (.int .i64 q1.e)] 99 (0, 0)) := hz2 ▸ blk_far (blk_far (blk_far (blk_far hA1 (by simp) _) (by simp) _) (by simp) _) (by simp) _
        have hB2 : y2.heap[w.heap.size + 1 + 1]? = some (.cells #[(.int .i64 id), (.int .u32 0), (.string ⟨n.toArray⟩), (.string ⟨m.toArray⟩)] 121 (0, 0)) := hz2 ▸ blk4_set hB1 (.int .i64 id) (.int .u32 0) (.string ⟨n.toArray⟩) (.string ⟨m.toArray⟩)
        have hle2 : w.heap.size ≤ w.heap.size + 1 + 1 := by omega
        have hG2 : Fr [] w y2 := hz2 ▸ (((hG1.setCell (p := ⟨w.heap.size + 1 + 1, 0, none⟩) (Or.inl hle2) (.int .i64 id)).setCell (p := ⟨w.heap.size + 1 + 1, 1, none⟩) (Or.inl hle2) (.int .u32 0)).setCell (p := ⟨w.heap.size + 1 + 1, 2, none⟩) (Or.inl hle2) (.string ⟨n.toArray⟩)).setCell (p := ⟨w.heap.size + 1 + 1, 3, none⟩) (Or.inl hle2) (.string ⟨m.toArray⟩)
        have F3 := F1.trans F2 (fun _ _ h => h)
        refine hK.out _ _ ⟨F3.cell c0 (by simp), F3.cell c1 (by simp), F3.cell p0 (by simp), F3.cell p1 (by simp), F3.cell p2 (by simp), F3.cell p3 (by simp)⟩ (fun hHeld => ?_)
        clear hK K hz2
        try simp only [Act.put, List.getElem_toArray, List.getElem_cons_succ, List.getElem_cons_zero, List.setIfInBounds_toArray, List.set_cons_zero, List.set_cons_succ]
        refine wpAnyH_done (by kernel_rfl) ?_ _
        obtain ⟨rr0, rr1, zz0, zz1, hlr2⟩ := blk2_facts hA2
        obtain ⟨⟨ss0, ss1, ss2, ss3⟩, ⟨tt0, tt1, tt2, tt3⟩, hls2⟩ := blk4_facts hB2
        go_wp2
        refine bodyPost_ret (v := .tuple #[.agg #[(.string ⟨q1.s.toArray⟩), (.int .i64 q1.e)], .agg #[(.int .i64 id), (.int .u32 0), (.string ⟨n.toArray⟩), (.string ⟨m.toArray⟩)]]) (by simp [results, Try.results95, go_sem, rr0, rr1, ss0, ss1, ss2, ss3]) rfl ?_
        rw [HV.out]
        exact ⟨(Pr.mk id 0 n m), rfl, (fun h => absurd h HE.out), hn, hG2⟩
      exact AllReadyH.nil
    exact AllReadyH.nil
  · have e1 : (q1.e == 0) = true := by simpa using he
    have HV := Lib.hid (HV0.out.trans (by rw [HP.out, if_pos he]))
    clear he
    go_wp2_with fail
    refine (rkind_any id _).mono ?_
    rintro _ _ ⟨rfl, rfl⟩
    rw [Hk.out]
    go_wp2
    refine wp_region_held_drew (S := fun w' => w'.cell? ⟨w.heap.size, 0, none⟩ = some (.string ⟨q1.s.toArray⟩) ∧ w'.cell? ⟨w.heap.size, 1, none⟩ = some (.int .i64 q1.e) ∧ w'.cell? ⟨w.heap.size + 3, 0, none⟩ = some (.int .i64 id) ∧ w'.cell? ⟨w.heap.size + 3, 1, none⟩ = some (.int .u32 0) ∧ w'.cell? ⟨w.heap.size + 3, 2, none⟩ = some (.string ⟨n.toArray⟩) ∧ w'.cell? ⟨w.heap.size + 3, 3, none⟩ = some (.string ⟨m.toArray⟩)) (by kernel_rfl) ⟨c0, c1, p0, p1, p2, p3⟩ (fun hHeld => ?_)
    refine wpAnyH_take (i := 0) (oi := _) (v := ?_) rfl (by kernel_rfl) (by kernel_rfl) (by kernel_rfl) (fun _ _ _ h => h) (Or.inl ⟨by rfl, ?_⟩) hHeld ?_
    rotate_left
    · intro w hSw
      (try dsimp only at hSw)
      go_simp
      try with_reducible rfl
    try simp only [Act.put, List.getElem_toArray, List.getElem_cons_succ, List.getElem_cons_zero, List.setIfInBounds_toArray, List.set_cons_zero, List.set_cons_succ]
    refine wpAnyH_take (i := 1) (oi := _) (v := ?_) rfl (by kernel_rfl) (by kernel_rfl) (by kernel_rfl) (fun _ _ _ h => h) (Or.inl ⟨by rfl, ?_⟩) hHeld ?_
    rotate_left
    · intro w hSw
      (try dsimp only at hSw)
      go_simp
      try with_reducible rfl
    try simp only [Act.put, List.getElem_toArray, List.getElem_cons_succ, List.getElem_cons_zero, List.setIfInBounds_toArray, List.set_cons_zero, List.set_cons_succ]
    refine wpAnyH_ready (rs := [2]) (by kernel_rfl) (by simp) ?_
    refine AllReadyH.cons (o := _) rfl (fun K hK => ?_) ?_
    · go_simp
      generalize hz1 : ((y.setCell ⟨w.heap.size + 1, 0, none⟩ (.string ⟨q1.s.toArray⟩)).setCell ⟨w.heap.size + 1, 1, none⟩ (.int .i64 q1.e)).drew = y1
      have F1 : Fr [w.heap.size + 1, w.heap.size + 2] y y1 := hz1 ▸ (((Fr.refl _ y).setCell (Or.inr (by simp)) _).setCell (Or.inr (by simp)) _).drew
      have hA1 : y1.heap[w.heap.size + 1]? = some (.cells #[(.string ⟨q1.s.toArray⟩), (.int .i64 q1.e)] 99 (0, 0)) := hz1 ▸ blk2_set gr.out (.string ⟨q1.s.toArray⟩) (.int .i64 q1.e)
      have hB1 : y1.heap[w.heap.size + 1 + 1]? = some (.cells #[.int .i64 0, .int .u32 0, .string ⟨#[]⟩, .string ⟨#[]⟩] 121 (0, 0)) := hz1 ▸ blk_far (blk_far gs.out (by simp) _) (by simp) _
      have hG1 : Fr [] w y1 := hz1 ▸ ((gf.out.setCell (p := ⟨w.heap.size + 1, 0, none⟩) (Or.inl (by simp)) (.string ⟨q1.s.toArray⟩)).setCell (p := ⟨w.heap.size + 1, 1, none⟩) (Or.inl (by simp)) (.int .i64 q1.e)).drew
      refine hK.out _ _ ⟨F1.cell c0 (by simp), F1.cell c1 (by simp), F1.cell p0 (by simp), F1.cell p1 (by simp), F1.cell p2 (by simp), F1.cell p3 (by simp)⟩ (fun hHeld => ?_)
      clear hK K hz1
      try simp only [Act.put, List.getElem_toArray, List.getElem_cons_succ, List.getElem_cons_zero, List.setIfInBounds_toArray, List.set_cons_zero, List.set_cons_succ]
      obtain ⟨⟨v0, v1, v2, v3⟩, ⟨g0, g1, g2, g3⟩, hg⟩ := blk4_facts hB1
      refine wpAnyH_ready (rs := [3]) (by kernel_rfl) (by simp) ?_
      refine AllReadyH.cons (o := _) rfl (fun K hK => ?_) ?_
      · go_simp
        generalize hz2 : (((y1.setCell ⟨w.heap.size + 1 + 1, 0, none⟩ (.int .i64 id)).setCell ⟨w.heap.size + 1 + 1, 1, none⟩ (.int .u32 0)).setCell ⟨w.heap.size + 1 + 1, 2, none⟩ (.string ⟨n.toArray⟩)).setCell ⟨w.heap.size + 1 + 1, 3, none⟩ (.string ⟨m.toArray⟩) = y2
        have F2 : Fr [w.heap.size + 1, w.heap.size + 2] y1 y2 := hz2 ▸ ((((Fr.refl _ y1).setCell (Or.inr (by simp)) _).setCell (Or.inr (by simp)) _).setCell (Or.inr (by simp)) _).setCell (Or.inr (by simp)) _
        have hA2 : y2.heap[w.heap.size + 1]? = some (.cells #[(.string ⟨q1.s.toArray⟩), (.int .i64 q1.e)] 99 (0, 0)) := hz2 ▸ blk_far (blk_far (blk_far (blk_far hA1 (by simp) _) (by simp) _) (by simp) _) (by simp) _
        have hB2 : y2.heap[w.heap.size + 1 + 1]? = some (.cells #[(.int .i64 id), (.int .u32 0), (.string ⟨n.toArray⟩), (.string ⟨m.toArray⟩)] 121 (0, 0)) := hz2 ▸ blk4_set hB1 (.int .i64 id) (.int .u32 0) (.string ⟨n.toArray⟩) (.string ⟨m.toArray⟩)
        have hle2 : w.heap.size ≤ w.heap.size + 1 + 1 := by omega
        have hG2 : Fr [] w y2 := hz2 ▸ (((hG1.setCell (p := ⟨w.heap.size + 1 + 1, 0, none⟩) (Or.inl hle2) (.int .i64 id)).setCell (p := ⟨w.heap.size + 1 + 1, 1, none⟩) (Or.inl hle2) (.int .u32 0)).setCell (p := ⟨w.heap.size + 1 + 1, 2, none⟩) (Or.inl hle2) (.string ⟨n.toArray⟩)).setCell (p := ⟨w.heap.size + 1 + 1, 3, none⟩) (Or.inl hle2) (.string ⟨m.toArray⟩)
        have F3 := F1.trans F2 (fun _ _ h => h)
        refine hK.out _ _ ⟨F3.cell c0 (by simp), F3.cell c1 (by simp), F3.cell p0 (by simp), F3.cell p1 (by simp), F3.cell p2 (by simp), F3.cell p3 (by simp)⟩ (fun hHeld => ?_)
        clear hK K hz2
        try simp only [Act.put, List.getElem_toArray, List.getElem_cons_succ, List.getElem_cons_zero, List.setIfInBounds_toArray, List.set_cons_zero, List.set_cons_succ]
        refine wpAnyH_done (by kernel_rfl) ?_ _
        obtain ⟨rr0, rr1, zz0, zz1, hlr2⟩ := blk2_facts hA2
        obtain ⟨⟨ss0, ss1, ss2, ss3⟩, ⟨tt0, tt1, tt2, tt3⟩, hls2⟩ := blk4_facts hB2
        go_wp2
        refine bodyPost_ret (v := .tuple #[.agg #[(.string ⟨q1.s.toArray⟩), (.int .i64 q1.e)], .agg #[(.int .i64 id), (.int .u32 0), (.string ⟨n.toArray⟩), (.string ⟨m.toArray⟩)]]) (by simp [results, Try.results95, go_sem, rr0, rr1, ss0, ss1, ss2, ss3]) rfl ?_
        rw [HV.out]
        exact ⟨(Pr.mk id 0 n m), rfl, (fun _ => rfl), hn, hG2⟩
      exact AllReadyH.nil
    exact AllReadyH.nil
theorem rtakep_any (q : Rd) (id : Int) (w : World) (hk : 1 ≤ (ruleOf id).kind) (hs : q.s.length ≤ 9223372036854775807) :
    Calls Try.prog 95 #[.agg #[.string ⟨q.s.toArray⟩, .int .i64 q.e], .int .i64 id] w (RTakeTo (valR (ruleOf id) id q) w) := by
  have h7 := (ruleOf_cases id).2.2.1
  by_cases k1 : (ruleOf id).kind = 1
  · exact rtake1_pany q id w k1 hs
  by_cases k2 : (ruleOf id).kind = 2
  · exact rtake2_pany q id w k2 hs
  by_cases k3 : (ruleOf id).kind = 3
  · exact rtake3_pany q id w k3 hs
  by_cases k4 : (ruleOf id).kind = 4
  · exact rtake4_pany q id w k4 hs
  by_cases k5 : (ruleOf id).kind = 5
  · exact rtake5_pany q id w k5 hs
  by_cases k6 : (ruleOf id).kind = 6
  · exact rtake6_pany q id w k6 hs
  by_cases k7 : (ruleOf id).kind = 7
  · exact rtake7_pany q id w k7 hs
  omega
end Go.Proofs.Ythioageiebchlaa
namespace Go.Proofs.Ythioageiebchlaa
open Go.RowKit

set_option maxHeartbeats 1000000 in
theorem has_any (v : Value) (l : List Pr) (id : Int) (w : World) (hv : View w v l.length (l.flatMap prE)) (hl : l.length ≤ 9223372036854775807) :
    Calls Try.prog 94 #[v, .int .i64 id] w fun e w' => e = .returned (.bool (getR l id).2) ∧ Fr [] w w' := by
  by_cases h0 : l.length = 0
  · obtain rfl : l = [] := List.eq_nil_of_length_eq_zero h0
    obtain ⟨A, c, rfl, _⟩ := hv
    go_enter Try.func94, Try.ntmps94
    go_wp2
    go_rounds 1
    all_goals
      go_wp2
      go_ret
      exact ⟨rfl, Fr.refl _ _⟩
  obtain ⟨b, off, c, rfl, hb, hc⟩ := hv.at prE_len (by decide) (by omega)
  have HC := Lib.hid hc
  clear hc hv h0
  go_enter Try.func94, Try.ntmps94
  go_wp2
  go_loopw [9] (fun i wr => ∃ k : Nat, i = .int .i64 k ∧ k ≤ l.length ∧ Hid (∀ x ∈ l.take k, x.id ≠ id) ∧ Fr [] w wr) (fun i _ => l.length - (intOf i).toNat)
  case atStart => exact ⟨0, rfl, by omega, Lib.hid (by simp), Fr.refl _ _⟩
  case round =>
    obtain ⟨k, rfl, hk, HN, hfr⟩ := hrel
    have HF := Lib.hid hfr
    clear hfr
    by_cases hlt : k < l.length
    · have hcell := HC.out k hlt
      have hat := fun h => getR_at l id k hlt HN.out h
      have hst : Hid (l[k].id ≠ id → ∀ x ∈ l.take (k + 1), x.id ≠ id) := Lib.hid (fun hne x hx => by
        rw [List.take_succ_eq_append_getElem hlt] at hx
        rcases List.mem_append.1 hx with hx | hx
        · exact HN.out x hx
        · rw [List.mem_singleton.1 hx]; exact hne)
      generalize l[k] = x at *
      obtain ⟨xi, xn, xs, xt⟩ := x
      have c0 : wr.cell? ⟨b, off + k * 4, none⟩ = some (.int .i64 xi) := HF.out.cell (hcell 0 _ rfl) (by simp)
      have c1 : wr.cell? ⟨b, off + k * 4 + 1, none⟩ = some (.int .u32 xn) := HF.out.cell (hcell 1 _ rfl) (by simp)
      have c2 : wr.cell? ⟨b, off + k * 4 + 2, none⟩ = some (.string ⟨xs.toArray⟩) := HF.out.cell (hcell 2 _ rfl) (by simp)
      have c3 : wr.cell? ⟨b, off + k * 4 + 3, none⟩ = some (.string ⟨xt.toArray⟩) := HF.out.cell (hcell 3 _ rfl) (by simp)
      have Hat := Lib.hid hat
      clear hcell hat
      dsimp only at Hat hst
      by_cases he : xi = id
      · have HG := Lib.hid (Hat.out he)
        have he1 : (xi == id) = true := by simpa using he
        clear he
        go_wp2
        go_ret
        rw [HG.out]
        exact ⟨rfl, HF.out.alloc _⟩
      · have he1 : (xi == id) = false := by simpa using he
        have HS := Lib.hid (hst.out he)
        clear he
        go_wp2
        go_roundw
        case rel => exact ⟨k + 1, by go_num, by omega, HS, HF.out.alloc _⟩
        case measure => simp [intOf]; omega
    · have HG := Lib.hid (getR_no l id (by have := HN.out; rwa [List.take_of_length_le (by omega)] at this))
      go_wp2
      go_ret
      rw [HG.out]
      exact ⟨rfl, HF.out⟩
theorem Try.infoRPr : (Try.prog.info? 121).map (fun i => (i.zero, i.size, i.bytes)) = some (some (.agg #[.int .i64 0, .int .u32 0, .string ⟨#[]⟩, .string ⟨#[]⟩]), 4, 48) := by kernel_rfl
def RPTakeTo (R : List Pr × Rd) (w : World) (e : Ending) (w' : World) : Prop :=
  ∃ v', e = .returned (.tuple #[.agg #[.string ⟨R.2.s.toArray⟩, .int .i64 R.2.e], v']) ∧ w'.ownsRow w.heap.size 121 4 v' R.1.length (R.1.flatMap prE) ∧ Fr [] w w'
theorem ploop_any (kind : Int) (isWill : Bool) (S : List UInt8) (l : List Pr) (p p' : Pr) (q : Rd) (h : PLoop kind isWill S (l ++ [p]) q) (hp : q.e = 0 → p' = p) : PLoop kind isWill S (l ++ [p']) q := by
  by_cases he : q.e = 0
  · rw [hp he]; exact h
  · obtain ⟨h1, _, h3⟩ := h
    obtain ⟨h4, h5⟩ := h3 he
    exact ⟨h1, fun h => absurd h he, fun _ => ⟨by simp at h4 ⊢; omega, h5⟩⟩
theorem takeP_err {r : Rd} {kind : Int} {isWill : Bool} {S : List UInt8} {u : Rd} {qe : Int} (h : takeP r kind isWill = if (propsGo kind isWill S.length ⟨S, 0⟩ []).2.e = 0 then ((propsGo kind isWill S.length ⟨S, 0⟩ []).1, u)
    else ([], u.fail (if (propsGo kind isWill S.length ⟨S, 0⟩ []).2.e = 1 then 2 else (propsGo kind isWill S.length ⟨S, 0⟩ []).2.e))) (hu : u.e = 0) (he : (propsGo kind isWill S.length ⟨S, 0⟩ []).2.e = qe) (hq : qe ≠ 0) : takeP r kind isWill = ([], ⟨u.s, if qe = 1 then 2 else qe⟩) := by
  rw [h, he, if_neg hq, Rd.fail, if_pos hu]
theorem takeP_end {r : Rd} {kind : Int} {isWill : Bool} {S : List UInt8} {u : Rd} {l : List Pr} {q : Rd} (h : takeP r kind isWill = if (propsGo kind isWill S.length ⟨S, 0⟩ []).2.e = 0 then ((propsGo kind isWill S.length ⟨S, 0⟩ []).1, u)
    else ([], u.fail (if (propsGo kind isWill S.length ⟨S, 0⟩ []).2.e = 1 then 2 else (propsGo kind isWill S.length ⟨S, 0⟩ []).2.e))) (he : propsGo kind isWill S.length ⟨S, 0⟩ [] = (l, q) ∧ q.e = 0) : takeP r kind isWill = (l, u) := by
  rw [h, he.1, if_pos he.2]
def stop (kind : Int) (isWill : Bool) (S : List UInt8) (l : List Pr) (q : Rd) : Prop := (q.e = 0 → propsGo kind isWill S.length ⟨S, 0⟩ [] = (l, q)) ∧ (q.e ≠ 0 → (propsGo kind isWill S.length ⟨S, 0⟩ []).2.e = q.e)
set_option maxRecDepth 100000 in
set_option maxHeartbeats 4000000 in
theorem rprops_any (r : Rd) (kind : Int) (isWill : Bool) (w : World) (hs : r.s.length ≤ 1000000) :
    Calls Try.prog 73 #[.agg #[.string ⟨r.s.toArray⟩, .int .i64 r.e], .int .i64 kind, .bool isWill] w (RPTakeTo (takeP r kind isWill) w) := by
  obtain ⟨i0, hi, hz0, hz1, hz2⟩ := info_parts Try.infoRPr
  have hc := Lib.hid (blk_old (blk_new w (.cells #[.string ⟨r.s.toArray⟩, .int .i64 r.e] 99)) (.cells #[.string ⟨#[]⟩, .int .i64 0] 99))
  have hr := Lib.hid (show ((w.alloc (.cells #[.string ⟨r.s.toArray⟩, .int .i64 r.e] 99)).alloc (.cells #[.string ⟨#[]⟩, .int .i64 0] 99)).heap[w.heap.size + 1]? = some (.cells #[.string ⟨#[]⟩, .int .i64 0] 99 (0, 0)) from blk_atH _ _ _ (by simp))
  have hf : Fr [] w ((w.alloc (.cells #[.string ⟨r.s.toArray⟩, .int .i64 r.e] 99)).alloc (.cells #[.string ⟨#[]⟩, .int .i64 0] 99)) := ((Fr.refl [] w).alloc _).alloc _
  go_enter Try.func73, Try.ntmps73
  go_wp2_with fail
  refine (rtakevar_any r _ (by omega)).mono ?_
  rintro _ w1 ⟨rfl, g1⟩
  have hv0 := var_lt32 r
  have hvl := var_left r
  have hc1 := g1.blk hc.out (by simp)
  have hr1 := g1.blk hr.out (by simp)
  have hf1 := hf.trans g1 (by simp)
  have hu := Rd.raw_left r.var.2 r.var.1
  have hur := Rd.raw_le r.var.2 r.var.1
  have HT : Hid (takeP r kind isWill = if (r.var.2.raw r.var.1).2.e ≠ 0 then ([], (r.var.2.raw r.var.1).2)
    else if (propsGo kind isWill (r.var.2.raw r.var.1).1.length ⟨(r.var.2.raw r.var.1).1, 0⟩ []).2.e = 0 then ((propsGo kind isWill (r.var.2.raw r.var.1).1.length ⟨(r.var.2.raw r.var.1).1, 0⟩ []).1, (r.var.2.raw r.var.1).2)
    else ([], (r.var.2.raw r.var.1).2.fail (if (propsGo kind isWill (r.var.2.raw r.var.1).1.length ⟨(r.var.2.raw r.var.1).1, 0⟩ []).2.e = 1 then 2 else (propsGo kind isWill (r.var.2.raw r.var.1).1.length ⟨(r.var.2.raw r.var.1).1, 0⟩ []).2.e))) := Lib.hid rfl
  clear hc hr hf g1
  obtain ⟨⟨nv, qv⟩, hqv⟩ : ∃ x, r.var = x := ⟨_, rfl⟩
  rw [hqv] at hv0 hvl hu hur HT ⊢
  dsimp only at hv0 hvl hu hur HT ⊢
  clear hqv
  obtain ⟨c0, c1, f0, f1, _⟩ := blk2_facts hc1
  go_wp2_with fail
  refine (rraw_any qv nv _ (by omega)).mono ?_
  rintro _ w2 ⟨rfl, g2⟩
  rw [Int.toNat_natCast]
  have hc2 := g2.blk (blk2_set hc1 (.string ⟨qv.s.toArray⟩) (.int .i64 qv.e)) (by simp)
  have hr2 := g2.blk (blk_far (p := ⟨w.heap.size, 1, none⟩) (blk_far (p := ⟨w.heap.size, 0, none⟩) hr1 (by simp) (.string ⟨qv.s.toArray⟩)) (by simp) (.int .i64 qv.e)) (by simp)
  have hf2 := ((hf1.setCell (p := ⟨w.heap.size, 0, none⟩) (Or.inl (by simp)) (.string ⟨qv.s.toArray⟩)).setCell (p := ⟨w.heap.size, 1, none⟩) (Or.inl (by simp)) (.int .i64 qv.e)).trans g2 (by simp)
  clear g2 hc1 hr1 hf1 c0 c1 f0 f1
  obtain ⟨⟨S, u⟩, hSu⟩ : ∃ x, qv.raw nv = x := ⟨_, rfl⟩
  rw [hSu] at hu hur HT ⊢
  dsimp only at hu hur HT ⊢
  clear hSu
  have hSl : S.length ≤ 1000000 := by omega
  obtain ⟨c0, c1, f0, f1, _⟩ := blk2_facts hc2
  have gc := Lib.hid (blk2_set hc2 (.string ⟨u.s.toArray⟩) (.int .i64 u.e))
  have gr := Lib.hid (blk_far (p := ⟨w.heap.size, 1, none⟩) (blk_far (p := ⟨w.heap.size, 0, none⟩) hr2 (by simp) (.string ⟨u.s.toArray⟩)) (by simp) (.int .i64 u.e))
  have gf := Lib.hid ((hf2.setCell (p := ⟨w.heap.size, 0, none⟩) (Or.inl (by simp)) (.string ⟨u.s.toArray⟩)).setCell (p := ⟨w.heap.size, 1, none⟩) (Or.inl (by simp)) (.int .i64 u.e))
  clear hc2 hr2 hf2
  go_upto_region 3 with (fail)
  obtain ⟨y, hy⟩ : ∃ y, (w2.setCell ⟨w.heap.size, 0, none⟩ (.string ⟨u.s.toArray⟩)).setCell ⟨w.heap.size, 1, none⟩ (.int .i64 u.e) = y := ⟨_, rfl⟩
  rw [hy] at gc gr gf ⊢
  clear hy c0 c1 f0 f1
  obtain ⟨c0, c1, f0, f1, hlc⟩ := blk2_facts gc.out
  obtain ⟨r0, r1, z0, z1, hlr⟩ := blk2_facts gr.out
  by_cases hue : u.e = 0
  rotate_left
  · have t1 : (u.e != 0) = true := by simpa using hue
    have HT1 := Lib.hid (HT.out.trans (if_pos hue))
    clear hue
    have HX := HT1
    go_wp2
    generalize hz : (y.setCell ⟨w.heap.size + 1, 0, none⟩ (.string ⟨u.s.toArray⟩)).setCell ⟨w.heap.size + 1, 1, none⟩ (.int .i64 (u.e)) = z
    have hA : z.heap[w.heap.size + 1]? = some (.cells #[.string ⟨u.s.toArray⟩, .int .i64 (u.e)] 99 (0, 0)) := hz ▸ blk2_set gr.out (.string ⟨u.s.toArray⟩) (.int .i64 (u.e))
    have hZ : Fr [] w z := hz ▸ ((gf.out.setCell (p := ⟨w.heap.size + 1, 0, none⟩) (Or.inl (by simp)) (.string ⟨u.s.toArray⟩)).setCell (p := ⟨w.heap.size + 1, 1, none⟩) (Or.inl (by simp)) (.int .i64 (u.e)))
    clear hz
    obtain ⟨rr0, rr1, zz0, zz1, hlr2⟩ := blk2_facts hA
    refine bodyPost_ret (v := .tuple #[.agg #[.string ⟨u.s.toArray⟩, .int .i64 (u.e)], (Value.slice none 0 0)]) (by simp [results, Try.results73, go_sem, rr0, rr1]) rfl ?_
    rw [HX.out]
    exact ⟨_, rfl, World.ownsRow_nil _ _ _ _, hZ⟩
  have t1 : (u.e != 0) = false := by simpa using hue
  have HT1 := HT.out
  rw [if_neg (by simpa using hue)] at HT1
  replace HT1 := Lib.hid HT1
  have Hue := Lib.hid hue
  clear hue HT
  have HI := Lib.hid (ploop_start kind isWill S)
  have yD : w.heap.size + 1 < y.heap.size := hlr
  have hd0 := Lib.hid (blk_old (blk_new y (.cells #[.string ⟨S.toArray⟩, .int .i64 0] 99)) (.cells #[] 121))
  have gc0 := Lib.hid (blk_old (blk_old gc.out (.cells #[.string ⟨S.toArray⟩, .int .i64 0] 99)) (.cells #[] 121))
  have gr0 := Lib.hid (blk_old (blk_old gr.out (.cells #[.string ⟨S.toArray⟩, .int .i64 0] 99)) (.cells #[] 121))
  have gf0 := Lib.hid ((gf.out.alloc (.cells #[.string ⟨S.toArray⟩, .int .i64 0] 99)).alloc (.cells #[] 121))
  have ow0 := Lib.hid (own_emp (y.alloc (.cells #[.string ⟨S.toArray⟩, .int .i64 0] 99)) 121 4 w.heap.size (by simp; omega))
  go_wp2
  go_loopw [11] (fun v wr => ∃ (l : List Pr) (q : Rd), Hid (PLoop kind isWill S l q) ∧ Hid (wr.ownsRow w.heap.size 121 4 v l.length (l.flatMap prE)) ∧ Hid (wr.heap[y.heap.size]? = some (.cells #[.string ⟨q.s.toArray⟩, .int .i64 q.e] 99 (0, 0))) ∧ Hid (wr.heap[w.heap.size]? = some (.cells #[.string ⟨u.s.toArray⟩, .int .i64 u.e] 99 (0, 0))) ∧ Hid (wr.heap[w.heap.size + 1]? = some (.cells #[.string ⟨#[]⟩, .int .i64 0] 99 (0, 0))) ∧ Hid (Fr [] w wr)) (fun v _ => S.length + 1 - sliceN v)
  case atStart => exact ⟨[], ⟨S, 0⟩, HI, by first | exact ow0 | (rw [World.size_alloc] at ow0; exact ow0), hd0, gc0, gr0, gf0⟩
  case round =>
    clear HI hd0 gc0 gr0 gf0 ow0 gc gr gf c0 c1 f0 f1 hlc r0 r1 z0 z1
    obtain ⟨l, q, HI, own, hd, gc, gr, gf⟩ := hrel
    have hPL := HI.out
    have hql : q.s.length ≤ 1000000 := Nat.le_trans hPL.1 hSl
    have Hnr := Lib.hid (own_ne own.out gr.out (by decide))
    have Hnd := Lib.hid (own_ne own.out hd.out (by decide))
    have Hnc := Lib.hid (own_ne own.out gc.out (by decide))
    have ydl := blk_lt hd.out
    obtain ⟨A, cp, rfl⟩ := own_shape own.out
    by_cases hqs : q.s = []
    · have hqe1 : q.s.isEmpty = true := by rw [hqs]; rfl
      by_cases hqe : q.e = 0
      · have HTE := Lib.hid (show propsGo kind isWill S.length ⟨S, 0⟩ [] = (l, q) ∧ q.e = 0 from ⟨by
          obtain ⟨_, fuel, _, h4⟩ := hPL.2.1 hqe
          rw [← h4, propsGo_stop _ _ _ _ _ (Or.inl hqs)], hqe⟩)
        have t6 : (q.e != 0) = false := by simpa using hqe
        clear hPL hqe hqs
        have HX := Lib.hid (takeP_end HT1.out HTE.out)
        obtain ⟨d0, d1, df0, df1, _⟩ := blk2_facts hd.out
        obtain ⟨c0, c1, f0, f1, _⟩ := blk2_facts gc.out
        obtain ⟨r0, r1, z0, z1, _⟩ := blk2_facts gr.out
        go_wp2
        generalize hz : (wr.setCell ⟨w.heap.size + 1, 0, none⟩ (.string ⟨u.s.toArray⟩)).setCell ⟨w.heap.size + 1, 1, none⟩ (.int .i64 u.e) = z
        have hA : z.heap[w.heap.size + 1]? = some (.cells #[.string ⟨u.s.toArray⟩, .int .i64 u.e] 99 (0, 0)) := hz ▸ blk2_set gr.out (.string ⟨u.s.toArray⟩) (.int .i64 u.e)
        have hZ : Fr [] w z := hz ▸ ((gf.out.setCell (p := ⟨w.heap.size + 1, 0, none⟩) (Or.inl (by simp)) (.string ⟨u.s.toArray⟩)).setCell (p := ⟨w.heap.size + 1, 1, none⟩) (Or.inl (by simp)) (.int .i64 u.e))
        have hO : z.ownsRow w.heap.size 121 4 (Value.slice A l.length cp) l.length (l.flatMap prE) := hz ▸ own_set (own_set own.out (by intro e; exact Hnr.out e.symm) _) (by intro e; exact Hnr.out e.symm) _
        clear hz
        obtain ⟨rr0, rr1, zz0, zz1, hlr2⟩ := blk2_facts hA
        refine bodyPost_ret (v := .tuple #[.agg #[.string ⟨u.s.toArray⟩, .int .i64 u.e], (Value.slice A l.length cp)]) (by simp [results, Try.results73, go_sem, rr0, rr1]) rfl ?_
        rw [HX.out]
        exact ⟨_, rfl, hO, hZ⟩
      · skip
        by_cases e1 : q.e = 1
        · have HTE := Lib.hid ((hPL.2.2 hqe).2.trans e1)
          have t6 : (q.e != 0) = true := by simpa using hqe
          have t7 : (q.e == 1) = true := by simpa using e1
          have t8 : (q.e == 0) = false := by simpa using hqe
          clear hPL hqe e1
          have HX := Lib.hid (takeP_err HT1.out Hue.out HTE.out (by decide))
          obtain ⟨d0, d1, df0, df1, hdl⟩ := blk2_facts hd.out
          obtain ⟨c0, c1, f0, f1, _⟩ := blk2_facts gc.out
          obtain ⟨r0, r1, z0, z1, _⟩ := blk2_facts gr.out
          have gdx := Lib.hid (blk_set hd.out 1 (.int .i64 2))
          have gcx := Lib.hid (blk_far (p := ⟨y.heap.size, 1, none⟩) gc.out (by simp; omega) (.int .i64 2))
          have grx := Lib.hid (blk_far (p := ⟨y.heap.size, 1, none⟩) gr.out (by simp; omega) (.int .i64 2))
          have gfx := Lib.hid (gf.out.setCell (p := ⟨y.heap.size, 1, none⟩) (Or.inl (by simp; omega)) (.int .i64 2))
          go_upto_region 21 with (fail)
          obtain ⟨yy, hyy⟩ : ∃ yy, wr.setCell ⟨y.heap.size, 1, none⟩ (.int .i64 2) = yy := ⟨_, rfl⟩
          rw [hyy] at gdx gcx grx gfx ⊢
          clear hyy gc gr gf d0 d1 df0 df1 c0 c1 f0 f1 r0 r1 z0 z1
          have gr := grx
          have gf := gfx
          obtain ⟨d0, d1, df0, df1, _⟩ := blk2_facts gdx.out
          obtain ⟨c0, c1, f0, f1, _⟩ := blk2_facts gcx.out
          obtain ⟨r0, r1, z0, z1, _⟩ := blk2_facts grx.out
          go_wp2
          generalize hz : (yy.setCell ⟨w.heap.size + 1, 0, none⟩ (.string ⟨u.s.toArray⟩)).setCell ⟨w.heap.size + 1, 1, none⟩ (.int .i64 (2)) = z
          have hA : z.heap[w.heap.size + 1]? = some (.cells #[.string ⟨u.s.toArray⟩, .int .i64 (2)] 99 (0, 0)) := hz ▸ blk2_set gr.out (.string ⟨u.s.toArray⟩) (.int .i64 (2))
          have hZ : Fr [] w z := hz ▸ ((gf.out.setCell (p := ⟨w.heap.size + 1, 0, none⟩) (Or.inl (by simp)) (.string ⟨u.s.toArray⟩)).setCell (p := ⟨w.heap.size + 1, 1, none⟩) (Or.inl (by simp)) (.int .i64 (2)))
          clear hz
          obtain ⟨rr0, rr1, zz0, zz1, hlr2⟩ := blk2_facts hA
          refine bodyPost_ret (v := .tuple #[.agg #[.string ⟨u.s.toArray⟩, .int .i64 (2)], (Value.slice none 0 0)]) (by simp [results, Try.results73, go_sem, rr0, rr1]) rfl ?_
          rw [HX.out]
          exact ⟨_, rfl, World.ownsRow_nil _ _ _ _, hZ⟩
        · have HTE := Lib.hid ((hPL.2.2 hqe).2)
          have t6 : (q.e != 0) = true := by simpa using hqe
          have t7 : (q.e == 1) = false := by simpa using e1
          have t8 : (q.e == 0) = false := by simpa using hqe
          have HN1 := Lib.hid e1
          have HN0 := Lib.hid hqe
          clear hPL hqe e1
          have HX0 := Lib.hid (takeP_err HT1.out Hue.out HTE.out HN0.out)
          have HX := Lib.hid (HX0.out.trans (by rw [if_neg HN1.out]))
          obtain ⟨d0, d1, df0, df1, _⟩ := blk2_facts hd.out
          obtain ⟨c0, c1, f0, f1, _⟩ := blk2_facts gc.out
          obtain ⟨r0, r1, z0, z1, _⟩ := blk2_facts gr.out
          go_wp2
          generalize hz : (wr.setCell ⟨w.heap.size + 1, 0, none⟩ (.string ⟨u.s.toArray⟩)).setCell ⟨w.heap.size + 1, 1, none⟩ (.int .i64 (q.e)) = z
          have hA : z.heap[w.heap.size + 1]? = some (.cells #[.string ⟨u.s.toArray⟩, .int .i64 (q.e)] 99 (0, 0)) := hz ▸ blk2_set gr.out (.string ⟨u.s.toArray⟩) (.int .i64 (q.e))
          have hZ : Fr [] w z := hz ▸ ((gf.out.setCell (p := ⟨w.heap.size + 1, 0, none⟩) (Or.inl (by simp)) (.string ⟨u.s.toArray⟩)).setCell (p := ⟨w.heap.size + 1, 1, none⟩) (Or.inl (by simp)) (.int .i64 (q.e)))
          clear hz
          obtain ⟨rr0, rr1, zz0, zz1, hlr2⟩ := blk2_facts hA
          refine bodyPost_ret (v := .tuple #[.agg #[.string ⟨u.s.toArray⟩, .int .i64 (q.e)], (Value.slice none 0 0)]) (by simp [results, Try.results73, go_sem, rr0, rr1]) rfl ?_
          rw [HX.out]
          exact ⟨_, rfl, World.ownsRow_nil _ _ _ _, hZ⟩
    · have hne : q.s.isEmpty = false := by simpa using hqs
      by_cases hqe : q.e = 0
      rotate_left
      · skip
        by_cases e1 : q.e = 1
        · have HTE := Lib.hid ((hPL.2.2 hqe).2.trans e1)
          have t6 : (q.e != 0) = true := by simpa using hqe
          have t7 : (q.e == 1) = true := by simpa using e1
          have t8 : (q.e == 0) = false := by simpa using hqe
          clear hPL hqe e1
          have HX := Lib.hid (takeP_err HT1.out Hue.out HTE.out (by decide))
          obtain ⟨d0, d1, df0, df1, hdl⟩ := blk2_facts hd.out
          obtain ⟨c0, c1, f0, f1, _⟩ := blk2_facts gc.out
          obtain ⟨r0, r1, z0, z1, _⟩ := blk2_facts gr.out
          have gdx := Lib.hid (blk_set hd.out 1 (.int .i64 2))
          have gcx := Lib.hid (blk_far (p := ⟨y.heap.size, 1, none⟩) gc.out (by simp; omega) (.int .i64 2))
          have grx := Lib.hid (blk_far (p := ⟨y.heap.size, 1, none⟩) gr.out (by simp; omega) (.int .i64 2))
          have gfx := Lib.hid (gf.out.setCell (p := ⟨y.heap.size, 1, none⟩) (Or.inl (by simp; omega)) (.int .i64 2))
          go_upto_region 21 with (fail)
          obtain ⟨yy, hyy⟩ : ∃ yy, wr.setCell ⟨y.heap.size, 1, none⟩ (.int .i64 2) = yy := ⟨_, rfl⟩
          rw [hyy] at gdx gcx grx gfx ⊢
          clear hyy gc gr gf d0 d1 df0 df1 c0 c1 f0 f1 r0 r1 z0 z1
          have gr := grx
          have gf := gfx
          obtain ⟨d0, d1, df0, df1, _⟩ := blk2_facts gdx.out
          obtain ⟨c0, c1, f0, f1, _⟩ := blk2_facts gcx.out
          obtain ⟨r0, r1, z0, z1, _⟩ := blk2_facts grx.out
          go_wp2
          generalize hz : (yy.setCell ⟨w.heap.size + 1, 0, none⟩ (.string ⟨u.s.toArray⟩)).setCell ⟨w.heap.size + 1, 1, none⟩ (.int .i64 (2)) = z
          have hA : z.heap[w.heap.size + 1]? = some (.cells #[.string ⟨u.s.toArray⟩, .int .i64 (2)] 99 (0, 0)) := hz ▸ blk2_set gr.out (.string ⟨u.s.toArray⟩) (.int .i64 (2))
          have hZ : Fr [] w z := hz ▸ ((gf.out.setCell (p := ⟨w.heap.size + 1, 0, none⟩) (Or.inl (by simp)) (.string ⟨u.s.toArray⟩)).setCell (p := ⟨w.heap.size + 1, 1, none⟩) (Or.inl (by simp)) (.int .i64 (2)))
          clear hz
          obtain ⟨rr0, rr1, zz0, zz1, hlr2⟩ := blk2_facts hA
          refine bodyPost_ret (v := .tuple #[.agg #[.string ⟨u.s.toArray⟩, .int .i64 (2)], (Value.slice none 0 0)]) (by simp [results, Try.results73, go_sem, rr0, rr1]) rfl ?_
          rw [HX.out]
          exact ⟨_, rfl, World.ownsRow_nil _ _ _ _, hZ⟩
        · have HTE := Lib.hid ((hPL.2.2 hqe).2)
          have t6 : (q.e != 0) = true := by simpa using hqe
          have t7 : (q.e == 1) = false := by simpa using e1
          have t8 : (q.e == 0) = false := by simpa using hqe
          have HN1 := Lib.hid e1
          have HN0 := Lib.hid hqe
          clear hPL hqe e1
          have HX0 := Lib.hid (takeP_err HT1.out Hue.out HTE.out HN0.out)
          have HX := Lib.hid (HX0.out.trans (by rw [if_neg HN1.out]))
          obtain ⟨d0, d1, df0, df1, _⟩ := blk2_facts hd.out
          obtain ⟨c0, c1, f0, f1, _⟩ := blk2_facts gc.out
          obtain ⟨r0, r1, z0, z1, _⟩ := blk2_facts gr.out
          go_wp2
          generalize hz : (wr.setCell ⟨w.heap.size + 1, 0, none⟩ (.string ⟨u.s.toArray⟩)).setCell ⟨w.heap.size + 1, 1, none⟩ (.int .i64 (q.e)) = z
          have hA : z.heap[w.heap.size + 1]? = some (.cells #[.string ⟨u.s.toArray⟩, .int .i64 (q.e)] 99 (0, 0)) := hz ▸ blk2_set gr.out (.string ⟨u.s.toArray⟩) (.int .i64 (q.e))
          have hZ : Fr [] w z := hz ▸ ((gf.out.setCell (p := ⟨w.heap.size + 1, 0, none⟩) (Or.inl (by simp)) (.string ⟨u.s.toArray⟩)).setCell (p := ⟨w.heap.size + 1, 1, none⟩) (Or.inl (by simp)) (.int .i64 (q.e)))
          clear hz
          obtain ⟨rr0, rr1, zz0, zz1, hlr2⟩ := blk2_facts hA
          refine bodyPost_ret (v := .tuple #[.agg #[.string ⟨u.s.toArray⟩, .int .i64 (q.e)], (Value.slice none 0 0)]) (by simp [results, Try.results73, go_sem, rr0, rr1]) rfl ?_
          rw [HX.out]
          exact ⟨_, rfl, World.ownsRow_nil _ _ _ _, hZ⟩
      have hst := Lib.hid (ploop_step kind isWill S l q hPL hqe hqs)
      have hlen := (hPL.2.1 hqe).1
      have hsl : 0 < q.s.length := List.length_pos_iff.2 hqs
      have t2 : (q.e == 0) = true := by simpa using hqe
      clear hqe hqs hPL
      obtain ⟨d0, d1, df0, df1, _⟩ := blk2_facts hd.out
      go_wp2_with fail
      refine (rtakevar_any q _ (by omega)).mono ?_
      rintro _ x1 ⟨rfl, g1⟩
      have hv1 := var_lt32 q
      have hv2 := var_left q
      obtain ⟨⟨id, q1⟩, hq⟩ : ∃ x, q.var = x := ⟨_, rfl⟩
      rw [hq] at hst hv1 hv2 ⊢
      dsimp only at hst hv1 hv2 ⊢
      clear hq d0 d1 df0 df1
      have hd1 := g1.blk hd.out (by simp)
      have hc1 := g1.blk gc.out (by simp)
      have hr1 := g1.blk gr.out (by simp)
      have hf1 := gf.out.trans g1 (by simp)
      have ow1 := own_fr g1 own.out (by simp)
      have z1 := g1.size
      clear g1 gc gr gf own hd
      obtain ⟨d0, d1, df0, df1, _⟩ := blk2_facts hd1
      have hywle : w.heap.size ≤ y.heap.size := by omega
      have hyw0 : y.heap.size ≠ w.heap.size := by omega
      have hyw1 : y.heap.size ≠ w.heap.size + 1 := by omega
      have hd := Lib.hid (blk_old (blk2_set hd1 (.string ⟨q1.s.toArray⟩) (.int .i64 q1.e)) (.cells #[.string ⟨q1.s.toArray⟩, .int .i64 q1.e] 99))
      have gc := Lib.hid (blk_old (blk_far (p := ⟨y.heap.size, 1, none⟩) (blk_far (p := ⟨y.heap.size, 0, none⟩) hc1 hyw0.symm (.string ⟨q1.s.toArray⟩)) hyw0.symm (.int .i64 q1.e)) (.cells #[.string ⟨q1.s.toArray⟩, .int .i64 q1.e] 99))
      have gr := Lib.hid (blk_old (blk_far (p := ⟨y.heap.size, 1, none⟩) (blk_far (p := ⟨y.heap.size, 0, none⟩) hr1 hyw1.symm (.string ⟨q1.s.toArray⟩)) hyw1.symm (.int .i64 q1.e)) (.cells #[.string ⟨q1.s.toArray⟩, .int .i64 q1.e] 99))
      have gf := Lib.hid (((hf1.setCell (p := ⟨y.heap.size, 0, none⟩) (Or.inl hywle) (.string ⟨q1.s.toArray⟩)).setCell (p := ⟨y.heap.size, 1, none⟩) (Or.inl hywle) (.int .i64 q1.e)).alloc (.cells #[.string ⟨q1.s.toArray⟩, .int .i64 q1.e] 99))
      have own := Lib.hid (World.ownsRow.alloc (own_set (own_set ow1 (p := ⟨y.heap.size, 0, none⟩) (by intro e; exact Hnd.out e.symm) (.string ⟨q1.s.toArray⟩)) (p := ⟨y.heap.size, 1, none⟩) (by intro e; exact Hnd.out e.symm) (.int .i64 q1.e)) (.cells #[.string ⟨q1.s.toArray⟩, .int .i64 q1.e] 99))
      clear hd1 hc1 hr1 hf1 ow1
      go_upto_region 10 with (fail)
      obtain ⟨wq, hwq⟩ : ∃ wq, ((x1.setCell ⟨y.heap.size, 0, none⟩ (.string ⟨q1.s.toArray⟩)).setCell ⟨y.heap.size, 1, none⟩ (.int .i64 q1.e)).alloc (.cells #[.string ⟨q1.s.toArray⟩, .int .i64 q1.e] 99) = wq := ⟨_, rfl⟩
      rw [hwq] at hd gc gr gf own ⊢
      clear hwq d0 d1 df0 df1
      have hdl := blk_lt hd.out
      by_cases h1e : q1.e = 0
      rotate_left
      · have hTe := (hst.out.1 h1e ⟨0, 0, [], []⟩).2.2 h1e
        by_cases e1 : q1.e = 1
        · have HTE := Lib.hid (hTe.2.trans e1)
          have t6 : (q1.e != 0) = true := by simpa using h1e
          have t7 : (q1.e == 1) = true := by simpa using e1
          clear hTe h1e e1
          obtain ⟨d0, d1, df0, df1, _⟩ := blk2_facts hd.out
          have HX := Lib.hid (takeP_err HT1.out Hue.out HTE.out (by decide))
          obtain ⟨d0, d1, df0, df1, hdl⟩ := blk2_facts hd.out
          obtain ⟨c0, c1, f0, f1, _⟩ := blk2_facts gc.out
          obtain ⟨r0, r1, z0, z1, _⟩ := blk2_facts gr.out
          have gdx := Lib.hid (blk_set hd.out 1 (.int .i64 2))
          have gcx := Lib.hid (blk_far (p := ⟨y.heap.size, 1, none⟩) gc.out (by simp; omega) (.int .i64 2))
          have grx := Lib.hid (blk_far (p := ⟨y.heap.size, 1, none⟩) gr.out (by simp; omega) (.int .i64 2))
          have gfx := Lib.hid (gf.out.setCell (p := ⟨y.heap.size, 1, none⟩) (Or.inl (by simp; omega)) (.int .i64 2))
          go_upto_region 21 with (fail)
          obtain ⟨yy, hyy⟩ : ∃ yy, wq.setCell ⟨y.heap.size, 1, none⟩ (.int .i64 2) = yy := ⟨_, rfl⟩
          rw [hyy] at gdx gcx grx gfx ⊢
          clear hyy gc gr gf d0 d1 df0 df1 c0 c1 f0 f1 r0 r1 z0 z1
          have gr := grx
          have gf := gfx
          obtain ⟨d0, d1, df0, df1, _⟩ := blk2_facts gdx.out
          obtain ⟨c0, c1, f0, f1, _⟩ := blk2_facts gcx.out
          obtain ⟨r0, r1, z0, z1, _⟩ := blk2_facts grx.out
          go_wp2
          generalize hz : (yy.setCell ⟨w.heap.size + 1, 0, none⟩ (.string ⟨u.s.toArray⟩)).setCell ⟨w.heap.size + 1, 1, none⟩ (.int .i64 (2)) = z
          have hA : z.heap[w.heap.size + 1]? = some (.cells #[.string ⟨u.s.toArray⟩, .int .i64 (2)] 99 (0, 0)) := hz ▸ blk2_set gr.out (.string ⟨u.s.toArray⟩) (.int .i64 (2))
          have hZ : Fr [] w z := hz ▸ ((gf.out.setCell (p := ⟨w.heap.size + 1, 0, none⟩) (Or.inl (by simp)) (.string ⟨u.s.toArray⟩)).setCell (p := ⟨w.heap.size + 1, 1, none⟩) (Or.inl (by simp)) (.int .i64 (2)))
          clear hz
          obtain ⟨rr0, rr1, zz0, zz1, hlr2⟩ := blk2_facts hA
          refine bodyPost_ret (v := .tuple #[.agg #[.string ⟨u.s.toArray⟩, .int .i64 (2)], (Value.slice none 0 0)]) (by simp [results, Try.results73, go_sem, rr0, rr1]) rfl ?_
          rw [HX.out]
          exact ⟨_, rfl, World.ownsRow_nil _ _ _ _, hZ⟩
        · have HN1 := Lib.hid e1
          have HN0 := Lib.hid h1e
          have HTE := Lib.hid hTe.2
          have t6 : (q1.e != 0) = true := by simpa using h1e
          have t7 : (q1.e == 1) = false := by simpa using e1
          clear hTe h1e e1
          have HX0 := Lib.hid (takeP_err HT1.out Hue.out HTE.out HN0.out)
          have HX := Lib.hid (HX0.out.trans (by rw [if_neg HN1.out]))
          obtain ⟨d0, d1, df0, df1, _⟩ := blk2_facts hd.out
          obtain ⟨c0, c1, f0, f1, _⟩ := blk2_facts gc.out
          obtain ⟨r0, r1, z0, z1, _⟩ := blk2_facts gr.out
          go_wp2
          generalize hz : (wq.setCell ⟨w.heap.size + 1, 0, none⟩ (.string ⟨u.s.toArray⟩)).setCell ⟨w.heap.size + 1, 1, none⟩ (.int .i64 (q1.e)) = z
          have hA : z.heap[w.heap.size + 1]? = some (.cells #[.string ⟨u.s.toArray⟩, .int .i64 (q1.e)] 99 (0, 0)) := hz ▸ blk2_set gr.out (.string ⟨u.s.toArray⟩) (.int .i64 (q1.e))
          have hZ : Fr [] w z := hz ▸ ((gf.out.setCell (p := ⟨w.heap.size + 1, 0, none⟩) (Or.inl (by simp)) (.string ⟨u.s.toArray⟩)).setCell (p := ⟨w.heap.size + 1, 1, none⟩) (Or.inl (by simp)) (.int .i64 (q1.e)))
          clear hz
          obtain ⟨rr0, rr1, zz0, zz1, hlr2⟩ := blk2_facts hA
          refine bodyPost_ret (v := .tuple #[.agg #[.string ⟨u.s.toArray⟩, .int .i64 (q1.e)], (Value.slice none 0 0)]) (by simp [results, Try.results73, go_sem, rr0, rr1]) rfl ?_
          rw [HX.out]
          exact ⟨_, rfl, World.ownsRow_nil _ _ _ _, hZ⟩
      have t3 : (q1.e != 0) = false := by simpa using h1e
      have H1e := Lib.hid h1e
      clear h1e
      obtain ⟨d0, d1, df0, df1, _⟩ := blk2_facts hd.out
      go_wp2_with fail
      refine (rmay_any id kind isWill _).mono ?_
      rintro _ _ ⟨rfl, rfl⟩
      rw [(may_eq id kind isWill).1]
      by_cases hm : mayB id kind isWill = true
      rotate_left
      · have hm' : mayB id kind isWill = false := by simpa using hm
        have HTE : Hid ((propsGo kind isWill S.length ⟨S, 0⟩ []).2.e = 2) := Lib.hid ((hst.out.2.1 H1e.out hm' ⟨0, 0, [], []⟩).2.2 (by show ¬ (2 : Int) = 0; decide)).2
        rw [hm']
        clear hm hm'
        have HX := Lib.hid (takeP_err HT1.out Hue.out HTE.out (by decide))
        have gdx := Lib.hid (blk_set hd.out 1 (.int .i64 2))
        have gcx := Lib.hid (blk_far (p := ⟨y.heap.size, 1, none⟩) gc.out hyw0.symm (.int .i64 2))
        have grx := Lib.hid (blk_far (p := ⟨y.heap.size, 1, none⟩) gr.out hyw1.symm (.int .i64 2))
        have gfx := Lib.hid (gf.out.setCell (p := ⟨y.heap.size, 1, none⟩) (Or.inl hywle) (.int .i64 2))
        go_upto_region 18 with (fail)
        obtain ⟨yy, hyy⟩ : ∃ yy, wq.setCell ⟨y.heap.size, 1, none⟩ (.int .i64 2) = yy := ⟨_, rfl⟩
        rw [hyy] at gdx gcx grx gfx ⊢
        clear hyy gc gr gf d0 d1 df0 df1
        have gr := grx
        have gf := gfx
        obtain ⟨d0, d1, df0, df1, _⟩ := blk2_facts gdx.out
        obtain ⟨c0, c1, f0, f1, _⟩ := blk2_facts gcx.out
        obtain ⟨r0, r1, z0, z1, _⟩ := blk2_facts grx.out
        go_wp2
        generalize hz : (yy.setCell ⟨w.heap.size + 1, 0, none⟩ (.string ⟨u.s.toArray⟩)).setCell ⟨w.heap.size + 1, 1, none⟩ (.int .i64 (2)) = z
        have hA : z.heap[w.heap.size + 1]? = some (.cells #[.string ⟨u.s.toArray⟩, .int .i64 (2)] 99 (0, 0)) := hz ▸ blk2_set gr.out (.string ⟨u.s.toArray⟩) (.int .i64 (2))
        have hZ : Fr [] w z := hz ▸ ((gf.out.setCell (p := ⟨w.heap.size + 1, 0, none⟩) (Or.inl (by simp)) (.string ⟨u.s.toArray⟩)).setCell (p := ⟨w.heap.size + 1, 1, none⟩) (Or.inl (by simp)) (.int .i64 (2)))
        clear hz
        obtain ⟨rr0, rr1, zz0, zz1, hlr2⟩ := blk2_facts hA
        refine bodyPost_ret (v := .tuple #[.agg #[.string ⟨u.s.toArray⟩, .int .i64 (2)], (Value.slice none 0 0)]) (by simp [results, Try.results73, go_sem, rr0, rr1]) rfl ?_
        rw [HX.out]
        exact ⟨_, rfl, World.ownsRow_nil _ _ _ _, hZ⟩
      have hmany := (may_eq id kind isWill).2 hm
      obtain ⟨rl, rm, rk7, rk0, rki⟩ := ruleOf_cases id
      have hk1 : 1 ≤ (ruleOf id).kind := rki (fun h => by unfold mayB at hm; rw [h, zero_and] at hm; simp at hm)
      rw [hm]
      have Hm := Lib.hid hm
      clear hm rl rm rk7 rk0 rki
      go_wp2_with fail
      refine (has_any _ l id _ (own_view own.out) (by omega)).mono ?_
      rintro _ x2 ⟨rfl, g2⟩
      have hd2 := Lib.hid (g2.blk hd.out (by simp))
      have gc2 := Lib.hid (g2.blk gc.out (by simp))
      have gr2 := Lib.hid (g2.blk gr.out (by simp))
      have gf2 := Lib.hid (gf.out.trans g2 (by simp))
      have own2 := Lib.hid (own_fr g2 own.out (by simp))
      have z2 := g2.size
      clear g2 hd gc gr gf own d0 d1 df0 df1
      have hd := hd2
      have gc := gc2
      have gr := gr2
      have gf := gf2
      have own := own2
      clear hd2 gc2 gr2 gf2 own2
      have hdl2 := blk_lt hd.out
      obtain ⟨d0, d1, df0, df1, _⟩ := blk2_facts hd.out
      cases hgt : (getR l id).2
      · have hpl := Lib.hid (hst.out.2.2.2 H1e.out Hm.out (Or.inl hgt))
        clear hgt hmany
        go_wp2_with fail
        refine (rtakep_any q1 id _ hk1 (by omega)).mono ?_
        rintro _ x3 ⟨P, rfl, hPe, hPn, g3⟩
        have hd3 := g3.blk hd.out (by simp)
        have gc3 := g3.blk gc.out (by simp)
        have gr3 := g3.blk gr.out (by simp)
        have gf3 := gf.out.trans g3 (by simp)
        have own3 := own_fr g3 own.out (by simp)
        have z3 := g3.size
        clear g3 hd gc gr gf own d0 d1 df0 df1
        obtain ⟨⟨VP, VQ⟩, hVV⟩ : ∃ V, valR (ruleOf id) id q1 = V := ⟨_, rfl⟩
        have hVl := valR_left (ruleOf id) id q1
        rw [hVV] at hPe hpl hVl ⊢
        dsimp only at hPe hpl hVl ⊢
        clear hVV
        have hpl2 := Lib.hid (ploop_any _ _ S l VP P VQ hpl.out hPe)
        clear hpl hPe
        obtain ⟨d0, d1, df0, df1, _⟩ := blk2_facts hd3
        obtain ⟨Pi, Pn, Ps, Pt⟩ := P
        dsimp only at hPn ⊢
        have hd := Lib.hid (blk_old (blk_old (blk2_set hd3 (.string ⟨VQ.s.toArray⟩) (.int .i64 VQ.e)) (.cells #[.string ⟨VQ.s.toArray⟩, .int .i64 VQ.e] 99)) (.cells #[.int .i64 Pi, .int .u32 Pn, .string ⟨Ps.toArray⟩, .string ⟨Pt.toArray⟩] 121))
        have gc := Lib.hid (blk_old (blk_old (blk_far (p := ⟨y.heap.size, 1, none⟩) (blk_far (p := ⟨y.heap.size, 0, none⟩) gc3 hyw0.symm (.string ⟨VQ.s.toArray⟩)) hyw0.symm (.int .i64 VQ.e)) (.cells #[.string ⟨VQ.s.toArray⟩, .int .i64 VQ.e] 99)) (.cells #[.int .i64 Pi, .int .u32 Pn, .string ⟨Ps.toArray⟩, .string ⟨Pt.toArray⟩] 121))
        have gr := Lib.hid (blk_old (blk_old (blk_far (p := ⟨y.heap.size, 1, none⟩) (blk_far (p := ⟨y.heap.size, 0, none⟩) gr3 hyw1.symm (.string ⟨VQ.s.toArray⟩)) hyw1.symm (.int .i64 VQ.e)) (.cells #[.string ⟨VQ.s.toArray⟩, .int .i64 VQ.e] 99)) (.cells #[.int .i64 Pi, .int .u32 Pn, .string ⟨Ps.toArray⟩, .string ⟨Pt.toArray⟩] 121))
        have gf := Lib.hid ((((gf3.setCell (p := ⟨y.heap.size, 0, none⟩) (Or.inl hywle) (.string ⟨VQ.s.toArray⟩)).setCell (p := ⟨y.heap.size, 1, none⟩) (Or.inl hywle) (.int .i64 VQ.e)).alloc (.cells #[.string ⟨VQ.s.toArray⟩, .int .i64 VQ.e] 99)).alloc (.cells #[.int .i64 Pi, .int .u32 Pn, .string ⟨Ps.toArray⟩, .string ⟨Pt.toArray⟩] 121))
        have own := Lib.hid (World.ownsRow.alloc (World.ownsRow.alloc (own_set (own_set own3 (p := ⟨y.heap.size, 0, none⟩) (by intro e; exact Hnd.out e.symm) (.string ⟨VQ.s.toArray⟩)) (p := ⟨y.heap.size, 1, none⟩) (by intro e; exact Hnd.out e.symm) (.int .i64 VQ.e)) (.cells #[.string ⟨VQ.s.toArray⟩, .int .i64 VQ.e] 99)) (.cells #[.int .i64 Pi, .int .u32 Pn, .string ⟨Ps.toArray⟩, .string ⟨Pt.toArray⟩] 121))
        have gp := Lib.hid (blk_atH (((x3.setCell ⟨y.heap.size, 0, none⟩ (.string ⟨VQ.s.toArray⟩)).setCell ⟨y.heap.size, 1, none⟩ (.int .i64 VQ.e)).alloc (.cells #[.string ⟨VQ.s.toArray⟩, .int .i64 VQ.e] 99)) (.cells #[.int .i64 Pi, .int .u32 Pn, .string ⟨Ps.toArray⟩, .string ⟨Pt.toArray⟩] 121) (x3.heap.size + 1) (by simp))
        go_upto_region 17 with (fail)
        obtain ⟨y3, hy3⟩ : ∃ y3, (((x3.setCell ⟨y.heap.size, 0, none⟩ (.string ⟨VQ.s.toArray⟩)).setCell ⟨y.heap.size, 1, none⟩ (.int .i64 VQ.e)).alloc (.cells #[.string ⟨VQ.s.toArray⟩, .int .i64 VQ.e] 99)).alloc (.cells #[.int .i64 Pi, .int .u32 Pn, .string ⟨Ps.toArray⟩, .string ⟨Pt.toArray⟩] 121) = y3 := ⟨_, rfl⟩
        rw [hy3] at hd gc gr gf own gp ⊢
        clear hy3 d0 d1 df0 df1 hd3 gc3 gr3 gf3 own3
        obtain ⟨⟨p0, p1, p2, p3⟩, ⟨k0, k1, k2, k3⟩, hlp⟩ := blk4_facts gp.out
        have zy3 := gf.out.size
        go_wp2_with (at_builtin; refine wpl_app _ rfl (.tmp 87) (.tmp 89) 48 rfl w.heap.size 121 i0 (.agg #[.int .i64 0, .int .u32 0, .string ⟨#[]⟩, .string ⟨#[]⟩]) 4 48 Try.underlying48 hi hz0 hz1 hz2 rfl (by decide) _ l.length (l.flatMap prE) rfl (own.out.alloc _) ⟨y3.heap.size, 0, none⟩ 1 1 (prE ⟨Pi, Pn, Ps, Pt⟩) rfl rfl ?q11 ?q12 ?q13 ?q14 ?q15 ?_)
        try (case q11 => exact news_at _ _ (by simp) _ _)
        try (case q12 => first | exact ⟨rfl, rfl, rfl, rfl⟩ | (intro u hu; simp [prE] at hu; rcases hu with rfl | rfl | rfl | rfl <;> rfl))
        try (case q13 => unfold maxLen; omega)
        try (case q14 => omega)
        try (case q15 => first | omega | (simp; omega))
        intro v' x9 own9 hg9 _
        have own9' : x9.ownsRow w.heap.size 121 4 v' (l.length + 1) ((l ++ [Pr.mk Pi Pn Ps Pt]).flatMap prE) := by rw [flat_snoc]; exact own9
        have hd9 := Lib.hid (grown_blk hg9 (blk_old hd.out _) Hnd.out)
        have gc9 := Lib.hid (grown_blk hg9 (blk_old gc.out _) Hnc.out)
        have gr9 := Lib.hid (grown_blk hg9 (blk_old gr.out _) Hnr.out)
        have gf9 : Hid (Fr [] w x9) := Lib.hid ((Fr.alloc gf.out _).app (own.out.alloc _) (Nat.le_refl _) hg9)
        obtain ⟨A9, cp9, rfl⟩ := own_shape own9'
        replace own9' := Lib.hid own9'
        clear own9 hg9
        go_wp2
        go_roundw
        case rel => exact ⟨l ++ [Pr.mk Pi Pn Ps Pt], VQ, hpl2, by rw [List.length_append]; exact own9', hd9, gc9, gr9, gf9⟩
        case measure => simp [sliceN]; omega
      by_cases hmn : manyB id kind isWill = true
      · have hpl := Lib.hid (hst.out.2.2.2 H1e.out Hm.out (Or.inr hmn))
        rw [hmn] at hmany
        have hcs : (id : Int) = 38 ∨ (id : Int) = 11 ∧ kind = 3 ∧ isWill = false := by simpa using hmany.symm
        clear hgt hmany hmn
        rcases hcs with h38 | ⟨h11, h3, hw⟩
        · have n38 : ((id : Int) != 38) = false := by simp [h38]
          clear h38
          go_wp2_with fail
          refine (rtakep_any q1 id _ hk1 (by omega)).mono ?_
          rintro _ x3 ⟨P, rfl, hPe, hPn, g3⟩
          have hd3 := g3.blk hd.out (by simp)
          have gc3 := g3.blk gc.out (by simp)
          have gr3 := g3.blk gr.out (by simp)
          have gf3 := gf.out.trans g3 (by simp)
          have own3 := own_fr g3 own.out (by simp)
          have z3 := g3.size
          clear g3 hd gc gr gf own d0 d1 df0 df1
          obtain ⟨⟨VP, VQ⟩, hVV⟩ : ∃ V, valR (ruleOf id) id q1 = V := ⟨_, rfl⟩
          have hVl := valR_left (ruleOf id) id q1
          rw [hVV] at hPe hpl hVl ⊢
          dsimp only at hPe hpl hVl ⊢
          clear hVV
          have hpl2 := Lib.hid (ploop_any _ _ S l VP P VQ hpl.out hPe)
          clear hpl hPe
          obtain ⟨d0, d1, df0, df1, _⟩ := blk2_facts hd3
          obtain ⟨Pi, Pn, Ps, Pt⟩ := P
          dsimp only at hPn ⊢
          have hd := Lib.hid (blk_old (blk_old (blk2_set hd3 (.string ⟨VQ.s.toArray⟩) (.int .i64 VQ.e)) (.cells #[.string ⟨VQ.s.toArray⟩, .int .i64 VQ.e] 99)) (.cells #[.int .i64 Pi, .int .u32 Pn, .string ⟨Ps.toArray⟩, .string ⟨Pt.toArray⟩] 121))
          have gc := Lib.hid (blk_old (blk_old (blk_far (p := ⟨y.heap.size, 1, none⟩) (blk_far (p := ⟨y.heap.size, 0, none⟩) gc3 hyw0.symm (.string ⟨VQ.s.toArray⟩)) hyw0.symm (.int .i64 VQ.e)) (.cells #[.string ⟨VQ.s.toArray⟩, .int .i64 VQ.e] 99)) (.cells #[.int .i64 Pi, .int .u32 Pn, .string ⟨Ps.toArray⟩, .string ⟨Pt.toArray⟩] 121))
          have gr := Lib.hid (blk_old (blk_old (blk_far (p := ⟨y.heap.size, 1, none⟩) (blk_far (p := ⟨y.heap.size, 0, none⟩) gr3 hyw1.symm (.string ⟨VQ.s.toArray⟩)) hyw1.symm (.int .i64 VQ.e)) (.cells #[.string ⟨VQ.s.toArray⟩, .int .i64 VQ.e] 99)) (.cells #[.int .i64 Pi, .int .u32 Pn, .string ⟨Ps.toArray⟩, .string ⟨Pt.toArray⟩] 121))
          have gf := Lib.hid ((((gf3.setCell (p := ⟨y.heap.size, 0, none⟩) (Or.inl hywle) (.string ⟨VQ.s.toArray⟩)).setCell (p := ⟨y.heap.size, 1, none⟩) (Or.inl hywle) (.int .i64 VQ.e)).alloc (.cells #[.string ⟨VQ.s.toArray⟩, .int .i64 VQ.e] 99)).alloc (.cells #[.int .i64 Pi, .int .u32 Pn, .string ⟨Ps.toArray⟩, .string ⟨Pt.toArray⟩] 121))
          have own := Lib.hid (World.ownsRow.alloc (World.ownsRow.alloc (own_set (own_set own3 (p := ⟨y.heap.size, 0, none⟩) (by intro e; exact Hnd.out e.symm) (.string ⟨VQ.s.toArray⟩)) (p := ⟨y.heap.size, 1, none⟩) (by intro e; exact Hnd.out e.symm) (.int .i64 VQ.e)) (.cells #[.string ⟨VQ.s.toArray⟩, .int .i64 VQ.e] 99)) (.cells #[.int .i64 Pi, .int .u32 Pn, .string ⟨Ps.toArray⟩, .string ⟨Pt.toArray⟩] 121))
          have gp := Lib.hid (blk_atH (((x3.setCell ⟨y.heap.size, 0, none⟩ (.string ⟨VQ.s.toArray⟩)).setCell ⟨y.heap.size, 1, none⟩ (.int .i64 VQ.e)).alloc (.cells #[.string ⟨VQ.s.toArray⟩, .int .i64 VQ.e] 99)) (.cells #[.int .i64 Pi, .int .u32 Pn, .string ⟨Ps.toArray⟩, .string ⟨Pt.toArray⟩] 121) (x3.heap.size + 1) (by simp))
          go_upto_region 17 with (fail)
          obtain ⟨y3, hy3⟩ : ∃ y3, (((x3.setCell ⟨y.heap.size, 0, none⟩ (.string ⟨VQ.s.toArray⟩)).setCell ⟨y.heap.size, 1, none⟩ (.int .i64 VQ.e)).alloc (.cells #[.string ⟨VQ.s.toArray⟩, .int .i64 VQ.e] 99)).alloc (.cells #[.int .i64 Pi, .int .u32 Pn, .string ⟨Ps.toArray⟩, .string ⟨Pt.toArray⟩] 121) = y3 := ⟨_, rfl⟩
          rw [hy3] at hd gc gr gf own gp ⊢
          clear hy3 d0 d1 df0 df1 hd3 gc3 gr3 gf3 own3
          obtain ⟨⟨p0, p1, p2, p3⟩, ⟨k0, k1, k2, k3⟩, hlp⟩ := blk4_facts gp.out
          have zy3 := gf.out.size
          go_wp2_with (at_builtin; refine wpl_app _ rfl (.tmp 87) (.tmp 89) 48 rfl w.heap.size 121 i0 (.agg #[.int .i64 0, .int .u32 0, .string ⟨#[]⟩, .string ⟨#[]⟩]) 4 48 Try.underlying48 hi hz0 hz1 hz2 rfl (by decide) _ l.length (l.flatMap prE) rfl (own.out.alloc _) ⟨y3.heap.size, 0, none⟩ 1 1 (prE ⟨Pi, Pn, Ps, Pt⟩) rfl rfl ?q21 ?q22 ?q23 ?q24 ?q25 ?_)
          try (case q21 => exact news_at _ _ (by simp) _ _)
          try (case q22 => first | exact ⟨rfl, rfl, rfl, rfl⟩ | (intro u hu; simp [prE] at hu; rcases hu with rfl | rfl | rfl | rfl <;> rfl))
          try (case q23 => unfold maxLen; omega)
          try (case q24 => omega)
          try (case q25 => first | omega | (simp; omega))
          intro v' x9 own9 hg9 _
          have own9' : x9.ownsRow w.heap.size 121 4 v' (l.length + 1) ((l ++ [Pr.mk Pi Pn Ps Pt]).flatMap prE) := by rw [flat_snoc]; exact own9
          have hd9 := Lib.hid (grown_blk hg9 (blk_old hd.out _) Hnd.out)
          have gc9 := Lib.hid (grown_blk hg9 (blk_old gc.out _) Hnc.out)
          have gr9 := Lib.hid (grown_blk hg9 (blk_old gr.out _) Hnr.out)
          have gf9 : Hid (Fr [] w x9) := Lib.hid ((Fr.alloc gf.out _).app (own.out.alloc _) (Nat.le_refl _) hg9)
          obtain ⟨A9, cp9, rfl⟩ := own_shape own9'
          replace own9' := Lib.hid own9'
          clear own9 hg9
          go_wp2
          go_roundw
          case rel => exact ⟨l ++ [Pr.mk Pi Pn Ps Pt], VQ, hpl2, by rw [List.length_append]; exact own9', hd9, gc9, gr9, gf9⟩
          case measure => simp [sliceN]; omega
        · subst h3 hw
          have n38 : ((id : Int) != 38) = true := by simp [h11]
          have n11 : ((id : Int) != 11) = false := by simp [h11]
          clear h11
          go_wp2_with fail
          refine (rtakep_any q1 id _ hk1 (by omega)).mono ?_
          rintro _ x3 ⟨P, rfl, hPe, hPn, g3⟩
          have hd3 := g3.blk hd.out (by simp)
          have gc3 := g3.blk gc.out (by simp)
          have gr3 := g3.blk gr.out (by simp)
          have gf3 := gf.out.trans g3 (by simp)
          have own3 := own_fr g3 own.out (by simp)
          have z3 := g3.size
          clear g3 hd gc gr gf own d0 d1 df0 df1
          obtain ⟨⟨VP, VQ⟩, hVV⟩ : ∃ V, valR (ruleOf id) id q1 = V := ⟨_, rfl⟩
          have hVl := valR_left (ruleOf id) id q1
          rw [hVV] at hPe hpl hVl ⊢
          dsimp only at hPe hpl hVl ⊢
          clear hVV
          have hpl2 := Lib.hid (ploop_any _ _ S l VP P VQ hpl.out hPe)
          clear hpl hPe
          obtain ⟨d0, d1, df0, df1, _⟩ := blk2_facts hd3
          obtain ⟨Pi, Pn, Ps, Pt⟩ := P
          dsimp only at hPn ⊢
          have hd := Lib.hid (blk_old (blk_old (blk2_set hd3 (.string ⟨VQ.s.toArray⟩) (.int .i64 VQ.e)) (.cells #[.string ⟨VQ.s.toArray⟩, .int .i64 VQ.e] 99)) (.cells #[.int .i64 Pi, .int .u32 Pn, .string ⟨Ps.toArray⟩, .string ⟨Pt.toArray⟩] 121))
          have gc := Lib.hid (blk_old (blk_old (blk_far (p := ⟨y.heap.size, 1, none⟩) (blk_far (p := ⟨y.heap.size, 0, none⟩) gc3 hyw0.symm (.string ⟨VQ.s.toArray⟩)) hyw0.symm (.int .i64 VQ.e)) (.cells #[.string ⟨VQ.s.toArray⟩, .int .i64 VQ.e] 99)) (.cells #[.int .i64 Pi, .int .u32 Pn, .string ⟨Ps.toArray⟩, .string ⟨Pt.toArray⟩] 121))
          have gr := Lib.hid (blk_old (blk_old (blk_far (p := ⟨y.heap.size, 1, none⟩) (blk_far (p := ⟨y.heap.size, 0, none⟩) gr3 hyw1.symm (.string ⟨VQ.s.toArray⟩)) hyw1.symm (.int .i64 VQ.e)) (.cells #[.string ⟨VQ.s.toArray⟩, .int .i64 VQ.e] 99)) (.cells #[.int .i64 Pi, .int .u32 Pn, .string ⟨Ps.toArray⟩, .string ⟨Pt.toArray⟩] 121))
          have gf := Lib.hid ((((gf3.setCell (p := ⟨y.heap.size, 0, none⟩) (Or.inl hywle) (.string ⟨VQ.s.toArray⟩)).setCell (p := ⟨y.heap.size, 1, none⟩) (Or.inl hywle) (.int .i64 VQ.e)).alloc (.cells #[.string ⟨VQ.s.toArray⟩, .int .i64 VQ.e] 99)).alloc (.cells #[.int .i64 Pi, .int .u32 Pn, .string ⟨Ps.toArray⟩, .string ⟨Pt.toArray⟩] 121))
          have own := Lib.hid (World.ownsRow.alloc (World.ownsRow.alloc (own_set (own_set own3 (p := ⟨y.heap.size, 0, none⟩) (by intro e; exact Hnd.out e.symm) (.string ⟨VQ.s.toArray⟩)) (p := ⟨y.heap.size, 1, none⟩) (by intro e; exact Hnd.out e.symm) (.int .i64 VQ.e)) (.cells #[.string ⟨VQ.s.toArray⟩, .int .i64 VQ.e] 99)) (.cells #[.int .i64 Pi, .int .u32 Pn, .string ⟨Ps.toArray⟩, .string ⟨Pt.toArray⟩] 121))
          have gp := Lib.hid (blk_atH (((x3.setCell ⟨y.heap.size, 0, none⟩ (.string ⟨VQ.s.toArray⟩)).setCell ⟨y.heap.size, 1, none⟩ (.int .i64 VQ.e)).alloc (.cells #[.string ⟨VQ.s.toArray⟩, .int .i64 VQ.e] 99)) (.cells #[.int .i64 Pi, .int .u32 Pn, .string ⟨Ps.toArray⟩, .string ⟨Pt.toArray⟩] 121) (x3.heap.size + 1) (by simp))
          go_upto_region 17 with (fail)
          obtain ⟨y3, hy3⟩ : ∃ y3, (((x3.setCell ⟨y.heap.size, 0, none⟩ (.string ⟨VQ.s.toArray⟩)).setCell ⟨y.heap.size, 1, none⟩ (.int .i64 VQ.e)).alloc (.cells #[.string ⟨VQ.s.toArray⟩, .int .i64 VQ.e] 99)).alloc (.cells #[.int .i64 Pi, .int .u32 Pn, .string ⟨Ps.toArray⟩, .string ⟨Pt.toArray⟩] 121) = y3 := ⟨_, rfl⟩
          rw [hy3] at hd gc gr gf own gp ⊢
          clear hy3 d0 d1 df0 df1 hd3 gc3 gr3 gf3 own3
          obtain ⟨⟨p0, p1, p2, p3⟩, ⟨k0, k1, k2, k3⟩, hlp⟩ := blk4_facts gp.out
          have zy3 := gf.out.size
          go_wp2_with (at_builtin; refine wpl_app _ rfl (.tmp 87) (.tmp 89) 48 rfl w.heap.size 121 i0 (.agg #[.int .i64 0, .int .u32 0, .string ⟨#[]⟩, .string ⟨#[]⟩]) 4 48 Try.underlying48 hi hz0 hz1 hz2 rfl (by decide) _ l.length (l.flatMap prE) rfl (own.out.alloc _) ⟨y3.heap.size, 0, none⟩ 1 1 (prE ⟨Pi, Pn, Ps, Pt⟩) rfl rfl ?q31 ?q32 ?q33 ?q34 ?q35 ?_)
          try (case q31 => exact news_at _ _ (by simp) _ _)
          try (case q32 => first | exact ⟨rfl, rfl, rfl, rfl⟩ | (intro u hu; simp [prE] at hu; rcases hu with rfl | rfl | rfl | rfl <;> rfl))
          try (case q33 => unfold maxLen; omega)
          try (case q34 => omega)
          try (case q35 => first | omega | (simp; omega))
          intro v' x9 own9 hg9 _
          have own9' : x9.ownsRow w.heap.size 121 4 v' (l.length + 1) ((l ++ [Pr.mk Pi Pn Ps Pt]).flatMap prE) := by rw [flat_snoc]; exact own9
          have hd9 := Lib.hid (grown_blk hg9 (blk_old hd.out _) Hnd.out)
          have gc9 := Lib.hid (grown_blk hg9 (blk_old gc.out _) Hnc.out)
          have gr9 := Lib.hid (grown_blk hg9 (blk_old gr.out _) Hnr.out)
          have gf9 : Hid (Fr [] w x9) := Lib.hid ((Fr.alloc gf.out _).app (own.out.alloc _) (Nat.le_refl _) hg9)
          obtain ⟨A9, cp9, rfl⟩ := own_shape own9'
          replace own9' := Lib.hid own9'
          clear own9 hg9
          go_wp2
          go_roundw
          case rel => exact ⟨l ++ [Pr.mk Pi Pn Ps Pt], VQ, hpl2, by rw [List.length_append]; exact own9', hd9, gc9, gr9, gf9⟩
          case measure => simp [sliceN]; omega
      · have hmn' : manyB id kind isWill = false := by simpa using hmn
        have HTE : Hid ((propsGo kind isWill S.length ⟨S, 0⟩ []).2.e = 3) := Lib.hid ((hst.out.2.2.1 H1e.out Hm.out hgt hmn' ⟨0, 0, [], []⟩).2.2 (by show ¬ (3 : Int) = 0; decide)).2
        rw [hmn'] at hmany
        have hcs : ¬ ((id : Int) = 38 ∨ (id : Int) = 11 ∧ kind = 3 ∧ isWill = false) := by simpa using hmany.symm
        have n38 : ((id : Int) != 38) = true := by simp; omega
        clear hgt hmany hmn hmn'
        by_cases h11 : (id : Int) = 11
        · have n11 : ((id : Int) != 11) = false := by simp [h11]
          by_cases h3 : kind = 3
          · cases isWill
            · exact absurd (Or.inr ⟨h11, h3, rfl⟩) hcs
            · have n3 : (kind != 3) = false := by simp [h3]
              clear hcs h11 h3
              have HX := Lib.hid (takeP_err HT1.out Hue.out HTE.out (by decide))
              have gdx := Lib.hid (blk_set hd.out 1 (.int .i64 3))
              have gcx := Lib.hid (blk_far (p := ⟨y.heap.size, 1, none⟩) gc.out hyw0.symm (.int .i64 3))
              have grx := Lib.hid (blk_far (p := ⟨y.heap.size, 1, none⟩) gr.out hyw1.symm (.int .i64 3))
              have gfx := Lib.hid (gf.out.setCell (p := ⟨y.heap.size, 1, none⟩) (Or.inl hywle) (.int .i64 3))
              go_upto_region 18 with (fail)
              obtain ⟨yy, hyy⟩ : ∃ yy, x2.setCell ⟨y.heap.size, 1, none⟩ (.int .i64 3) = yy := ⟨_, rfl⟩
              rw [hyy] at gdx gcx grx gfx ⊢
              clear hyy gc gr gf d0 d1 df0 df1
              have gr := grx
              have gf := gfx
              obtain ⟨d0, d1, df0, df1, _⟩ := blk2_facts gdx.out
              obtain ⟨c0, c1, f0, f1, _⟩ := blk2_facts gcx.out
              obtain ⟨r0, r1, z0, z1, _⟩ := blk2_facts grx.out
              go_wp2
              generalize hz : (yy.setCell ⟨w.heap.size + 1, 0, none⟩ (.string ⟨u.s.toArray⟩)).setCell ⟨w.heap.size + 1, 1, none⟩ (.int .i64 (3)) = z
              have hA : z.heap[w.heap.size + 1]? = some (.cells #[.string ⟨u.s.toArray⟩, .int .i64 (3)] 99 (0, 0)) := hz ▸ blk2_set gr.out (.string ⟨u.s.toArray⟩) (.int .i64 (3))
              have hZ : Fr [] w z := hz ▸ ((gf.out.setCell (p := ⟨w.heap.size + 1, 0, none⟩) (Or.inl (by simp)) (.string ⟨u.s.toArray⟩)).setCell (p := ⟨w.heap.size + 1, 1, none⟩) (Or.inl (by simp)) (.int .i64 (3)))
              clear hz
              obtain ⟨rr0, rr1, zz0, zz1, hlr2⟩ := blk2_facts hA
              refine bodyPost_ret (v := .tuple #[.agg #[.string ⟨u.s.toArray⟩, .int .i64 (3)], (Value.slice none 0 0)]) (by simp [results, Try.results73, go_sem, rr0, rr1]) rfl ?_
              rw [HX.out]
              exact ⟨_, rfl, World.ownsRow_nil _ _ _ _, hZ⟩
          · have n3 : (kind != 3) = true := by simpa using h3
            clear hcs h11 h3
            have HX := Lib.hid (takeP_err HT1.out Hue.out HTE.out (by decide))
            have gdx := Lib.hid (blk_set hd.out 1 (.int .i64 3))
            have gcx := Lib.hid (blk_far (p := ⟨y.heap.size, 1, none⟩) gc.out hyw0.symm (.int .i64 3))
            have grx := Lib.hid (blk_far (p := ⟨y.heap.size, 1, none⟩) gr.out hyw1.symm (.int .i64 3))
            have gfx := Lib.hid (gf.out.setCell (p := ⟨y.heap.size, 1, none⟩) (Or.inl hywle) (.int .i64 3))
            go_upto_region 18 with (fail)
            obtain ⟨yy, hyy⟩ : ∃ yy, x2.setCell ⟨y.heap.size, 1, none⟩ (.int .i64 3) = yy := ⟨_, rfl⟩
            rw [hyy] at gdx gcx grx gfx ⊢
            clear hyy gc gr gf d0 d1 df0 df1
            have gr := grx
            have gf := gfx
            obtain ⟨d0, d1, df0, df1, _⟩ := blk2_facts gdx.out
            obtain ⟨c0, c1, f0, f1, _⟩ := blk2_facts gcx.out
            obtain ⟨r0, r1, z0, z1, _⟩ := blk2_facts grx.out
            go_wp2
            generalize hz : (yy.setCell ⟨w.heap.size + 1, 0, none⟩ (.string ⟨u.s.toArray⟩)).setCell ⟨w.heap.size + 1, 1, none⟩ (.int .i64 (3)) = z
            have hA : z.heap[w.heap.size + 1]? = some (.cells #[.string ⟨u.s.toArray⟩, .int .i64 (3)] 99 (0, 0)) := hz ▸ blk2_set gr.out (.string ⟨u.s.toArray⟩) (.int .i64 (3))
            have hZ : Fr [] w z := hz ▸ ((gf.out.setCell (p := ⟨w.heap.size + 1, 0, none⟩) (Or.inl (by simp)) (.string ⟨u.s.toArray⟩)).setCell (p := ⟨w.heap.size + 1, 1, none⟩) (Or.inl (by simp)) (.int .i64 (3)))
            clear hz
            obtain ⟨rr0, rr1, zz0, zz1, hlr2⟩ := blk2_facts hA
            refine bodyPost_ret (v := .tuple #[.agg #[.string ⟨u.s.toArray⟩, .int .i64 (3)], (Value.slice none 0 0)]) (by simp [results, Try.results73, go_sem, rr0, rr1]) rfl ?_
            rw [HX.out]
            exact ⟨_, rfl, World.ownsRow_nil _ _ _ _, hZ⟩
        · have n11 : ((id : Int) != 11) = true := by simpa using h11
          clear hcs h11
          have HX := Lib.hid (takeP_err HT1.out Hue.out HTE.out (by decide))
          have gdx := Lib.hid (blk_set hd.out 1 (.int .i64 3))
          have gcx := Lib.hid (blk_far (p := ⟨y.heap.size, 1, none⟩) gc.out hyw0.symm (.int .i64 3))
          have grx := Lib.hid (blk_far (p := ⟨y.heap.size, 1, none⟩) gr.out hyw1.symm (.int .i64 3))
          have gfx := Lib.hid (gf.out.setCell (p := ⟨y.heap.size, 1, none⟩) (Or.inl hywle) (.int .i64 3))
          go_upto_region 18 with (fail)
          obtain ⟨yy, hyy⟩ : ∃ yy, x2.setCell ⟨y.heap.size, 1, none⟩ (.int .i64 3) = yy := ⟨_, rfl⟩
          rw [hyy] at gdx gcx grx gfx ⊢
          clear hyy gc gr gf d0 d1 df0 df1
          have gr := grx
          have gf := gfx
          obtain ⟨d0, d1, df0, df1, _⟩ := blk2_facts gdx.out
          obtain ⟨c0, c1, f0, f1, _⟩ := blk2_facts gcx.out
          obtain ⟨r0, r1, z0, z1, _⟩ := blk2_facts grx.out
          go_wp2
          generalize hz : (yy.setCell ⟨w.heap.size + 1, 0, none⟩ (.string ⟨u.s.toArray⟩)).setCell ⟨w.heap.size + 1, 1, none⟩ (.int .i64 (3)) = z
          have hA : z.heap[w.heap.size + 1]? = some (.cells #[.string ⟨u.s.toArray⟩, .int .i64 (3)] 99 (0, 0)) := hz ▸ blk2_set gr.out (.string ⟨u.s.toArray⟩) (.int .i64 (3))
          have hZ : Fr [] w z := hz ▸ ((gf.out.setCell (p := ⟨w.heap.size + 1, 0, none⟩) (Or.inl (by simp)) (.string ⟨u.s.toArray⟩)).setCell (p := ⟨w.heap.size + 1, 1, none⟩) (Or.inl (by simp)) (.int .i64 (3)))
          clear hz
          obtain ⟨rr0, rr1, zz0, zz1, hlr2⟩ := blk2_facts hA
          refine bodyPost_ret (v := .tuple #[.agg #[.string ⟨u.s.toArray⟩, .int .i64 (3)], (Value.slice none 0 0)]) (by simp [results, Try.results73, go_sem, rr0, rr1]) rfl ?_
          rw [HX.out]
          exact ⟨_, rfl, World.ownsRow_nil _ _ _ _, hZ⟩
end Go.Proofs.Ythioageiebchlaa
