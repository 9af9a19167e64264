/- What Few and Told of the law package of layer 12 come to. Conditions: numbers and strings that may be. -/
import Derived.Test.YtnplinohoflabaaMsF
import Derived.Test.YtnplinohoflabaaDrawn
namespace Go.Proofs.Ytnplinohoflabaa
open Go.RowKit
set_option linter.unusedVariables false
set_option linter.unusedSimpArgs false
attribute [local go_sem ↓] Go.wp_at_zero Go.wp_at_succ

def FewTo12 (x : Ms) (ps : List Pr) (w : World) (e : Ending) (w' : World) : Prop :=
  ∃ A c, e = .returned (.agg (msC ⟨x.fr.take 10, tickN x.at_, x.q, x.rt, A, (fewR ps).length, c, x.tp.take 30, x.py.take 30⟩).toArray) ∧ TView 136 w' (.slice A (fewR ps).length c) (fewR ps).length ((fewR ps).flatMap prE) ∧ Fr [] w w'
set_option maxRecDepth 100000 in
set_option maxHeartbeats 4000000 in
theorem few12_any (x : Ms) (ps : List Pr) (w : World) (hv : View w (.slice x.A x.n x.c) ps.length (ps.flatMap prE)) (hl : ps.length ≤ 9223372036854775807) (hok : ∀ p ∈ ps, p.s.length ≤ 9223372036854775807 ∧ p.t.length ≤ 9223372036854775807) (h1 : x.fr.length ≤ 9223372036854775807) (h2 : x.tp.length ≤ 9223372036854775807) (h3 : x.py.length ≤ 9223372036854775807) :
    Calls Try.prog 15 #[.agg (msC x).toArray] w (FewTo12 x ps w) := by
  obtain ⟨fr, at_, qs, rt, A, n, c, tp, py⟩ := x
  dsimp only at hv h1 h2 h3
  have HV := Lib.hid hv
  have HO := Lib.hid hok
  clear hv hok
  have ha := blk_at1 w (.cells #[.string ⟨fr.toArray⟩, .int .i64 at_, .int .u8 qs, .bool rt, .slice A n c, .string ⟨tp.toArray⟩, .string ⟨py.toArray⟩] 29) (.cells #[.string ⟨#[]⟩, .int .i64 0, .int .u8 0, .bool false, .slice none 0 0, .string ⟨#[]⟩, .string ⟨#[]⟩] 29)
  have hb := blk_old (blk_new w (.cells #[.string ⟨fr.toArray⟩, .int .i64 at_, .int .u8 qs, .bool rt, .slice A n c, .string ⟨tp.toArray⟩, .string ⟨py.toArray⟩] 29)) (.cells #[.string ⟨#[]⟩, .int .i64 0, .int .u8 0, .bool false, .slice none 0 0, .string ⟨#[]⟩, .string ⟨#[]⟩] 29)
  have F0 : Fr [] w ((w.alloc (.cells #[.string ⟨fr.toArray⟩, .int .i64 at_, .int .u8 qs, .bool rt, .slice A n c, .string ⟨tp.toArray⟩, .string ⟨py.toArray⟩] 29)).alloc (.cells #[.string ⟨#[]⟩, .int .i64 0, .int .u8 0, .bool false, .slice none 0 0, .string ⟨#[]⟩, .string ⟨#[]⟩] 29)) := ((Fr.refl _ _).alloc _).alloc _
  unfold msC
  go_enter Try.func15, Try.ntmps15
  go_wp2
  obtain ⟨y, hy⟩ : ∃ y, (w.alloc (.cells #[.string ⟨fr.toArray⟩, .int .i64 at_, .int .u8 qs, .bool rt, .slice A n c, .string ⟨tp.toArray⟩, .string ⟨py.toArray⟩] 29)).alloc (.cells #[.string ⟨#[]⟩, .int .i64 0, .int .u8 0, .bool false, .slice none 0 0, .string ⟨#[]⟩, .string ⟨#[]⟩] 29) = y := ⟨_, rfl⟩
  rw [hy] at ha hb F0 ⊢
  clear hy
  obtain ⟨⟨e0, e1, e2, e3, e4, e5, e6⟩, ⟨k0, k1, k2, k3, k4, k5, k6⟩, _⟩ := blk7_facts hb
  have HB := Lib.hid hb
  have HA := Lib.hid ha
  have HF := Lib.hid F0
  clear ha hb F0
  go_cut [] (fun wx => wx.heap[w.heap.size]? = some (.cells #[.string ⟨(fr.take 10).toArray⟩, .int .i64 at_, .int .u8 qs, .bool rt, .slice A n c, .string ⟨(tp.take 30).toArray⟩, .string ⟨(py.take 30).toArray⟩] 29 (0, 0)) ∧ Fr [w.heap.size] y wx)
  case first =>
    refine wp_region_late [10, 12, 14] (S := fun w' => w'.cell? ⟨w.heap.size, 0, none⟩ = some (.string ⟨fr.toArray⟩) ∧ w'.cell? ⟨w.heap.size, 5, none⟩ = some (.string ⟨tp.toArray⟩) ∧ w'.cell? ⟨w.heap.size, 6, none⟩ = some (.string ⟨py.toArray⟩)) (by kernel_rfl) ⟨e0, e5, e6⟩ (fun hHeld => ?_)
    have fd := (Fr.refl [w.heap.size] y).drew
    have bd : y.drew.heap[w.heap.size]? = some (.cells #[.string ⟨fr.toArray⟩, .int .i64 at_, .int .u8 qs, .bool rt, .slice A n c, .string ⟨tp.toArray⟩, .string ⟨py.toArray⟩] 29 (0, 0)) := HB.out
    clear e0 e1 e2 e3 e4 e5 e6 k0 k1 k2 k3 k4 k5 k6
    obtain ⟨yd, hyd⟩ : ∃ yd, y.drew = yd := ⟨_, rfl⟩
    rw [hyd] at hHeld bd fd ⊢
    clear hyd
    obtain ⟨⟨e0, e1, e2, e3, e4, e5, e6⟩, ⟨k0, k1, k2, k3, k4, k5, k6⟩, _⟩ := blk7_facts bd
    refine wpLate_take (i := 0) (oi := _) (v := ?_) rfl (by kernel_rfl) (by kernel_rfl) (by kernel_rfl) (by kernel_rfl) (fun _ _ _ h => h) (Gives.load (by rfl) ?_) hHeld ?_
    rotate_left
    · intro w hSw
      (try dsimp only at hSw)
      go_simp
      try with_reducible rfl
    try simp only [Act.put, List.getElem_toArray, List.getElem_cons_succ, List.getElem_cons_zero, List.setIfInBounds_toArray, List.set_cons_zero, List.set_cons_succ]
    refine wpLate_take (i := 1) (oi := _) (v := ?_) rfl (by kernel_rfl) (by kernel_rfl) (by kernel_rfl) (by kernel_rfl) (fun _ _ _ h => h) (Gives.load (by rfl) ?_) hHeld ?_
    rotate_left
    · intro w hSw
      (try dsimp only at hSw)
      go_simp
      try with_reducible rfl
    try simp only [Act.put, List.getElem_toArray, List.getElem_cons_succ, List.getElem_cons_zero, List.setIfInBounds_toArray, List.set_cons_zero, List.set_cons_succ]
    refine wpLate_take (i := 3) (oi := _) (v := ?_) rfl (by kernel_rfl) (by kernel_rfl) (by kernel_rfl) (by kernel_rfl) (fun _ _ _ h => h) (Gives.load (by rfl) ?_) hHeld ?_
    rotate_left
    · intro w hSw
      (try dsimp only at hSw)
      go_simp
      try with_reducible rfl
    try simp only [Act.put, List.getElem_toArray, List.getElem_cons_succ, List.getElem_cons_zero, List.setIfInBounds_toArray, List.set_cons_zero, List.set_cons_succ]
    refine wpLate_take (i := 4) (oi := _) (v := ?_) rfl (by kernel_rfl) (by kernel_rfl) (by kernel_rfl) (by kernel_rfl) (fun _ _ _ h => h) (Gives.load (by rfl) ?_) hHeld ?_
    rotate_left
    · intro w hSw
      (try dsimp only at hSw)
      go_simp
      try with_reducible rfl
    try simp only [Act.put, List.getElem_toArray, List.getElem_cons_succ, List.getElem_cons_zero, List.setIfInBounds_toArray, List.set_cons_zero, List.set_cons_succ]
    refine wpLate_take (i := 6) (oi := _) (v := ?_) rfl (by kernel_rfl) (by kernel_rfl) (by kernel_rfl) (by kernel_rfl) (fun _ _ _ h => h) (Gives.load (by rfl) ?_) hHeld ?_
    rotate_left
    · intro w hSw
      (try dsimp only at hSw)
      go_simp
      try with_reducible rfl
    try simp only [Act.put, List.getElem_toArray, List.getElem_cons_succ, List.getElem_cons_zero, List.setIfInBounds_toArray, List.set_cons_zero, List.set_cons_succ]
    refine wpLate_take (i := 7) (oi := _) (v := ?_) rfl (by kernel_rfl) (by kernel_rfl) (by kernel_rfl) (by kernel_rfl) (fun _ _ _ h => h) (Gives.load (by rfl) ?_) hHeld ?_
    rotate_left
    · intro w hSw
      (try dsimp only at hSw)
      go_simp
      try with_reducible rfl
    try simp only [Act.put, List.getElem_toArray, List.getElem_cons_succ, List.getElem_cons_zero, List.setIfInBounds_toArray, List.set_cons_zero, List.set_cons_succ]
    refine wpLate_pure (i := 2) (oi := _) (v := .string ⟨(fr.take 10).toArray⟩) rfl (by kernel_rfl) (by kernel_rfl) (by kernel_rfl) (by kernel_rfl) (fun _ _ _ h => h) (Gives.quiet 44 #[.string ⟨fr.toArray⟩, .int .i64 10] (by rfl) ?_ (fun w => cut_any fr 10 w h1 (by decide))) (fun _ => hHeld) ?_
    · intro w
      go_simp
    try simp only [Act.put, List.getElem_toArray, List.getElem_cons_succ, List.getElem_cons_zero, List.setIfInBounds_toArray, List.set_cons_zero, List.set_cons_succ]
    refine wpLate_pure (i := 5) (oi := _) (v := .string ⟨(tp.take 30).toArray⟩) rfl (by kernel_rfl) (by kernel_rfl) (by kernel_rfl) (by kernel_rfl) (fun _ _ _ h => h) (Gives.quiet 44 #[.string ⟨tp.toArray⟩, .int .i64 30] (by rfl) ?_ (fun w => cut_any tp 30 w h2 (by decide))) (fun _ => hHeld) ?_
    · intro w
      go_simp
    try simp only [Act.put, List.getElem_toArray, List.getElem_cons_succ, List.getElem_cons_zero, List.setIfInBounds_toArray, List.set_cons_zero, List.set_cons_succ]
    refine wpLate_pure (i := 8) (oi := _) (v := .string ⟨(py.take 30).toArray⟩) rfl (by kernel_rfl) (by kernel_rfl) (by kernel_rfl) (by kernel_rfl) (fun _ _ _ h => h) (Gives.quiet 44 #[.string ⟨py.toArray⟩, .int .i64 30] (by rfl) ?_ (fun w => cut_any py 30 w h3 (by decide))) (fun _ => hHeld) ?_
    · intro w
      go_simp
    try simp only [Act.put, List.getElem_toArray, List.getElem_cons_succ, List.getElem_cons_zero, List.setIfInBounds_toArray, List.set_cons_zero, List.set_cons_succ]
    refine wpLate_pure (i := 9) (oi := _) (v := ?_) rfl (by kernel_rfl) (by kernel_rfl) (by kernel_rfl) (by kernel_rfl) (fun _ _ _ h => h) (Gives.load (by rfl) ?_) (fun _ => hHeld) ?_
    rotate_left
    · intro w hSw
      clear hSw
      go_simp
      try with_reducible rfl
    try simp only [Act.put, List.getElem_toArray, List.getElem_cons_succ, List.getElem_cons_zero, List.setIfInBounds_toArray, List.set_cons_zero, List.set_cons_succ]
    refine wpLate_ready (rs := [10]) (by kernel_rfl) (by simp) ?_
    refine AllLate.cons (o := _) rfl (fun K hK => ?_) ?_
    · go_simp
      refine hK.out _ _ (fun h => absurd h (by decide)) (fun _ => ?_)
      clear hK K
      try simp only [Act.put, List.getElem_toArray, List.getElem_cons_succ, List.getElem_cons_zero, List.setIfInBounds_toArray, List.set_cons_zero, List.set_cons_succ]
      have b1 : (yd.setCell ⟨w.heap.size, 0, none⟩ (.string ⟨(fr.take 10).toArray⟩)).heap[w.heap.size]? = some (.cells #[.string ⟨(fr.take 10).toArray⟩, .int .i64 at_, .int .u8 qs, .bool rt, .slice A n c, .string ⟨tp.toArray⟩, .string ⟨py.toArray⟩] 29 (0, 0)) := blk_set bd 0 _
      have f1 := fd.setCell (p := ⟨w.heap.size, 0, none⟩) (Or.inr (by simp)) (.string ⟨(fr.take 10).toArray⟩)
      obtain ⟨y1, hz⟩ : ∃ z, yd.setCell ⟨w.heap.size, 0, none⟩ (.string ⟨(fr.take 10).toArray⟩) = z := ⟨_, rfl⟩
      rw [hz] at b1 f1 ⊢
      clear hz
      clear e0 e1 e2 e3 e4 e5 e6 k0 k1 k2 k3 k4 k5 k6
      obtain ⟨⟨e0, e1, e2, e3, e4, e5, e6⟩, ⟨k0, k1, k2, k3, k4, k5, k6⟩, _⟩ := blk7_facts b1
      refine wpLate_pure (i := 11) (oi := _) (v := ?_) rfl (by kernel_rfl) (by kernel_rfl) (by kernel_rfl) (by kernel_rfl) (fun _ _ _ h => h) (Gives.load (by rfl) ?_) (fun h => absurd h (by decide)) ?_
      rotate_left
      · intro w hSw
        clear hSw
        go_simp
        try with_reducible rfl
      try simp only [Act.put, List.getElem_toArray, List.getElem_cons_succ, List.getElem_cons_zero, List.setIfInBounds_toArray, List.set_cons_zero, List.set_cons_succ]
      refine wpLate_ready (rs := [12]) (by kernel_rfl) (by simp) ?_
      refine AllLate.cons (o := _) rfl (fun K hK => ?_) ?_
      · go_simp
        refine hK.out _ _ (fun h => absurd h (by decide)) (fun _ => ?_)
        clear hK K
        try simp only [Act.put, List.getElem_toArray, List.getElem_cons_succ, List.getElem_cons_zero, List.setIfInBounds_toArray, List.set_cons_zero, List.set_cons_succ]
        have b2 : (y1.setCell ⟨w.heap.size, 5, none⟩ (.string ⟨(tp.take 30).toArray⟩)).heap[w.heap.size]? = some (.cells #[.string ⟨(fr.take 10).toArray⟩, .int .i64 at_, .int .u8 qs, .bool rt, .slice A n c, .string ⟨(tp.take 30).toArray⟩, .string ⟨py.toArray⟩] 29 (0, 0)) := blk_set b1 5 _
        have f2 := f1.setCell (p := ⟨w.heap.size, 5, none⟩) (Or.inr (by simp)) (.string ⟨(tp.take 30).toArray⟩)
        obtain ⟨y2, hz⟩ : ∃ z, y1.setCell ⟨w.heap.size, 5, none⟩ (.string ⟨(tp.take 30).toArray⟩) = z := ⟨_, rfl⟩
        rw [hz] at b2 f2 ⊢
        clear hz
        clear e0 e1 e2 e3 e4 e5 e6 k0 k1 k2 k3 k4 k5 k6
        obtain ⟨⟨e0, e1, e2, e3, e4, e5, e6⟩, ⟨k0, k1, k2, k3, k4, k5, k6⟩, _⟩ := blk7_facts b2
        refine wpLate_pure (i := 13) (oi := _) (v := ?_) rfl (by kernel_rfl) (by kernel_rfl) (by kernel_rfl) (by kernel_rfl) (fun _ _ _ h => h) (Gives.load (by rfl) ?_) (fun h => absurd h (by decide)) ?_
        rotate_left
        · intro w hSw
          clear hSw
          go_simp
          try with_reducible rfl
        try simp only [Act.put, List.getElem_toArray, List.getElem_cons_succ, List.getElem_cons_zero, List.setIfInBounds_toArray, List.set_cons_zero, List.set_cons_succ]
        refine wpLate_ready (rs := [14]) (by kernel_rfl) (by simp) ?_
        refine AllLate.cons (o := _) rfl (fun K hK => ?_) ?_
        · go_simp
          refine hK.out _ _ (fun h => absurd h (by decide)) (fun _ => ?_)
          clear hK K
          try simp only [Act.put, List.getElem_toArray, List.getElem_cons_succ, List.getElem_cons_zero, List.setIfInBounds_toArray, List.set_cons_zero, List.set_cons_succ]
          have b3 : (y2.setCell ⟨w.heap.size, 6, none⟩ (.string ⟨(py.take 30).toArray⟩)).heap[w.heap.size]? = some (.cells #[.string ⟨(fr.take 10).toArray⟩, .int .i64 at_, .int .u8 qs, .bool rt, .slice A n c, .string ⟨(tp.take 30).toArray⟩, .string ⟨(py.take 30).toArray⟩] 29 (0, 0)) := blk_set b2 6 _
          have f3 := f2.setCell (p := ⟨w.heap.size, 6, none⟩) (Or.inr (by simp)) (.string ⟨(py.take 30).toArray⟩)
          obtain ⟨y3, hz⟩ : ∃ z, y2.setCell ⟨w.heap.size, 6, none⟩ (.string ⟨(py.take 30).toArray⟩) = z := ⟨_, rfl⟩
          rw [hz] at b3 f3 ⊢
          clear hz
          refine wpLate_done (by kernel_rfl) ?_ _
          go_wp2_with fail
          go_meet
          exact ⟨b3, f3⟩
        exact AllLate.nil
      exact AllLate.nil
    exact AllLate.nil
  case rest =>
    obtain ⟨hb, g⟩ := hcut
    have ha := g.blk HA.out (by simp)
    have F1 := HF.out.trans g (by intro x hx h; simp at h; omega)
    clear e0 e1 e2 e3 e4 e5 e6 k0 k1 k2 k3 k4 k5 k6 HA HB HF g
    obtain ⟨⟨e0, e1, e2, e3, e4, e5, e6⟩, ⟨k0, k1, k2, k3, k4, k5, k6⟩, _⟩ := blk7_facts hb
    have HB := Lib.hid (blk_set hb 1 (.int .i64 (tickN at_)))
    have HA := Lib.hid (blk_far (p := ⟨w.heap.size, 1, none⟩) ha (by simp) (.int .i64 (tickN at_)))
    have HF := Lib.hid (F1.setCell (p := ⟨w.heap.size, 1, none⟩) (Or.inl (by simp)) (.int .i64 (tickN at_)))
    clear ha hb F1
    go_wp2_with fail
    refine (tick_any at_ _).mono ?_
    rintro _ _ ⟨rfl, rfl⟩
    go_upto_region 3 with (fail)
    obtain ⟨z, hz⟩ : ∃ z, wc.setCell ⟨w.heap.size, 1, none⟩ (.int .i64 (tickN at_)) = z := ⟨_, rfl⟩
    rw [hz] at HA HB HF ⊢
    clear hz e0 e1 e2 e3 e4 e5 e6 k0 k1 k2 k3 k4 k5 k6
    have hb : z.heap[w.heap.size]? = some (.cells #[.string ⟨(fr.take 10).toArray⟩, .int .i64 (tickN at_), .int .u8 qs, .bool rt, .slice A n c, .string ⟨(tp.take 30).toArray⟩, .string ⟨(py.take 30).toArray⟩] 29 (0, 0)) := HB.out
    obtain ⟨⟨e0, e1, e2, e3, e4, e5, e6⟩, _, _⟩ := blk7_facts hb
    clear hb
    go_wp2_with fail
    refine (few_any _ ps _ (HV.out.fr HF.out (by simp)) hl HO.out).mono ?_
    rintro _ y2 ⟨v2, rfl, own2, g2⟩
    obtain ⟨A2, c2, rfl⟩ := own_shape own2
    have hb : y2.heap[w.heap.size]? = some (.cells #[.string ⟨(fr.take 10).toArray⟩, .int .i64 (tickN at_), .int .u8 qs, .bool rt, .slice A n c, .string ⟨(tp.take 30).toArray⟩, .string ⟨(py.take 30).toArray⟩] 29 (0, 0)) := g2.blk HB.out (by simp)
    have ha := g2.blk HA.out (by simp)
    have hlow := Lib.hid (fun k hk => (own2.lt k hk).1)
    have hzs := blk_lt HB.out
    have hzs1 := blk_lt HA.out
    clear e0 e1 e2 e3 e4 e5 e6
    obtain ⟨⟨e0, e1, e2, e3, e4, e5, e6⟩, ⟨k0, k1, k2, k3, k4, k5, k6⟩, _⟩ := blk7_facts hb
    have HB2 := Lib.hid (blk_set hb 4 (.slice A2 (fewR ps).length c2))
    have HA2 := Lib.hid (blk_far (p := ⟨w.heap.size, 4, none⟩) ha (by simp) (.slice A2 (fewR ps).length c2))
    have HF2 := Lib.hid ((HF.out.trans g2 (by simp)).setCell (p := ⟨w.heap.size, 4, none⟩) (Or.inl (by simp)) (.slice A2 (fewR ps).length c2))
    have own3 := Lib.hid (own_set own2 (p := ⟨w.heap.size, 4, none⟩) (by intro e; have := hlow.out _ e.symm; simp at this; omega) (.slice A2 (fewR ps).length c2))
    clear hb ha own2 g2 HB HA HF
    go_upto_region 4 with (fail)
    obtain ⟨u, hu⟩ : ∃ u, y2.setCell ⟨w.heap.size, 4, none⟩ (.slice A2 (fewR ps).length c2) = u := ⟨_, rfl⟩
    rw [hu] at HA2 HB2 HF2 own3 ⊢
    clear hu e0 e1 e2 e3 e4 e5 e6 k0 k1 k2 k3 k4 k5 k6
    have hb : u.heap[w.heap.size]? = some (.cells #[.string ⟨(fr.take 10).toArray⟩, .int .i64 (tickN at_), .int .u8 qs, .bool rt, .slice A2 (fewR ps).length c2, .string ⟨(tp.take 30).toArray⟩, .string ⟨(py.take 30).toArray⟩] 29 (0, 0)) := HB2.out
    obtain ⟨⟨e0, e1, e2, e3, e4, e5, e6⟩, _, _⟩ := blk7_facts hb
    obtain ⟨⟨d0, d1, d2, d3, d4, d5, d6⟩, ⟨k0, k1, k2, k3, k4, k5, k6⟩, _⟩ := blk7_facts HA2.out
    have HZ := Lib.hid (blk7_set HA2.out (.string ⟨(fr.take 10).toArray⟩) (.int .i64 (tickN at_)) (.int .u8 qs) (.bool rt) (.slice A2 (fewR ps).length c2) (.string ⟨(tp.take 30).toArray⟩) (.string ⟨(py.take 30).toArray⟩))
    have FZ := Lib.hid (fr7_set HF2.out (b := w.heap.size + 1) (by omega) (.string ⟨(fr.take 10).toArray⟩) (.int .i64 (tickN at_)) (.int .u8 qs) (.bool rt) (.slice A2 (fewR ps).length c2) (.string ⟨(tp.take 30).toArray⟩) (.string ⟨(py.take 30).toArray⟩))
    have OZ := Lib.hid (own_set7 own3.out (b := w.heap.size + 1) (by intro e; have := hlow.out _ e.symm; omega) (.string ⟨(fr.take 10).toArray⟩) (.int .i64 (tickN at_)) (.int .u8 qs) (.bool rt) (.slice A2 (fewR ps).length c2) (.string ⟨(tp.take 30).toArray⟩) (.string ⟨(py.take 30).toArray⟩))
    clear hb HB2 HA2 HF2 own3
    go_wp2
    change bodyPost _ _ _ _ _ (set7 u (w.heap.size + 1) (.string ⟨(fr.take 10).toArray⟩) (.int .i64 (tickN at_)) (.int .u8 qs) (.bool rt) (.slice A2 (fewR ps).length c2) (.string ⟨(tp.take 30).toArray⟩) (.string ⟨(py.take 30).toArray⟩))
    generalize set7 u (w.heap.size + 1) (.string ⟨(fr.take 10).toArray⟩) (.int .i64 (tickN at_)) (.int .u8 qs) (.bool rt) (.slice A2 (fewR ps).length c2) (.string ⟨(tp.take 30).toArray⟩) (.string ⟨(py.take 30).toArray⟩) = W5 at *
    clear e0 e1 e2 e3 e4 e5 e6 k0 k1 k2 k3 k4 k5 k6 d0 d1 d2 d3 d4 d5 d6
    obtain ⟨e0, e1, e2, e3, e4, e5, e6⟩ := (blk7_facts HZ.out).1
    refine bodyPost_ret (v := .agg #[.string ⟨(fr.take 10).toArray⟩, .int .i64 (tickN at_), .int .u8 qs, .bool rt, .slice A2 (fewR ps).length c2, .string ⟨(tp.take 30).toArray⟩, .string ⟨(py.take 30).toArray⟩]) (by simp [results, Try.results15, go_sem, e0, e1, e2, e3, e4, e5, e6]) rfl ?_
    exact ⟨A2, c2, rfl, TView.own OZ.out, FZ.out⟩
def ToldTo12 (x : Ms) (ps : List Pr) (w : World) (e : Ending) (w' : World) : Prop :=
  ∃ A c, e = .returned (.agg (msC ⟨x.fr, x.at_, x.q, x.rt, A, ps.length, c, x.tp, x.py⟩).toArray) ∧ TView 139 w' (.slice A ps.length c) ps.length (ps.flatMap prE) ∧ Fr [] w w'
set_option maxRecDepth 100000 in
set_option maxHeartbeats 4000000 in
theorem told12_any (x : Ms) (ps : List Pr) (w : World) (hv : View w (.slice x.A x.n x.c) ps.length (ps.flatMap prE)) (hl : ps.length ≤ 1000000) :
    Calls Try.prog 21 #[.agg (msC x).toArray] w (ToldTo12 x ps w) := by
  obtain ⟨fr, at_, qs, rt, A, n, c, tp, py⟩ := x
  dsimp only at hv
  have HV := Lib.hid hv
  clear hv
  have ha := blk_at1 w (.cells #[.string ⟨fr.toArray⟩, .int .i64 at_, .int .u8 qs, .bool rt, .slice A n c, .string ⟨tp.toArray⟩, .string ⟨py.toArray⟩] 29) (.cells #[.string ⟨#[]⟩, .int .i64 0, .int .u8 0, .bool false, .slice none 0 0, .string ⟨#[]⟩, .string ⟨#[]⟩] 42)
  have hb := blk_old (blk_new w (.cells #[.string ⟨fr.toArray⟩, .int .i64 at_, .int .u8 qs, .bool rt, .slice A n c, .string ⟨tp.toArray⟩, .string ⟨py.toArray⟩] 29)) (.cells #[.string ⟨#[]⟩, .int .i64 0, .int .u8 0, .bool false, .slice none 0 0, .string ⟨#[]⟩, .string ⟨#[]⟩] 42)
  have F0 : Fr [] w ((w.alloc (.cells #[.string ⟨fr.toArray⟩, .int .i64 at_, .int .u8 qs, .bool rt, .slice A n c, .string ⟨tp.toArray⟩, .string ⟨py.toArray⟩] 29)).alloc (.cells #[.string ⟨#[]⟩, .int .i64 0, .int .u8 0, .bool false, .slice none 0 0, .string ⟨#[]⟩, .string ⟨#[]⟩] 42)) := ((Fr.refl _ _).alloc _).alloc _
  unfold msC
  go_enter Try.func21, Try.ntmps21
  go_wp2
  obtain ⟨y, hy⟩ : ∃ y, (w.alloc (.cells #[.string ⟨fr.toArray⟩, .int .i64 at_, .int .u8 qs, .bool rt, .slice A n c, .string ⟨tp.toArray⟩, .string ⟨py.toArray⟩] 29)).alloc (.cells #[.string ⟨#[]⟩, .int .i64 0, .int .u8 0, .bool false, .slice none 0 0, .string ⟨#[]⟩, .string ⟨#[]⟩] 42) = y := ⟨_, rfl⟩
  rw [hy] at ha hb F0 ⊢
  clear hy
  obtain ⟨⟨e0, e1, e2, e3, e4, e5, e6⟩, ⟨k0, k1, k2, k3, k4, k5, k6⟩, _⟩ := blk7_facts hb
  have HB := Lib.hid hb
  have HA := Lib.hid ha
  have HF := Lib.hid F0
  clear ha hb F0
  go_region_held3 (fun w' => w'.cell? ⟨w.heap.size, 0, none⟩ = some (.string ⟨fr.toArray⟩) ∧ w'.cell? ⟨w.heap.size, 1, none⟩ = some (.int .i64 at_) ∧ w'.cell? ⟨w.heap.size, 2, none⟩ = some (.int .u8 qs) ∧ w'.cell? ⟨w.heap.size, 3, none⟩ = some (.bool rt) ∧ w'.cell? ⟨w.heap.size, 4, none⟩ = some (.slice A n c) ∧ w'.cell? ⟨w.heap.size, 5, none⟩ = some (.string ⟨tp.toArray⟩) ∧ w'.cell? ⟨w.heap.size, 6, none⟩ = some (.string ⟨py.toArray⟩)) (first | go_keep | exact kk) ((go_at_call 50; refine (told_any _ ps _ (HV.out.fr HF.out.drew (by simp)) hl).mono ?_; rintro _ y2 ⟨v2, rfl, own2, g2⟩; obtain ⟨A2, c2, rfl⟩ := own_shape own2; have kk := (blk7_facts (g2.blk HB.out (by simp))).1; have ha2 := g2.blk HA.out (by simp); obtain ⟨⟨d0, d1, d2, d3, d4, d5, d6⟩, ⟨g0, g1, g2', g3, g4, g5, g6⟩, _⟩ := blk7_facts ha2))
  have hlow := Lib.hid (fun k hk => (own2.lt k hk).1)
  have hsy : w.heap.size + 1 < y.drew.heap.size := blk_lt HA.out
  have HZ := Lib.hid (blk7_set ha2 (.string ⟨fr.toArray⟩) (.int .i64 at_) (.int .u8 qs) (.bool rt) (.slice A2 ps.length c2) (.string ⟨tp.toArray⟩) (.string ⟨py.toArray⟩))
  have FZ := Lib.hid (fr7_set ((HF.out.drew).trans g2 (by simp)) (b := w.heap.size + 1) (by omega) (.string ⟨fr.toArray⟩) (.int .i64 at_) (.int .u8 qs) (.bool rt) (.slice A2 ps.length c2) (.string ⟨tp.toArray⟩) (.string ⟨py.toArray⟩))
  have OZ := Lib.hid (own_set7 own2 (b := w.heap.size + 1) (by intro e; have := hlow.out _ e.symm; omega) (.string ⟨fr.toArray⟩) (.int .i64 at_) (.int .u8 qs) (.bool rt) (.slice A2 ps.length c2) (.string ⟨tp.toArray⟩) (.string ⟨py.toArray⟩))
  go_wp2
  change bodyPost _ _ _ _ _ (set7 y2 (w.heap.size + 1) (.string ⟨fr.toArray⟩) (.int .i64 at_) (.int .u8 qs) (.bool rt) (.slice A2 ps.length c2) (.string ⟨tp.toArray⟩) (.string ⟨py.toArray⟩))
  generalize set7 y2 (w.heap.size + 1) (.string ⟨fr.toArray⟩) (.int .i64 at_) (.int .u8 qs) (.bool rt) (.slice A2 ps.length c2) (.string ⟨tp.toArray⟩) (.string ⟨py.toArray⟩) = W5 at *
  clear d0 d1 d2 d3 d4 d5 d6 g0 g1 g2' g3 g4 g5 g6 e0 e1 e2 e3 e4 e5 e6 k0 k1 k2 k3 k4 k5 k6
  obtain ⟨e0, e1, e2, e3, e4, e5, e6⟩ := (blk7_facts HZ.out).1
  refine bodyPost_ret (v := .agg #[.string ⟨fr.toArray⟩, .int .i64 at_, .int .u8 qs, .bool rt, .slice A2 ps.length c2, .string ⟨tp.toArray⟩, .string ⟨py.toArray⟩]) (by simp [results, Try.results21, go_sem, e0, e1, e2, e3, e4, e5, e6]) rfl ?_
  exact ⟨A2, c2, rfl, TView.own OZ.out, FZ.out⟩
theorem same12_any (x y : Ms) (ps : List Pr) (w : World) (hx : View w (.slice x.A x.n x.c) ps.length (ps.flatMap prE)) (hy : View w (.slice y.A y.n y.c) ps.length (ps.flatMap prE)) (hl : ps.length ≤ 1000000) (he : lg (x, ps) = lg (y, ps)) :
    Calls Try.prog 20 #[.agg (msC x).toArray, .agg (msC y).toArray] w fun e w' => e = .returned (.int .i64 0) ∧ Fr [] w w' := by
  obtain ⟨fr, at_, qs, rt, A, n, c, tp, py⟩ := x
  obtain ⟨fr', at', qs', rt', A', n', c', tp', py'⟩ := y
  simp only [lg, Mg.mk.injEq, true_and] at he
  obtain ⟨rfl, rfl, rfl, rfl, rfl, rfl⟩ := he
  dsimp only at hx hy
  have HX := Lib.hid hx
  have HY := Lib.hid hy
  have F0 : Fr [] w ((w.alloc (.cells #[.string ⟨fr.toArray⟩, .int .i64 at_, .int .u8 qs, .bool rt, .slice A n c, .string ⟨tp.toArray⟩, .string ⟨py.toArray⟩] 42)).alloc (.cells #[.string ⟨fr.toArray⟩, .int .i64 at_, .int .u8 qs, .bool rt, .slice A' n' c', .string ⟨tp.toArray⟩, .string ⟨py.toArray⟩] 42)) := ((Fr.refl _ _).alloc _).alloc _
  have ha := blk_old (blk_new w (.cells #[.string ⟨fr.toArray⟩, .int .i64 at_, .int .u8 qs, .bool rt, .slice A n c, .string ⟨tp.toArray⟩, .string ⟨py.toArray⟩] 42)) (.cells #[.string ⟨fr.toArray⟩, .int .i64 at_, .int .u8 qs, .bool rt, .slice A' n' c', .string ⟨tp.toArray⟩, .string ⟨py.toArray⟩] 42)
  have hb := blk_at1 w (.cells #[.string ⟨fr.toArray⟩, .int .i64 at_, .int .u8 qs, .bool rt, .slice A n c, .string ⟨tp.toArray⟩, .string ⟨py.toArray⟩] 42) (.cells #[.string ⟨fr.toArray⟩, .int .i64 at_, .int .u8 qs, .bool rt, .slice A' n' c', .string ⟨tp.toArray⟩, .string ⟨py.toArray⟩] 42)
  clear hx hy
  unfold msC
  go_enter Try.func20, Try.ntmps20
  go_wp2_with fail
  refine (props6_any _ _ ps _ (HX.out.fr F0 (by simp)) (HY.out.fr F0 (by simp)) (by omega)).mono ?_
  rintro _ w1 ⟨rfl, g1⟩
  obtain ⟨⟨e0, e1, e2, e3, e4, e5, e6⟩, _, _⟩ := blk7_facts (g1.blk ha (by simp))
  obtain ⟨⟨d0, d1, d2, d3, d4, d5, d6⟩, _, _⟩ := blk7_facts (g1.blk hb (by simp))
  clear ha hb
  go_wp2
  go_ret
  exact ⟨rfl, F0.trans g1 (by simp)⟩
end Go.Proofs.Ytnplinohoflabaa
