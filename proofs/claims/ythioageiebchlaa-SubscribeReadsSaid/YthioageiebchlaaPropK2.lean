/- What take of the reference of layer 3 comes to, for kind 2. Conditions: strings that may be. -/
import Derived.Test.YthioageiebchlaaPropK
namespace Go.Proofs.Ythioageiebchlaa
open Go.RowKit
set_option linter.unusedSimpArgs false
set_option maxRecDepth 100000 in
set_option maxHeartbeats 4000000 in
theorem rtake2_pany (q : Rd) (id : Int) (w : World) (hk : (ruleOf id).kind = 2) (hs : q.s.length ≤ 9223372036854775807) :
    Calls Try.prog 95 #[.agg #[.string ⟨q.s.toArray⟩, .int .i64 q.e], .int .i64 id] w (RTakeTo (valR (ruleOf id) id q) w) := by
  have hc := Lib.hid (blk_old (blk_old (blk_old (blk_new w (.cells #[.string ⟨q.s.toArray⟩, .int .i64 q.e] 99)) (.cells #[.string ⟨#[]⟩, .int .i64 0] 99)) (.cells #[.int .i64 0, .int .u32 0, .string ⟨#[]⟩, .string ⟨#[]⟩] 121)) (.cells #[.int .i64 id, .int .u32 0, .string ⟨#[]⟩, .string ⟨#[]⟩] 121))
  have hr := Lib.hid (show ((((w.alloc (.cells #[.string ⟨q.s.toArray⟩, .int .i64 q.e] 99)).alloc (.cells #[.string ⟨#[]⟩, .int .i64 0] 99)).alloc (.cells #[.int .i64 0, .int .u32 0, .string ⟨#[]⟩, .string ⟨#[]⟩] 121)).alloc (.cells #[.int .i64 id, .int .u32 0, .string ⟨#[]⟩, .string ⟨#[]⟩] 121)).heap[w.heap.size + 1]? = some (.cells #[.string ⟨#[]⟩, .int .i64 0] 99 (0, 0)) from blk_old (blk_old (blk_atH _ _ _ (by simp)) _) _)
  have hs2 := Lib.hid (show ((((w.alloc (.cells #[.string ⟨q.s.toArray⟩, .int .i64 q.e] 99)).alloc (.cells #[.string ⟨#[]⟩, .int .i64 0] 99)).alloc (.cells #[.int .i64 0, .int .u32 0, .string ⟨#[]⟩, .string ⟨#[]⟩] 121)).alloc (.cells #[.int .i64 id, .int .u32 0, .string ⟨#[]⟩, .string ⟨#[]⟩] 121)).heap[w.heap.size + 2]? = some (.cells #[.int .i64 0, .int .u32 0, .string ⟨#[]⟩, .string ⟨#[]⟩] 121 (0, 0)) from blk_old (blk_atH _ _ _ (by simp)) _)
  have hp := Lib.hid (show ((((w.alloc (.cells #[.string ⟨q.s.toArray⟩, .int .i64 q.e] 99)).alloc (.cells #[.string ⟨#[]⟩, .int .i64 0] 99)).alloc (.cells #[.int .i64 0, .int .u32 0, .string ⟨#[]⟩, .string ⟨#[]⟩] 121)).alloc (.cells #[.int .i64 id, .int .u32 0, .string ⟨#[]⟩, .string ⟨#[]⟩] 121)).heap[w.heap.size + 3]? = some (.cells #[.int .i64 id, .int .u32 0, .string ⟨#[]⟩, .string ⟨#[]⟩] 121 (0, 0)) from blk_atH _ _ _ (by simp))
  have hf := Lib.hid (show Fr [] w ((((w.alloc (.cells #[.string ⟨q.s.toArray⟩, .int .i64 q.e] 99)).alloc (.cells #[.string ⟨#[]⟩, .int .i64 0] 99)).alloc (.cells #[.int .i64 0, .int .u32 0, .string ⟨#[]⟩, .string ⟨#[]⟩] 121)).alloc (.cells #[.int .i64 id, .int .u32 0, .string ⟨#[]⟩, .string ⟨#[]⟩] 121)) from ((((Fr.refl [] w).alloc _).alloc _).alloc _).alloc _)
  have Hk := Lib.hid hk
  clear hk
  obtain ⟨⟨n, q1⟩, hq⟩ : ∃ y, q.num 2 = y := ⟨_, rfl⟩
  have HV0 := Lib.hid (show valR (ruleOf id) id q = (⟨id, n, [], []⟩, chkR (ruleOf id) n q1) from by unfold valR; simp only [Hk.out]; rw [show q.num 2 = (n, q1) from hq]; rfl)
  have hn : n < 65536 := by have := q.num_lt 2; rw [hq] at this; simpa using this
  have HS := Lib.hid (says_chk id n (Or.inr (Or.inl (And.intro Hk.out hn))))
  replace hn : n < 4294967296 := by omega
  replace hq : q.num (2 : Int).toNat = (n, q1) := hq
  go_enter Try.func95, Try.ntmps95
  go_wp2_with fail
  refine (rkind_any id _).mono ?_
  rintro _ wa ⟨rfl, hwa⟩
  rw [Hk.out]
  rw [hwa] at hc hr hs2 hp hf
  clear hwa
  obtain ⟨c0, c1, f0, f1, hlc⟩ := blk2_facts hc.out
  go_upto_region 6 with (fail)
  go_cut [7, 8] (fun v7 v8 wx => ∃ d, v7 = .pointer (some ⟨d, 0, none⟩) ∧ v8 = .int .u32 (n : Int) ∧ wx.heap[d]? = some (.cells #[.string ⟨q1.s.toArray⟩, .int .i64 q1.e] 99 (0, 0)) ∧ Fr [] wa wx ∧ wa.heap.size ≤ d)
  case first =>
    refine wp_region_held_drew (S := fun w' => w'.cell? ⟨w.heap.size, 0, none⟩ = some (.string ⟨q.s.toArray⟩) ∧ w'.cell? ⟨w.heap.size, 1, none⟩ = some (.int .i64 q.e)) (by kernel_rfl) ⟨c0, c1⟩ (fun hHeld => ?_)
    refine wpAnyH_take (i := 0) (oi := _) (v := ?_) rfl (by kernel_rfl) (by kernel_rfl) (by kernel_rfl) (fun _ _ _ h => h) (Or.inl ⟨by rfl, ?_⟩) hHeld ?_
    rotate_left
    · intro w hSw
      (try dsimp only at hSw)
      go_simp
      try with_reducible rfl
    try simp only [Act.put, List.getElem_toArray, List.getElem_cons_succ, List.getElem_cons_zero, List.setIfInBounds_toArray, List.set_cons_zero, List.set_cons_succ]
    refine wpAnyH_take (i := 2) (oi := _) (v := ?_) rfl (by kernel_rfl) (by kernel_rfl) (by kernel_rfl) (fun _ _ _ h => h) (Or.inl ⟨by rfl, ?_⟩) hHeld ?_
    rotate_left
    · intro w hSw
      (try dsimp only at hSw)
      go_simp
      try with_reducible rfl
    try simp only [Act.put, List.getElem_toArray, List.getElem_cons_succ, List.getElem_cons_zero, List.setIfInBounds_toArray, List.set_cons_zero, List.set_cons_succ]
    refine wpAnyH_ready (rs := [1, 3, 10]) (by kernel_rfl) (by simp) ?_
    refine AllReadyH.cons (o := _) rfl (fun K hK => ?_) ?_
    · go_simp
      have hy : Fr [] wa (wa.alloc (.cells #[.int .i64 0, .int .i64 1, .int .i64 2, .int .i64 4] 3)).drew := ((Fr.refl [] wa).alloc _).drew
      refine hK.out _ _ ⟨hy.cell c0 (by simp), hy.cell c1 (by simp)⟩ (fun hHeld => ?_)
      clear hK K
      try simp only [Act.put, List.getElem_toArray, List.getElem_cons_succ, List.getElem_cons_zero, List.setIfInBounds_toArray, List.set_cons_zero, List.set_cons_succ]
      refine wpAnyH_ready (rs := [3, 10]) (by kernel_rfl) (by simp) ?_
      refine AllReadyH.cons (o := _) rfl (fun K hK => ?_) ?_
      · go_simp
        refine (rkind_any id _).mono ?_
        rintro _ _ ⟨rfl, rfl⟩
        rw [Hk.out]
        go_wp2_with fail
        refine hK.out _ _ hHeld (fun hHeld => ?_)
        clear hK K
        try simp only [Act.put, List.getElem_toArray, List.getElem_cons_succ, List.getElem_cons_zero, List.setIfInBounds_toArray, List.set_cons_zero, List.set_cons_succ]
        refine wpAnyH_take (i := 4) (oi := _) (v := ?_) rfl (by kernel_rfl) (by kernel_rfl) (by kernel_rfl) (fun _ _ _ h => h) (Or.inl ⟨by rfl, ?_⟩) hHeld ?_
        rotate_left
        · intro w hSw
          (try dsimp only at hSw)
          go_simp
          try with_reducible rfl
        try simp only [Act.put, List.getElem_toArray, List.getElem_cons_succ, List.getElem_cons_zero, List.setIfInBounds_toArray, List.set_cons_zero, List.set_cons_succ]
        refine wpAnyH_ready (rs := [5, 10]) (by kernel_rfl) (by simp) ?_
        refine AllReadyH.cons (o := _) rfl (fun K hK => ?_) ?_
        · have ic := blk_cell (w := (wa.alloc (.cells #[.int .i64 0, .int .i64 1, .int .i64 2, .int .i64 4] 3)).drew) (blk_new wa (.cells #[.int .i64 0, .int .i64 1, .int .i64 2, .int .i64 4] 3)) 2
          go_simp
          refine hK.out _ _ hHeld (fun hHeld => ?_)
          clear hK K
          try simp only [Act.put, List.getElem_toArray, List.getElem_cons_succ, List.getElem_cons_zero, List.setIfInBounds_toArray, List.set_cons_zero, List.set_cons_succ]
          refine wpAnyH_ready (rs := [6, 10]) (by kernel_rfl) (by simp) ?_
          refine AllReadyH.cons (o := _) rfl (fun K hK => ?_) ?_
          · go_simp
            refine (rnum_any q 2 _ hs (by decide) (by decide)).mono ?_
            rintro _ x1 ⟨rfl, g1⟩
            rw [hq]
            dsimp only
            have hx : Fr [] wa x1 := (((Fr.refl [] wa).alloc _).drew).trans g1 (by simp)
            go_wp2_with fail
            refine hK.out _ _ ⟨hx.cell c0 (by simp), hx.cell c1 (by simp)⟩ (fun hHeld => ?_)
            clear hK K
            try simp only [Act.put, List.getElem_toArray, List.getElem_cons_succ, List.getElem_cons_zero, List.setIfInBounds_toArray, List.set_cons_zero, List.set_cons_succ]
            refine wpAnyH_take (i := 7) (oi := _) (v := ?_) rfl (by kernel_rfl) (by kernel_rfl) (by kernel_rfl) (fun _ _ _ h => h) (Or.inl ⟨by rfl, ?_⟩) hHeld ?_
            rotate_left
            · intro w hSw
              (try dsimp only at hSw)
              go_simp
              try with_reducible rfl
            try simp only [Act.put, List.getElem_toArray, List.getElem_cons_succ, List.getElem_cons_zero, List.setIfInBounds_toArray, List.set_cons_zero, List.set_cons_succ]
            refine wpAnyH_take (i := 8) (oi := _) (v := ?_) rfl (by kernel_rfl) (by kernel_rfl) (by kernel_rfl) (fun _ _ _ h => h) (Or.inl ⟨by rfl, ?_⟩) hHeld ?_
            rotate_left
            · intro w hSw
              (try dsimp only at hSw)
              go_simp
              try with_reducible rfl
            try simp only [Act.put, List.getElem_toArray, List.getElem_cons_succ, List.getElem_cons_zero, List.setIfInBounds_toArray, List.set_cons_zero, List.set_cons_succ]
            refine wpAnyH_take (i := 9) (oi := _) (v := ?_) rfl (by kernel_rfl) (by kernel_rfl) (by kernel_rfl) (fun _ _ _ h => h) (Or.inl ⟨by rfl, ?_⟩) hHeld ?_
            rotate_left
            · intro w hSw
              (try dsimp only at hSw)
              go_simp
              try with_reducible rfl
            try simp only [Act.put, List.getElem_toArray, List.getElem_cons_succ, List.getElem_cons_zero, List.setIfInBounds_toArray, List.set_cons_zero, List.set_cons_succ]
            refine wpAnyH_ready (rs := [10]) (by kernel_rfl) (by simp) ?_
            refine AllReadyH.cons (o := _) rfl (fun K hK => ?_) ?_
            · go_simp
              have hy := hx.alloc (.cells #[.string ⟨#[]⟩, .int .i64 0] 99)
              refine hK.out _ _ ⟨hy.cell c0 (by simp), hy.cell c1 (by simp)⟩ (fun hHeld => ?_)
              clear hK K
              try simp only [Act.put, List.getElem_toArray, List.getElem_cons_succ, List.getElem_cons_zero, List.setIfInBounds_toArray, List.set_cons_zero, List.set_cons_succ]
              refine wpAnyH_ready (rs := [11]) (by kernel_rfl) (by simp) ?_
              refine AllReadyH.cons (o := _) rfl (fun K hK => ?_) ?_
              · go_simp
                have hz := hx.alloc (.cells #[.string ⟨q1.s.toArray⟩, .int .i64 q1.e] 99)
                refine hK.out _ _ ⟨hz.cell c0 (by simp), hz.cell c1 (by simp)⟩ (fun hHeld => ?_)
                clear hK K
                try simp only [Act.put, List.getElem_toArray, List.getElem_cons_succ, List.getElem_cons_zero, List.setIfInBounds_toArray, List.set_cons_zero, List.set_cons_succ]
                refine wpAnyH_take (i := 12) (oi := _) (v := ?_) rfl (by kernel_rfl) (by kernel_rfl) (by kernel_rfl) (fun _ _ _ h => h) (Or.inl ⟨by rfl, ?_⟩) hHeld ?_
                rotate_left
                · intro w hSw
                  (try dsimp only at hSw)
                  go_simp
                  try with_reducible rfl
                try simp only [Act.put, List.getElem_toArray, List.getElem_cons_succ, List.getElem_cons_zero, List.setIfInBounds_toArray, List.set_cons_zero, List.set_cons_succ]
                refine wpAnyH_done (by kernel_rfl) ?_ _
                go_wp2
                go_meet
                exact ⟨x1.heap.size, rfl, rfl, blk_new _ _, hz, hx.size⟩
              exact AllReadyH.nil
            exact AllReadyH.nil
          refine AllReadyH.cons (o := _) rfl (fun K hK => ?_) ?_
          · go_simp
            have hy : Fr [] wa ((wa.alloc (.cells #[.int .i64 0, .int .i64 1, .int .i64 2, .int .i64 4] 3)).alloc (.cells #[.string ⟨#[]⟩, .int .i64 0] 99)).drew := (((Fr.refl [] wa).alloc _).alloc _).drew
            refine hK.out _ _ ⟨hy.cell c0 (by simp), hy.cell c1 (by simp)⟩ (fun hHeld => ?_)
            clear hK K
            try simp only [Act.put, List.getElem_toArray, List.getElem_cons_succ, List.getElem_cons_zero, List.setIfInBounds_toArray, List.set_cons_zero, List.set_cons_succ]
            refine wpAnyH_ready (rs := [6]) (by kernel_rfl) (by simp) ?_
            refine AllReadyH.cons (o := _) rfl (fun K hK => ?_) ?_
            · go_simp
              refine (rnum_any q 2 _ hs (by decide) (by decide)).mono ?_
              rintro _ x1 ⟨rfl, g1⟩
              rw [hq]
              dsimp only
              have hx : Fr [] wa x1 := ((((Fr.refl [] wa).alloc _).alloc _).drew).trans g1 (by simp)
              have nb := g1.blk (b := wa.heap.size + 1) (show (((wa.alloc (.cells #[.int .i64 0, .int .i64 1, .int .i64 2, .int .i64 4] 3)).alloc (.cells #[.string ⟨#[]⟩, .int .i64 0] 99)).drew).heap[wa.heap.size + 1]? = some (.cells #[.string ⟨#[]⟩, .int .i64 0] 99 (0, 0)) from blk_atH (wa.alloc (.cells #[.int .i64 0, .int .i64 1, .int .i64 2, .int .i64 4] 3)) (.cells #[.string ⟨#[]⟩, .int .i64 0] 99) (wa.heap.size + 1) (by simp)) (by simp)
              obtain ⟨n0, n1, n2, n3, n4⟩ := blk2_facts nb
              go_wp2_with fail
              refine hK.out _ _ ⟨hx.cell c0 (by simp), hx.cell c1 (by simp)⟩ (fun hHeld => ?_)
              clear hK K
              try simp only [Act.put, List.getElem_toArray, List.getElem_cons_succ, List.getElem_cons_zero, List.setIfInBounds_toArray, List.set_cons_zero, List.set_cons_succ]
              refine wpAnyH_take (i := 7) (oi := _) (v := ?_) rfl (by kernel_rfl) (by kernel_rfl) (by kernel_rfl) (fun _ _ _ h => h) (Or.inl ⟨by rfl, ?_⟩) hHeld ?_
              rotate_left
              · intro w hSw
                (try dsimp only at hSw)
                go_simp
                try with_reducible rfl
              try simp only [Act.put, List.getElem_toArray, List.getElem_cons_succ, List.getElem_cons_zero, List.setIfInBounds_toArray, List.set_cons_zero, List.set_cons_succ]
              refine wpAnyH_take (i := 8) (oi := _) (v := ?_) rfl (by kernel_rfl) (by kernel_rfl) (by kernel_rfl) (fun _ _ _ h => h) (Or.inl ⟨by rfl, ?_⟩) hHeld ?_
              rotate_left
              · intro w hSw
                (try dsimp only at hSw)
                go_simp
                try with_reducible rfl
              try simp only [Act.put, List.getElem_toArray, List.getElem_cons_succ, List.getElem_cons_zero, List.setIfInBounds_toArray, List.set_cons_zero, List.set_cons_succ]
              refine wpAnyH_take (i := 9) (oi := _) (v := ?_) rfl (by kernel_rfl) (by kernel_rfl) (by kernel_rfl) (fun _ _ _ h => h) (Or.inl ⟨by rfl, ?_⟩) hHeld ?_
              rotate_left
              · intro w hSw
                (try dsimp only at hSw)
                go_simp
                try with_reducible rfl
              try simp only [Act.put, List.getElem_toArray, List.getElem_cons_succ, List.getElem_cons_zero, List.setIfInBounds_toArray, List.set_cons_zero, List.set_cons_succ]
              refine wpAnyH_ready (rs := [11]) (by kernel_rfl) (by simp) ?_
              refine AllReadyH.cons (o := _) rfl (fun K hK => ?_) ?_
              · go_simp
                have hz := (hx.setCell (p := ⟨wa.heap.size + 1, 0, none⟩) (Or.inl (by simp)) (.string ⟨q1.s.toArray⟩)).setCell (p := ⟨wa.heap.size + 1, 1, none⟩) (Or.inl (by simp)) (.int .i64 q1.e)
                refine hK.out _ _ ⟨hz.cell c0 (by simp), hz.cell c1 (by simp)⟩ (fun hHeld => ?_)
                clear hK K
                try simp only [Act.put, List.getElem_toArray, List.getElem_cons_succ, List.getElem_cons_zero, List.setIfInBounds_toArray, List.set_cons_zero, List.set_cons_succ]
                refine wpAnyH_take (i := 12) (oi := _) (v := ?_) rfl (by kernel_rfl) (by kernel_rfl) (by kernel_rfl) (fun _ _ _ h => h) (Or.inl ⟨by rfl, ?_⟩) hHeld ?_
                rotate_left
                · intro w hSw
                  (try dsimp only at hSw)
                  go_simp
                  try with_reducible rfl
                try simp only [Act.put, List.getElem_toArray, List.getElem_cons_succ, List.getElem_cons_zero, List.setIfInBounds_toArray, List.set_cons_zero, List.set_cons_succ]
                refine wpAnyH_done (by kernel_rfl) ?_ _
                go_wp2
                go_meet
                exact ⟨wa.heap.size + 1, rfl, rfl, blk2_set nb _ _, hz, by simp⟩
              exact AllReadyH.nil
            exact AllReadyH.nil
          exact AllReadyH.nil
        refine AllReadyH.cons (o := _) rfl (fun K hK => ?_) ?_
        · go_simp
          have hy : Fr [] wa ((wa.alloc (.cells #[.int .i64 0, .int .i64 1, .int .i64 2, .int .i64 4] 3)).alloc (.cells #[.string ⟨#[]⟩, .int .i64 0] 99)).drew := (((Fr.refl [] wa).alloc _).alloc _).drew
          refine hK.out _ _ ⟨hy.cell c0 (by simp), hy.cell c1 (by simp)⟩ (fun hHeld => ?_)
          clear hK K
          try simp only [Act.put, List.getElem_toArray, List.getElem_cons_succ, List.getElem_cons_zero, List.setIfInBounds_toArray, List.set_cons_zero, List.set_cons_succ]
          refine wpAnyH_ready (rs := [5]) (by kernel_rfl) (by simp) ?_
          refine AllReadyH.cons (o := _) rfl (fun K hK => ?_) ?_
          · have ic := blk_cell (w := ((wa.alloc (.cells #[.int .i64 0, .int .i64 1, .int .i64 2, .int .i64 4] 3)).alloc (.cells #[.string ⟨#[]⟩, .int .i64 0] 99)).drew) (blk_old (blk_new wa (.cells #[.int .i64 0, .int .i64 1, .int .i64 2, .int .i64 4] 3)) (.cells #[.string ⟨#[]⟩, .int .i64 0] 99)) 2
            go_simp
            refine hK.out _ _ hHeld (fun hHeld => ?_)
            clear hK K
            try simp only [Act.put, List.getElem_toArray, List.getElem_cons_succ, List.getElem_cons_zero, List.setIfInBounds_toArray, List.set_cons_zero, List.set_cons_succ]
            refine wpAnyH_ready (rs := [6]) (by kernel_rfl) (by simp) ?_
            refine AllReadyH.cons (o := _) rfl (fun K hK => ?_) ?_
            · go_simp
              refine (rnum_any q 2 _ hs (by decide) (by decide)).mono ?_
              rintro _ x1 ⟨rfl, g1⟩
              rw [hq]
              dsimp only
              have hx : Fr [] wa x1 := ((((Fr.refl [] wa).alloc _).alloc _).drew).trans g1 (by simp)
              have nb := g1.blk (b := wa.heap.size + 1) (show (((wa.alloc (.cells #[.int .i64 0, .int .i64 1, .int .i64 2, .int .i64 4] 3)).alloc (.cells #[.string ⟨#[]⟩, .int .i64 0] 99)).drew).heap[wa.heap.size + 1]? = some (.cells #[.string ⟨#[]⟩, .int .i64 0] 99 (0, 0)) from blk_atH (wa.alloc (.cells #[.int .i64 0, .int .i64 1, .int .i64 2, .int .i64 4] 3)) (.cells #[.string ⟨#[]⟩, .int .i64 0] 99) (wa.heap.size + 1) (by simp)) (by simp)
              obtain ⟨n0, n1, n2, n3, n4⟩ := blk2_facts nb
              go_wp2_with fail
              refine hK.out _ _ ⟨hx.cell c0 (by simp), hx.cell c1 (by simp)⟩ (fun hHeld => ?_)
              clear hK K
              try simp only [Act.put, List.getElem_toArray, List.getElem_cons_succ, List.getElem_cons_zero, List.setIfInBounds_toArray, List.set_cons_zero, List.set_cons_succ]
              refine wpAnyH_take (i := 7) (oi := _) (v := ?_) rfl (by kernel_rfl) (by kernel_rfl) (by kernel_rfl) (fun _ _ _ h => h) (Or.inl ⟨by rfl, ?_⟩) hHeld ?_
              rotate_left
              · intro w hSw
                (try dsimp only at hSw)
                go_simp
                try with_reducible rfl
              try simp only [Act.put, List.getElem_toArray, List.getElem_cons_succ, List.getElem_cons_zero, List.setIfInBounds_toArray, List.set_cons_zero, List.set_cons_succ]
              refine wpAnyH_take (i := 8) (oi := _) (v := ?_) rfl (by kernel_rfl) (by kernel_rfl) (by kernel_rfl) (fun _ _ _ h => h) (Or.inl ⟨by rfl, ?_⟩) hHeld ?_
              rotate_left
              · intro w hSw
                (try dsimp only at hSw)
                go_simp
                try with_reducible rfl
              try simp only [Act.put, List.getElem_toArray, List.getElem_cons_succ, List.getElem_cons_zero, List.setIfInBounds_toArray, List.set_cons_zero, List.set_cons_succ]
              refine wpAnyH_take (i := 9) (oi := _) (v := ?_) rfl (by kernel_rfl) (by kernel_rfl) (by kernel_rfl) (fun _ _ _ h => h) (Or.inl ⟨by rfl, ?_⟩) hHeld ?_
              rotate_left
              · intro w hSw
                (try dsimp only at hSw)
                go_simp
                try with_reducible rfl
              try simp only [Act.put, List.getElem_toArray, List.getElem_cons_succ, List.getElem_cons_zero, List.setIfInBounds_toArray, List.set_cons_zero, List.set_cons_succ]
              refine wpAnyH_ready (rs := [11]) (by kernel_rfl) (by simp) ?_
              refine AllReadyH.cons (o := _) rfl (fun K hK => ?_) ?_
              · go_simp
                have hz := (hx.setCell (p := ⟨wa.heap.size + 1, 0, none⟩) (Or.inl (by simp)) (.string ⟨q1.s.toArray⟩)).setCell (p := ⟨wa.heap.size + 1, 1, none⟩) (Or.inl (by simp)) (.int .i64 q1.e)
                refine hK.out _ _ ⟨hz.cell c0 (by simp), hz.cell c1 (by simp)⟩ (fun hHeld => ?_)
                clear hK K
                try simp only [Act.put, List.getElem_toArray, List.getElem_cons_succ, List.getElem_cons_zero, List.setIfInBounds_toArray, List.set_cons_zero, List.set_cons_succ]
                refine wpAnyH_take (i := 12) (oi := _) (v := ?_) rfl (by kernel_rfl) (by kernel_rfl) (by kernel_rfl) (fun _ _ _ h => h) (Or.inl ⟨by rfl, ?_⟩) hHeld ?_
                rotate_left
                · intro w hSw
                  (try dsimp only at hSw)
                  go_simp
                  try with_reducible rfl
                try simp only [Act.put, List.getElem_toArray, List.getElem_cons_succ, List.getElem_cons_zero, List.setIfInBounds_toArray, List.set_cons_zero, List.set_cons_succ]
                refine wpAnyH_done (by kernel_rfl) ?_ _
                go_wp2
                go_meet
                exact ⟨wa.heap.size + 1, rfl, rfl, blk2_set nb _ _, hz, by simp⟩
              exact AllReadyH.nil
            exact AllReadyH.nil
          exact AllReadyH.nil
        exact AllReadyH.nil
      refine AllReadyH.cons (o := _) rfl (fun K hK => ?_) ?_
      · go_simp
        have hy : Fr [] wa ((wa.alloc (.cells #[.int .i64 0, .int .i64 1, .int .i64 2, .int .i64 4] 3)).alloc (.cells #[.string ⟨#[]⟩, .int .i64 0] 99)).drew := (((Fr.refl [] wa).alloc _).alloc _).drew
        refine hK.out _ _ ⟨hy.cell c0 (by simp), hy.cell c1 (by simp)⟩ (fun hHeld => ?_)
        clear hK K
        try simp only [Act.put, List.getElem_toArray, List.getElem_cons_succ, List.getElem_cons_zero, List.setIfInBounds_toArray, List.set_cons_zero, List.set_cons_succ]
        refine wpAnyH_ready (rs := [3]) (by kernel_rfl) (by simp) ?_
        refine AllReadyH.cons (o := _) rfl (fun K hK => ?_) ?_
        · go_simp
          refine (rkind_any id _).mono ?_
          rintro _ _ ⟨rfl, rfl⟩
          rw [Hk.out]
          go_wp2_with fail
          refine hK.out _ _ hHeld (fun hHeld => ?_)
          clear hK K
          try simp only [Act.put, List.getElem_toArray, List.getElem_cons_succ, List.getElem_cons_zero, List.setIfInBounds_toArray, List.set_cons_zero, List.set_cons_succ]
          refine wpAnyH_take (i := 4) (oi := _) (v := ?_) rfl (by kernel_rfl) (by kernel_rfl) (by kernel_rfl) (fun _ _ _ h => h) (Or.inl ⟨by rfl, ?_⟩) hHeld ?_
          rotate_left
          · intro w hSw
            (try dsimp only at hSw)
            go_simp
            try with_reducible rfl
          try simp only [Act.put, List.getElem_toArray, List.getElem_cons_succ, List.getElem_cons_zero, List.setIfInBounds_toArray, List.set_cons_zero, List.set_cons_succ]
          refine wpAnyH_ready (rs := [5]) (by kernel_rfl) (by simp) ?_
          refine AllReadyH.cons (o := _) rfl (fun K hK => ?_) ?_
          · have ic := blk_cell (w := ((wa.alloc (.cells #[.int .i64 0, .int .i64 1, .int .i64 2, .int .i64 4] 3)).alloc (.cells #[.string ⟨#[]⟩, .int .i64 0] 99)).drew) (blk_old (blk_new wa (.cells #[.int .i64 0, .int .i64 1, .int .i64 2, .int .i64 4] 3)) (.cells #[.string ⟨#[]⟩, .int .i64 0] 99)) 2
            go_simp
            refine hK.out _ _ hHeld (fun hHeld => ?_)
            clear hK K
            try simp only [Act.put, List.getElem_toArray, List.getElem_cons_succ, List.getElem_cons_zero, List.setIfInBounds_toArray, List.set_cons_zero, List.set_cons_succ]
            refine wpAnyH_ready (rs := [6]) (by kernel_rfl) (by simp) ?_
            refine AllReadyH.cons (o := _) rfl (fun K hK => ?_) ?_
            · go_simp
              refine (rnum_any q 2 _ hs (by decide) (by decide)).mono ?_
              rintro _ x1 ⟨rfl, g1⟩
              rw [hq]
              dsimp only
              have hx : Fr [] wa x1 := ((((Fr.refl [] wa).alloc _).alloc _).drew).trans g1 (by simp)
              have nb := g1.blk (b := wa.heap.size + 1) (show (((wa.alloc (.cells #[.int .i64 0, .int .i64 1, .int .i64 2, .int .i64 4] 3)).alloc (.cells #[.string ⟨#[]⟩, .int .i64 0] 99)).drew).heap[wa.heap.size + 1]? = some (.cells #[.string ⟨#[]⟩, .int .i64 0] 99 (0, 0)) from blk_atH (wa.alloc (.cells #[.int .i64 0, .int .i64 1, .int .i64 2, .int .i64 4] 3)) (.cells #[.string ⟨#[]⟩, .int .i64 0] 99) (wa.heap.size + 1) (by simp)) (by simp)
              obtain ⟨n0, n1, n2, n3, n4⟩ := blk2_facts nb
              go_wp2_with fail
              refine hK.out _ _ ⟨hx.cell c0 (by simp), hx.cell c1 (by simp)⟩ (fun hHeld => ?_)
              clear hK K
              try simp only [Act.put, List.getElem_toArray, List.getElem_cons_succ, List.getElem_cons_zero, List.setIfInBounds_toArray, List.set_cons_zero, List.set_cons_succ]
              refine wpAnyH_take (i := 7) (oi := _) (v := ?_) rfl (by kernel_rfl) (by kernel_rfl) (by kernel_rfl) (fun _ _ _ h => h) (Or.inl ⟨by rfl, ?_⟩) hHeld ?_
              rotate_left
              · intro w hSw
                (try dsimp only at hSw)
                go_simp
                try with_reducible rfl
              try simp only [Act.put, List.getElem_toArray, List.getElem_cons_succ, List.getElem_cons_zero, List.setIfInBounds_toArray, List.set_cons_zero, List.set_cons_succ]
              refine wpAnyH_take (i := 8) (oi := _) (v := ?_) rfl (by kernel_rfl) (by kernel_rfl) (by kernel_rfl) (fun _ _ _ h => h) (Or.inl ⟨by rfl, ?_⟩) hHeld ?_
              rotate_left
              · intro w hSw
                (try dsimp only at hSw)
                go_simp
                try with_reducible rfl
              try simp only [Act.put, List.getElem_toArray, List.getElem_cons_succ, List.getElem_cons_zero, List.setIfInBounds_toArray, List.set_cons_zero, List.set_cons_succ]
              refine wpAnyH_take (i := 9) (oi := _) (v := ?_) rfl (by kernel_rfl) (by kernel_rfl) (by kernel_rfl) (fun _ _ _ h => h) (Or.inl ⟨by rfl, ?_⟩) hHeld ?_
              rotate_left
              · intro w hSw
                (try dsimp only at hSw)
                go_simp
                try with_reducible rfl
              try simp only [Act.put, List.getElem_toArray, List.getElem_cons_succ, List.getElem_cons_zero, List.setIfInBounds_toArray, List.set_cons_zero, List.set_cons_succ]
              refine wpAnyH_ready (rs := [11]) (by kernel_rfl) (by simp) ?_
              refine AllReadyH.cons (o := _) rfl (fun K hK => ?_) ?_
              · go_simp
                have hz := (hx.setCell (p := ⟨wa.heap.size + 1, 0, none⟩) (Or.inl (by simp)) (.string ⟨q1.s.toArray⟩)).setCell (p := ⟨wa.heap.size + 1, 1, none⟩) (Or.inl (by simp)) (.int .i64 q1.e)
                refine hK.out _ _ ⟨hz.cell c0 (by simp), hz.cell c1 (by simp)⟩ (fun hHeld => ?_)
                clear hK K
                try simp only [Act.put, List.getElem_toArray, List.getElem_cons_succ, List.getElem_cons_zero, List.setIfInBounds_toArray, List.set_cons_zero, List.set_cons_succ]
                refine wpAnyH_take (i := 12) (oi := _) (v := ?_) rfl (by kernel_rfl) (by kernel_rfl) (by kernel_rfl) (fun _ _ _ h => h) (Or.inl ⟨by rfl, ?_⟩) hHeld ?_
                rotate_left
                · intro w hSw
                  (try dsimp only at hSw)
                  go_simp
                  try with_reducible rfl
                try simp only [Act.put, List.getElem_toArray, List.getElem_cons_succ, List.getElem_cons_zero, List.setIfInBounds_toArray, List.set_cons_zero, List.set_cons_succ]
                refine wpAnyH_done (by kernel_rfl) ?_ _
                go_wp2
                go_meet
                exact ⟨wa.heap.size + 1, rfl, rfl, blk2_set nb _ _, hz, by simp⟩
              exact AllReadyH.nil
            exact AllReadyH.nil
          exact AllReadyH.nil
        exact AllReadyH.nil
      exact AllReadyH.nil
    refine AllReadyH.cons (o := _) rfl (fun K hK => ?_) ?_
    · go_simp
      refine (rkind_any id _).mono ?_
      rintro _ _ ⟨rfl, rfl⟩
      rw [Hk.out]
      go_wp2_with fail
      refine hK.out _ _ hHeld (fun hHeld => ?_)
      clear hK K
      try simp only [Act.put, List.getElem_toArray, List.getElem_cons_succ, List.getElem_cons_zero, List.setIfInBounds_toArray, List.set_cons_zero, List.set_cons_succ]
      refine wpAnyH_ready (rs := [1, 10]) (by kernel_rfl) (by simp) ?_
      refine AllReadyH.cons (o := _) rfl (fun K hK => ?_) ?_
      · go_simp
        have hy : Fr [] wa (wa.alloc (.cells #[.int .i64 0, .int .i64 1, .int .i64 2, .int .i64 4] 3)).drew := ((Fr.refl [] wa).alloc _).drew
        refine hK.out _ _ ⟨hy.cell c0 (by simp), hy.cell c1 (by simp)⟩ (fun hHeld => ?_)
        clear hK K
        try simp only [Act.put, List.getElem_toArray, List.getElem_cons_succ, List.getElem_cons_zero, List.setIfInBounds_toArray, List.set_cons_zero, List.set_cons_succ]
        refine wpAnyH_take (i := 4) (oi := _) (v := ?_) rfl (by kernel_rfl) (by kernel_rfl) (by kernel_rfl) (fun _ _ _ h => h) (Or.inl ⟨by rfl, ?_⟩) hHeld ?_
        rotate_left
        · intro w hSw
          (try dsimp only at hSw)
          go_simp
          try with_reducible rfl
        try simp only [Act.put, List.getElem_toArray, List.getElem_cons_succ, List.getElem_cons_zero, List.setIfInBounds_toArray, List.set_cons_zero, List.set_cons_succ]
        refine wpAnyH_ready (rs := [5, 10]) (by kernel_rfl) (by simp) ?_
        refine AllReadyH.cons (o := _) rfl (fun K hK => ?_) ?_
        · have ic := blk_cell (w := (wa.alloc (.cells #[.int .i64 0, .int .i64 1, .int .i64 2, .int .i64 4] 3)).drew) (blk_new wa (.cells #[.int .i64 0, .int .i64 1, .int .i64 2, .int .i64 4] 3)) 2
          go_simp
          refine hK.out _ _ hHeld (fun hHeld => ?_)
          clear hK K
          try simp only [Act.put, List.getElem_toArray, List.getElem_cons_succ, List.getElem_cons_zero, List.setIfInBounds_toArray, List.set_cons_zero, List.set_cons_succ]
          refine wpAnyH_ready (rs := [6, 10]) (by kernel_rfl) (by simp) ?_
          refine AllReadyH.cons (o := _) rfl (fun K hK => ?_) ?_
          · go_simp
            refine (rnum_any q 2 _ hs (by decide) (by decide)).mono ?_
            rintro _ x1 ⟨rfl, g1⟩
            rw [hq]
            dsimp only
            have hx : Fr [] wa x1 := (((Fr.refl [] wa).alloc _).drew).trans g1 (by simp)
            go_wp2_with fail
            refine hK.out _ _ ⟨hx.cell c0 (by simp), hx.cell c1 (by simp)⟩ (fun hHeld => ?_)
            clear hK K
            try simp only [Act.put, List.getElem_toArray, List.getElem_cons_succ, List.getElem_cons_zero, List.setIfInBounds_toArray, List.set_cons_zero, List.set_cons_succ]
            refine wpAnyH_take (i := 7) (oi := _) (v := ?_) rfl (by kernel_rfl) (by kernel_rfl) (by kernel_rfl) (fun _ _ _ h => h) (Or.inl ⟨by rfl, ?_⟩) hHeld ?_
            rotate_left
            · intro w hSw
              (try dsimp only at hSw)
              go_simp
              try with_reducible rfl
            try simp only [Act.put, List.getElem_toArray, List.getElem_cons_succ, List.getElem_cons_zero, List.setIfInBounds_toArray, List.set_cons_zero, List.set_cons_succ]
            refine wpAnyH_take (i := 8) (oi := _) (v := ?_) rfl (by kernel_rfl) (by kernel_rfl) (by kernel_rfl) (fun _ _ _ h => h) (Or.inl ⟨by rfl, ?_⟩) hHeld ?_
            rotate_left
            · intro w hSw
              (try dsimp only at hSw)
              go_simp
              try with_reducible rfl
            try simp only [Act.put, List.getElem_toArray, List.getElem_cons_succ, List.getElem_cons_zero, List.setIfInBounds_toArray, List.set_cons_zero, List.set_cons_succ]
            refine wpAnyH_take (i := 9) (oi := _) (v := ?_) rfl (by kernel_rfl) (by kernel_rfl) (by kernel_rfl) (fun _ _ _ h => h) (Or.inl ⟨by rfl, ?_⟩) hHeld ?_
            rotate_left
            · intro w hSw
              (try dsimp only at hSw)
              go_simp
              try with_reducible rfl
            try simp only [Act.put, List.getElem_toArray, List.getElem_cons_succ, List.getElem_cons_zero, List.setIfInBounds_toArray, List.set_cons_zero, List.set_cons_succ]
            refine wpAnyH_ready (rs := [10]) (by kernel_rfl) (by simp) ?_
            refine AllReadyH.cons (o := _) rfl (fun K hK => ?_) ?_
            · go_simp
              have hy := hx.alloc (.cells #[.string ⟨#[]⟩, .int .i64 0] 99)
              refine hK.out _ _ ⟨hy.cell c0 (by simp), hy.cell c1 (by simp)⟩ (fun hHeld => ?_)
              clear hK K
              try simp only [Act.put, List.getElem_toArray, List.getElem_cons_succ, List.getElem_cons_zero, List.setIfInBounds_toArray, List.set_cons_zero, List.set_cons_succ]
              refine wpAnyH_ready (rs := [11]) (by kernel_rfl) (by simp) ?_
              refine AllReadyH.cons (o := _) rfl (fun K hK => ?_) ?_
              · go_simp
                have hz := hx.alloc (.cells #[.string ⟨q1.s.toArray⟩, .int .i64 q1.e] 99)
                refine hK.out _ _ ⟨hz.cell c0 (by simp), hz.cell c1 (by simp)⟩ (fun hHeld => ?_)
                clear hK K
                try simp only [Act.put, List.getElem_toArray, List.getElem_cons_succ, List.getElem_cons_zero, List.setIfInBounds_toArray, List.set_cons_zero, List.set_cons_succ]
                refine wpAnyH_take (i := 12) (oi := _) (v := ?_) rfl (by kernel_rfl) (by kernel_rfl) (by kernel_rfl) (fun _ _ _ h => h) (Or.inl ⟨by rfl, ?_⟩) hHeld ?_
                rotate_left
                · intro w hSw
                  (try dsimp only at hSw)
                  go_simp
                  try with_reducible rfl
                try simp only [Act.put, List.getElem_toArray, List.getElem_cons_succ, List.getElem_cons_zero, List.setIfInBounds_toArray, List.set_cons_zero, List.set_cons_succ]
                refine wpAnyH_done (by kernel_rfl) ?_ _
                go_wp2
                go_meet
                exact ⟨x1.heap.size, rfl, rfl, blk_new _ _, hz, hx.size⟩
              exact AllReadyH.nil
            exact AllReadyH.nil
          refine AllReadyH.cons (o := _) rfl (fun K hK => ?_) ?_
          · go_simp
            have hy : Fr [] wa ((wa.alloc (.cells #[.int .i64 0, .int .i64 1, .int .i64 2, .int .i64 4] 3)).alloc (.cells #[.string ⟨#[]⟩, .int .i64 0] 99)).drew := (((Fr.refl [] wa).alloc _).alloc _).drew
            refine hK.out _ _ ⟨hy.cell c0 (by simp), hy.cell c1 (by simp)⟩ (fun hHeld => ?_)
            clear hK K
            try simp only [Act.put, List.getElem_toArray, List.getElem_cons_succ, List.getElem_cons_zero, List.setIfInBounds_toArray, List.set_cons_zero, List.set_cons_succ]
            refine wpAnyH_ready (rs := [6]) (by kernel_rfl) (by simp) ?_
            refine AllReadyH.cons (o := _) rfl (fun K hK => ?_) ?_
            · go_simp
              refine (rnum_any q 2 _ hs (by decide) (by decide)).mono ?_
              rintro _ x1 ⟨rfl, g1⟩
              rw [hq]
              dsimp only
              have hx : Fr [] wa x1 := ((((Fr.refl [] wa).alloc _).alloc _).drew).trans g1 (by simp)
              have nb := g1.blk (b := wa.heap.size + 1) (show (((wa.alloc (.cells #[.int .i64 0, .int .i64 1, .int .i64 2, .int .i64 4] 3)).alloc (.cells #[.string ⟨#[]⟩, .int .i64 0] 99)).drew).heap[wa.heap.size + 1]? = some (.cells #[.string ⟨#[]⟩, .int .i64 0] 99 (0, 0)) from blk_atH (wa.alloc (.cells #[.int .i64 0, .int .i64 1, .int .i64 2, .int .i64 4] 3)) (.cells #[.string ⟨#[]⟩, .int .i64 0] 99) (wa.heap.size + 1) (by simp)) (by simp)
              obtain ⟨n0, n1, n2, n3, n4⟩ := blk2_facts nb
              go_wp2_with fail
              refine hK.out _ _ ⟨hx.cell c0 (by simp), hx.cell c1 (by simp)⟩ (fun hHeld => ?_)
              clear hK K
              try simp only [Act.put, List.getElem_toArray, List.getElem_cons_succ, List.getElem_cons_zero, List.setIfInBounds_toArray, List.set_cons_zero, List.set_cons_succ]
              refine wpAnyH_take (i := 7) (oi := _) (v := ?_) rfl (by kernel_rfl) (by kernel_rfl) (by kernel_rfl) (fun _ _ _ h => h) (Or.inl ⟨by rfl, ?_⟩) hHeld ?_
              rotate_left
              · intro w hSw
                (try dsimp only at hSw)
                go_simp
                try with_reducible rfl
              try simp only [Act.put, List.getElem_toArray, List.getElem_cons_succ, List.getElem_cons_zero, List.setIfInBounds_toArray, List.set_cons_zero, List.set_cons_succ]
              refine wpAnyH_take (i := 8) (oi := _) (v := ?_) rfl (by kernel_rfl) (by kernel_rfl) (by kernel_rfl) (fun _ _ _ h => h) (Or.inl ⟨by rfl, ?_⟩) hHeld ?_
              rotate_left
              · intro w hSw
                (try dsimp only at hSw)
                go_simp
                try with_reducible rfl
              try simp only [Act.put, List.getElem_toArray, List.getElem_cons_succ, List.getElem_cons_zero, List.setIfInBounds_toArray, List.set_cons_zero, List.set_cons_succ]
              refine wpAnyH_take (i := 9) (oi := _) (v := ?_) rfl (by kernel_rfl) (by kernel_rfl) (by kernel_rfl) (fun _ _ _ h => h) (Or.inl ⟨by rfl, ?_⟩) hHeld ?_
              rotate_left
              · intro w hSw
                (try dsimp only at hSw)
                go_simp
                try with_reducible rfl
              try simp only [Act.put, List.getElem_toArray, List.getElem_cons_succ, List.getElem_cons_zero, List.setIfInBounds_toArray, List.set_cons_zero, List.set_cons_succ]
              refine wpAnyH_ready (rs := [11]) (by kernel_rfl) (by simp) ?_
              refine AllReadyH.cons (o := _) rfl (fun K hK => ?_) ?_
              · go_simp
                have hz := (hx.setCell (p := ⟨wa.heap.size + 1, 0, none⟩) (Or.inl (by simp)) (.string ⟨q1.s.toArray⟩)).setCell (p := ⟨wa.heap.size + 1, 1, none⟩) (Or.inl (by simp)) (.int .i64 q1.e)
                refine hK.out _ _ ⟨hz.cell c0 (by simp), hz.cell c1 (by simp)⟩ (fun hHeld => ?_)
                clear hK K
                try simp only [Act.put, List.getElem_toArray, List.getElem_cons_succ, List.getElem_cons_zero, List.setIfInBounds_toArray, List.set_cons_zero, List.set_cons_succ]
                refine wpAnyH_take (i := 12) (oi := _) (v := ?_) rfl (by kernel_rfl) (by kernel_rfl) (by kernel_rfl) (fun _ _ _ h => h) (Or.inl ⟨by rfl, ?_⟩) hHeld ?_
                rotate_left
                · intro w hSw
                  (try dsimp only at hSw)
                  go_simp
                  try with_reducible rfl
                try simp only [Act.put, List.getElem_toArray, List.getElem_cons_succ, List.getElem_cons_zero, List.setIfInBounds_toArray, List.set_cons_zero, List.set_cons_succ]
                refine wpAnyH_done (by kernel_rfl) ?_ _
                go_wp2
                go_meet
                exact ⟨wa.heap.size + 1, rfl, rfl, blk2_set nb _ _, hz, by simp⟩
              exact AllReadyH.nil
            exact AllReadyH.nil
          exact AllReadyH.nil
        refine AllReadyH.cons (o := _) rfl (fun K hK => ?_) ?_
        · go_simp
          have hy : Fr [] wa ((wa.alloc (.cells #[.int .i64 0, .int .i64 1, .int .i64 2, .int .i64 4] 3)).alloc (.cells #[.string ⟨#[]⟩, .int .i64 0] 99)).drew := (((Fr.refl [] wa).alloc _).alloc _).drew
          refine hK.out _ _ ⟨hy.cell c0 (by simp), hy.cell c1 (by simp)⟩ (fun hHeld => ?_)
          clear hK K
          try simp only [Act.put, List.getElem_toArray, List.getElem_cons_succ, List.getElem_cons_zero, List.setIfInBounds_toArray, List.set_cons_zero, List.set_cons_succ]
          refine wpAnyH_ready (rs := [5]) (by kernel_rfl) (by simp) ?_
          refine AllReadyH.cons (o := _) rfl (fun K hK => ?_) ?_
          · have ic := blk_cell (w := ((wa.alloc (.cells #[.int .i64 0, .int .i64 1, .int .i64 2, .int .i64 4] 3)).alloc (.cells #[.string ⟨#[]⟩, .int .i64 0] 99)).drew) (blk_old (blk_new wa (.cells #[.int .i64 0, .int .i64 1, .int .i64 2, .int .i64 4] 3)) (.cells #[.string ⟨#[]⟩, .int .i64 0] 99)) 2
            go_simp
            refine hK.out _ _ hHeld (fun hHeld => ?_)
            clear hK K
            try simp only [Act.put, List.getElem_toArray, List.getElem_cons_succ, List.getElem_cons_zero, List.setIfInBounds_toArray, List.set_cons_zero, List.set_cons_succ]
            refine wpAnyH_ready (rs := [6]) (by kernel_rfl) (by simp) ?_
            refine AllReadyH.cons (o := _) rfl (fun K hK => ?_) ?_
            · go_simp
              refine (rnum_any q 2 _ hs (by decide) (by decide)).mono ?_
              rintro _ x1 ⟨rfl, g1⟩
              rw [hq]
              dsimp only
              have hx : Fr [] wa x1 := ((((Fr.refl [] wa).alloc _).alloc _).drew).trans g1 (by simp)
              have nb := g1.blk (b := wa.heap.size + 1) (show (((wa.alloc (.cells #[.int .i64 0, .int .i64 1, .int .i64 2, .int .i64 4] 3)).alloc (.cells #[.string ⟨#[]⟩, .int .i64 0] 99)).drew).heap[wa.heap.size + 1]? = some (.cells #[.string ⟨#[]⟩, .int .i64 0] 99 (0, 0)) from blk_atH (wa.alloc (.cells #[.int .i64 0, .int .i64 1, .int .i64 2, .int .i64 4] 3)) (.cells #[.string ⟨#[]⟩, .int .i64 0] 99) (wa.heap.size + 1) (by simp)) (by simp)
              obtain ⟨n0, n1, n2, n3, n4⟩ := blk2_facts nb
              go_wp2_with fail
              refine hK.out _ _ ⟨hx.cell c0 (by simp), hx.cell c1 (by simp)⟩ (fun hHeld => ?_)
              clear hK K
              try simp only [Act.put, List.getElem_toArray, List.getElem_cons_succ, List.getElem_cons_zero, List.setIfInBounds_toArray, List.set_cons_zero, List.set_cons_succ]
              refine wpAnyH_take (i := 7) (oi := _) (v := ?_) rfl (by kernel_rfl) (by kernel_rfl) (by kernel_rfl) (fun _ _ _ h => h) (Or.inl ⟨by rfl, ?_⟩) hHeld ?_
              rotate_left
              · intro w hSw
                (try dsimp only at hSw)
                go_simp
                try with_reducible rfl
              try simp only [Act.put, List.getElem_toArray, List.getElem_cons_succ, List.getElem_cons_zero, List.setIfInBounds_toArray, List.set_cons_zero, List.set_cons_succ]
              refine wpAnyH_take (i := 8) (oi := _) (v := ?_) rfl (by kernel_rfl) (by kernel_rfl) (by kernel_rfl) (fun _ _ _ h => h) (Or.inl ⟨by rfl, ?_⟩) hHeld ?_
              rotate_left
              · intro w hSw
                (try dsimp only at hSw)
                go_simp
                try with_reducible rfl
              try simp only [Act.put, List.getElem_toArray, List.getElem_cons_succ, List.getElem_cons_zero, List.setIfInBounds_toArray, List.set_cons_zero, List.set_cons_succ]
              refine wpAnyH_take (i := 9) (oi := _) (v := ?_) rfl (by kernel_rfl) (by kernel_rfl) (by kernel_rfl) (fun _ _ _ h => h) (Or.inl ⟨by rfl, ?_⟩) hHeld ?_
              rotate_left
              · intro w hSw
                (try dsimp only at hSw)
                go_simp
                try with_reducible rfl
              try simp only [Act.put, List.getElem_toArray, List.getElem_cons_succ, List.getElem_cons_zero, List.setIfInBounds_toArray, List.set_cons_zero, List.set_cons_succ]
              refine wpAnyH_ready (rs := [11]) (by kernel_rfl) (by simp) ?_
              refine AllReadyH.cons (o := _) rfl (fun K hK => ?_) ?_
              · go_simp
                have hz := (hx.setCell (p := ⟨wa.heap.size + 1, 0, none⟩) (Or.inl (by simp)) (.string ⟨q1.s.toArray⟩)).setCell (p := ⟨wa.heap.size + 1, 1, none⟩) (Or.inl (by simp)) (.int .i64 q1.e)
                refine hK.out _ _ ⟨hz.cell c0 (by simp), hz.cell c1 (by simp)⟩ (fun hHeld => ?_)
                clear hK K
                try simp only [Act.put, List.getElem_toArray, List.getElem_cons_succ, List.getElem_cons_zero, List.setIfInBounds_toArray, List.set_cons_zero, List.set_cons_succ]
                refine wpAnyH_take (i := 12) (oi := _) (v := ?_) rfl (by kernel_rfl) (by kernel_rfl) (by kernel_rfl) (fun _ _ _ h => h) (Or.inl ⟨by rfl, ?_⟩) hHeld ?_
                rotate_left
                · intro w hSw
                  (try dsimp only at hSw)
                  go_simp
                  try with_reducible rfl
                try simp only [Act.put, List.getElem_toArray, List.getElem_cons_succ, List.getElem_cons_zero, List.setIfInBounds_toArray, List.set_cons_zero, List.set_cons_succ]
                refine wpAnyH_done (by kernel_rfl) ?_ _
                go_wp2
                go_meet
                exact ⟨wa.heap.size + 1, rfl, rfl, blk2_set nb _ _, hz, by simp⟩
              exact AllReadyH.nil
            exact AllReadyH.nil
          exact AllReadyH.nil
        exact AllReadyH.nil
      refine AllReadyH.cons (o := _) rfl (fun K hK => ?_) ?_
      · go_simp
        have hy : Fr [] wa (wa.alloc (.cells #[.string ⟨#[]⟩, .int .i64 0] 99)).drew := ((Fr.refl [] wa).alloc _).drew
        refine hK.out _ _ ⟨hy.cell c0 (by simp), hy.cell c1 (by simp)⟩ (fun hHeld => ?_)
        clear hK K
        try simp only [Act.put, List.getElem_toArray, List.getElem_cons_succ, List.getElem_cons_zero, List.setIfInBounds_toArray, List.set_cons_zero, List.set_cons_succ]
        refine wpAnyH_ready (rs := [1]) (by kernel_rfl) (by simp) ?_
        refine AllReadyH.cons (o := _) rfl (fun K hK => ?_) ?_
        · go_simp
          have hy : Fr [] wa ((wa.alloc (.cells #[.string ⟨#[]⟩, .int .i64 0] 99)).alloc (.cells #[.int .i64 0, .int .i64 1, .int .i64 2, .int .i64 4] 3)).drew := (((Fr.refl [] wa).alloc _).alloc _).drew
          refine hK.out _ _ ⟨hy.cell c0 (by simp), hy.cell c1 (by simp)⟩ (fun hHeld => ?_)
          clear hK K
          try simp only [Act.put, List.getElem_toArray, List.getElem_cons_succ, List.getElem_cons_zero, List.setIfInBounds_toArray, List.set_cons_zero, List.set_cons_succ]
          refine wpAnyH_take (i := 4) (oi := _) (v := ?_) rfl (by kernel_rfl) (by kernel_rfl) (by kernel_rfl) (fun _ _ _ h => h) (Or.inl ⟨by rfl, ?_⟩) hHeld ?_
          rotate_left
          · intro w hSw
            (try dsimp only at hSw)
            go_simp
            try with_reducible rfl
          try simp only [Act.put, List.getElem_toArray, List.getElem_cons_succ, List.getElem_cons_zero, List.setIfInBounds_toArray, List.set_cons_zero, List.set_cons_succ]
          refine wpAnyH_ready (rs := [5]) (by kernel_rfl) (by simp) ?_
          refine AllReadyH.cons (o := _) rfl (fun K hK => ?_) ?_
          · have ic := blk_cell (w := ((wa.alloc (.cells #[.string ⟨#[]⟩, .int .i64 0] 99)).alloc (.cells #[.int .i64 0, .int .i64 1, .int .i64 2, .int .i64 4] 3)).drew) (blk_atH (wa.alloc (.cells #[.string ⟨#[]⟩, .int .i64 0] 99)) (.cells #[.int .i64 0, .int .i64 1, .int .i64 2, .int .i64 4] 3) (wa.heap.size + 1) (by simp)) 2
            go_simp
            refine hK.out _ _ hHeld (fun hHeld => ?_)
            clear hK K
            try simp only [Act.put, List.getElem_toArray, List.getElem_cons_succ, List.getElem_cons_zero, List.setIfInBounds_toArray, List.set_cons_zero, List.set_cons_succ]
            refine wpAnyH_ready (rs := [6]) (by kernel_rfl) (by simp) ?_
            refine AllReadyH.cons (o := _) rfl (fun K hK => ?_) ?_
            · go_simp
              refine (rnum_any q 2 _ hs (by decide) (by decide)).mono ?_
              rintro _ x1 ⟨rfl, g1⟩
              rw [hq]
              dsimp only
              have hx : Fr [] wa x1 := ((((Fr.refl [] wa).alloc _).alloc _).drew).trans g1 (by simp)
              have nb := g1.blk (b := wa.heap.size) (show (((wa.alloc (.cells #[.string ⟨#[]⟩, .int .i64 0] 99)).alloc (.cells #[.int .i64 0, .int .i64 1, .int .i64 2, .int .i64 4] 3)).drew).heap[wa.heap.size]? = some (.cells #[.string ⟨#[]⟩, .int .i64 0] 99 (0, 0)) from blk_old (blk_new wa (.cells #[.string ⟨#[]⟩, .int .i64 0] 99)) (.cells #[.int .i64 0, .int .i64 1, .int .i64 2, .int .i64 4] 3)) (by simp)
              obtain ⟨n0, n1, n2, n3, n4⟩ := blk2_facts nb
              go_wp2_with fail
              refine hK.out _ _ ⟨hx.cell c0 (by simp), hx.cell c1 (by simp)⟩ (fun hHeld => ?_)
              clear hK K
              try simp only [Act.put, List.getElem_toArray, List.getElem_cons_succ, List.getElem_cons_zero, List.setIfInBounds_toArray, List.set_cons_zero, List.set_cons_succ]
              refine wpAnyH_take (i := 7) (oi := _) (v := ?_) rfl (by kernel_rfl) (by kernel_rfl) (by kernel_rfl) (fun _ _ _ h => h) (Or.inl ⟨by rfl, ?_⟩) hHeld ?_
              rotate_left
              · intro w hSw
                (try dsimp only at hSw)
                go_simp
                try with_reducible rfl
              try simp only [Act.put, List.getElem_toArray, List.getElem_cons_succ, List.getElem_cons_zero, List.setIfInBounds_toArray, List.set_cons_zero, List.set_cons_succ]
              refine wpAnyH_take (i := 8) (oi := _) (v := ?_) rfl (by kernel_rfl) (by kernel_rfl) (by kernel_rfl) (fun _ _ _ h => h) (Or.inl ⟨by rfl, ?_⟩) hHeld ?_
              rotate_left
              · intro w hSw
                (try dsimp only at hSw)
                go_simp
                try with_reducible rfl
              try simp only [Act.put, List.getElem_toArray, List.getElem_cons_succ, List.getElem_cons_zero, List.setIfInBounds_toArray, List.set_cons_zero, List.set_cons_succ]
              refine wpAnyH_take (i := 9) (oi := _) (v := ?_) rfl (by kernel_rfl) (by kernel_rfl) (by kernel_rfl) (fun _ _ _ h => h) (Or.inl ⟨by rfl, ?_⟩) hHeld ?_
              rotate_left
              · intro w hSw
                (try dsimp only at hSw)
                go_simp
                try with_reducible rfl
              try simp only [Act.put, List.getElem_toArray, List.getElem_cons_succ, List.getElem_cons_zero, List.setIfInBounds_toArray, List.set_cons_zero, List.set_cons_succ]
              refine wpAnyH_ready (rs := [11]) (by kernel_rfl) (by simp) ?_
              refine AllReadyH.cons (o := _) rfl (fun K hK => ?_) ?_
              · go_simp
                have hz := (hx.setCell (p := ⟨wa.heap.size, 0, none⟩) (Or.inl (by simp)) (.string ⟨q1.s.toArray⟩)).setCell (p := ⟨wa.heap.size, 1, none⟩) (Or.inl (by simp)) (.int .i64 q1.e)
                refine hK.out _ _ ⟨hz.cell c0 (by simp), hz.cell c1 (by simp)⟩ (fun hHeld => ?_)
                clear hK K
                try simp only [Act.put, List.getElem_toArray, List.getElem_cons_succ, List.getElem_cons_zero, List.setIfInBounds_toArray, List.set_cons_zero, List.set_cons_succ]
                refine wpAnyH_take (i := 12) (oi := _) (v := ?_) rfl (by kernel_rfl) (by kernel_rfl) (by kernel_rfl) (fun _ _ _ h => h) (Or.inl ⟨by rfl, ?_⟩) hHeld ?_
                rotate_left
                · intro w hSw
                  (try dsimp only at hSw)
                  go_simp
                  try with_reducible rfl
                try simp only [Act.put, List.getElem_toArray, List.getElem_cons_succ, List.getElem_cons_zero, List.setIfInBounds_toArray, List.set_cons_zero, List.set_cons_succ]
                refine wpAnyH_done (by kernel_rfl) ?_ _
                go_wp2
                go_meet
                exact ⟨wa.heap.size, rfl, rfl, blk2_set nb _ _, hz, by simp⟩
              exact AllReadyH.nil
            exact AllReadyH.nil
          exact AllReadyH.nil
        exact AllReadyH.nil
      exact AllReadyH.nil
    refine AllReadyH.cons (o := _) rfl (fun K hK => ?_) ?_
    · go_simp
      have hy : Fr [] wa (wa.alloc (.cells #[.string ⟨#[]⟩, .int .i64 0] 99)).drew := ((Fr.refl [] wa).alloc _).drew
      refine hK.out _ _ ⟨hy.cell c0 (by simp), hy.cell c1 (by simp)⟩ (fun hHeld => ?_)
      clear hK K
      try simp only [Act.put, List.getElem_toArray, List.getElem_cons_succ, List.getElem_cons_zero, List.setIfInBounds_toArray, List.set_cons_zero, List.set_cons_succ]
      refine wpAnyH_ready (rs := [1, 3]) (by kernel_rfl) (by simp) ?_
      refine AllReadyH.cons (o := _) rfl (fun K hK => ?_) ?_
      · go_simp
        have hy : Fr [] wa ((wa.alloc (.cells #[.string ⟨#[]⟩, .int .i64 0] 99)).alloc (.cells #[.int .i64 0, .int .i64 1, .int .i64 2, .int .i64 4] 3)).drew := (((Fr.refl [] wa).alloc _).alloc _).drew
        refine hK.out _ _ ⟨hy.cell c0 (by simp), hy.cell c1 (by simp)⟩ (fun hHeld => ?_)
        clear hK K
        try simp only [Act.put, List.getElem_toArray, List.getElem_cons_succ, List.getElem_cons_zero, List.setIfInBounds_toArray, List.set_cons_zero, List.set_cons_succ]
        refine wpAnyH_ready (rs := [3]) (by kernel_rfl) (by simp) ?_
        refine AllReadyH.cons (o := _) rfl (fun K hK => ?_) ?_
        · go_simp
          refine (rkind_any id _).mono ?_
          rintro _ _ ⟨rfl, rfl⟩
          rw [Hk.out]
          go_wp2_with fail
          refine hK.out _ _ hHeld (fun hHeld => ?_)
          clear hK K
          try simp only [Act.put, List.getElem_toArray, List.getElem_cons_succ, List.getElem_cons_zero, List.setIfInBounds_toArray, List.set_cons_zero, List.set_cons_succ]
          refine wpAnyH_take (i := 4) (oi := _) (v := ?_) rfl (by kernel_rfl) (by kernel_rfl) (by kernel_rfl) (fun _ _ _ h => h) (Or.inl ⟨by rfl, ?_⟩) hHeld ?_
          rotate_left
          · intro w hSw
            (try dsimp only at hSw)
            go_simp
            try with_reducible rfl
          try simp only [Act.put, List.getElem_toArray, List.getElem_cons_succ, List.getElem_cons_zero, List.setIfInBounds_toArray, List.set_cons_zero, List.set_cons_succ]
          refine wpAnyH_ready (rs := [5]) (by kernel_rfl) (by simp) ?_
          refine AllReadyH.cons (o := _) rfl (fun K hK => ?_) ?_
          · have ic := blk_cell (w := ((wa.alloc (.cells #[.string ⟨#[]⟩, .int .i64 0] 99)).alloc (.cells #[.int .i64 0, .int .i64 1, .int .i64 2, .int .i64 4] 3)).drew) (blk_atH (wa.alloc (.cells #[.string ⟨#[]⟩, .int .i64 0] 99)) (.cells #[.int .i64 0, .int .i64 1, .int .i64 2, .int .i64 4] 3) (wa.heap.size + 1) (by simp)) 2
            go_simp
            refine hK.out _ _ hHeld (fun hHeld => ?_)
            clear hK K
            try simp only [Act.put, List.getElem_toArray, List.getElem_cons_succ, List.getElem_cons_zero, List.setIfInBounds_toArray, List.set_cons_zero, List.set_cons_succ]
            refine wpAnyH_ready (rs := [6]) (by kernel_rfl) (by simp) ?_
            refine AllReadyH.cons (o := _) rfl (fun K hK => ?_) ?_
            · go_simp
              refine (rnum_any q 2 _ hs (by decide) (by decide)).mono ?_
              rintro _ x1 ⟨rfl, g1⟩
              rw [hq]
              dsimp only
              have hx : Fr [] wa x1 := ((((Fr.refl [] wa).alloc _).alloc _).drew).trans g1 (by simp)
              have nb := g1.blk (b := wa.heap.size) (show (((wa.alloc (.cells #[.string ⟨#[]⟩, .int .i64 0] 99)).alloc (.cells #[.int .i64 0, .int .i64 1, .int .i64 2, .int .i64 4] 3)).drew).heap[wa.heap.size]? = some (.cells #[.string ⟨#[]⟩, .int .i64 0] 99 (0, 0)) from blk_old (blk_new wa (.cells #[.string ⟨#[]⟩, .int .i64 0] 99)) (.cells #[.int .i64 0, .int .i64 1, .int .i64 2, .int .i64 4] 3)) (by simp)
              obtain ⟨n0, n1, n2, n3, n4⟩ := blk2_facts nb
              go_wp2_with fail
              refine hK.out _ _ ⟨hx.cell c0 (by simp), hx.cell c1 (by simp)⟩ (fun hHeld => ?_)
              clear hK K
              try simp only [Act.put, List.getElem_toArray, List.getElem_cons_succ, List.getElem_cons_zero, List.setIfInBounds_toArray, List.set_cons_zero, List.set_cons_succ]
              refine wpAnyH_take (i := 7) (oi := _) (v := ?_) rfl (by kernel_rfl) (by kernel_rfl) (by kernel_rfl) (fun _ _ _ h => h) (Or.inl ⟨by rfl, ?_⟩) hHeld ?_
              rotate_left
              · intro w hSw
                (try dsimp only at hSw)
                go_simp
                try with_reducible rfl
              try simp only [Act.put, List.getElem_toArray, List.getElem_cons_succ, List.getElem_cons_zero, List.setIfInBounds_toArray, List.set_cons_zero, List.set_cons_succ]
              refine wpAnyH_take (i := 8) (oi := _) (v := ?_) rfl (by kernel_rfl) (by kernel_rfl) (by kernel_rfl) (fun _ _ _ h => h) (Or.inl ⟨by rfl, ?_⟩) hHeld ?_
              rotate_left
              · intro w hSw
                (try dsimp only at hSw)
                go_simp
                try with_reducible rfl
              try simp only [Act.put, List.getElem_toArray, List.getElem_cons_succ, List.getElem_cons_zero, List.setIfInBounds_toArray, List.set_cons_zero, List.set_cons_succ]
              refine wpAnyH_take (i := 9) (oi := _) (v := ?_) rfl (by kernel_rfl) (by kernel_rfl) (by kernel_rfl) (fun _ _ _ h => h) (Or.inl ⟨by rfl, ?_⟩) hHeld ?_
              rotate_left
              · intro w hSw
                (try dsimp only at hSw)
                go_simp
                try with_reducible rfl
              try simp only [Act.put, List.getElem_toArray, List.getElem_cons_succ, List.getElem_cons_zero, List.setIfInBounds_toArray, List.set_cons_zero, List.set_cons_succ]
              refine wpAnyH_ready (rs := [11]) (by kernel_rfl) (by simp) ?_
              refine AllReadyH.cons (o := _) rfl (fun K hK => ?_) ?_
              · go_simp
                have hz := (hx.setCell (p := ⟨wa.heap.size, 0, none⟩) (Or.inl (by simp)) (.string ⟨q1.s.toArray⟩)).setCell (p := ⟨wa.heap.size, 1, none⟩) (Or.inl (by simp)) (.int .i64 q1.e)
                refine hK.out _ _ ⟨hz.cell c0 (by simp), hz.cell c1 (by simp)⟩ (fun hHeld => ?_)
                clear hK K
                try simp only [Act.put, List.getElem_toArray, List.getElem_cons_succ, List.getElem_cons_zero, List.setIfInBounds_toArray, List.set_cons_zero, List.set_cons_succ]
                refine wpAnyH_take (i := 12) (oi := _) (v := ?_) rfl (by kernel_rfl) (by kernel_rfl) (by kernel_rfl) (fun _ _ _ h => h) (Or.inl ⟨by rfl, ?_⟩) hHeld ?_
                rotate_left
                · intro w hSw
                  (try dsimp only at hSw)
                  go_simp
                  try with_reducible rfl
                try simp only [Act.put, List.getElem_toArray, List.getElem_cons_succ, List.getElem_cons_zero, List.setIfInBounds_toArray, List.set_cons_zero, List.set_cons_succ]
                refine wpAnyH_done (by kernel_rfl) ?_ _
                go_wp2
                go_meet
                exact ⟨wa.heap.size, rfl, rfl, blk2_set nb _ _, hz, by simp⟩
              exact AllReadyH.nil
            exact AllReadyH.nil
          exact AllReadyH.nil
        exact AllReadyH.nil
      refine AllReadyH.cons (o := _) rfl (fun K hK => ?_) ?_
      · go_simp
        refine (rkind_any id _).mono ?_
        rintro _ _ ⟨rfl, rfl⟩
        rw [Hk.out]
        go_wp2_with fail
        refine hK.out _ _ hHeld (fun hHeld => ?_)
        clear hK K
        try simp only [Act.put, List.getElem_toArray, List.getElem_cons_succ, List.getElem_cons_zero, List.setIfInBounds_toArray, List.set_cons_zero, List.set_cons_succ]
        refine wpAnyH_ready (rs := [1]) (by kernel_rfl) (by simp) ?_
        refine AllReadyH.cons (o := _) rfl (fun K hK => ?_) ?_
        · go_simp
          have hy : Fr [] wa ((wa.alloc (.cells #[.string ⟨#[]⟩, .int .i64 0] 99)).alloc (.cells #[.int .i64 0, .int .i64 1, .int .i64 2, .int .i64 4] 3)).drew := (((Fr.refl [] wa).alloc _).alloc _).drew
          refine hK.out _ _ ⟨hy.cell c0 (by simp), hy.cell c1 (by simp)⟩ (fun hHeld => ?_)
          clear hK K
          try simp only [Act.put, List.getElem_toArray, List.getElem_cons_succ, List.getElem_cons_zero, List.setIfInBounds_toArray, List.set_cons_zero, List.set_cons_succ]
          refine wpAnyH_take (i := 4) (oi := _) (v := ?_) rfl (by kernel_rfl) (by kernel_rfl) (by kernel_rfl) (fun _ _ _ h => h) (Or.inl ⟨by rfl, ?_⟩) hHeld ?_
          rotate_left
          · intro w hSw
            (try dsimp only at hSw)
            go_simp
            try with_reducible rfl
          try simp only [Act.put, List.getElem_toArray, List.getElem_cons_succ, List.getElem_cons_zero, List.setIfInBounds_toArray, List.set_cons_zero, List.set_cons_succ]
          refine wpAnyH_ready (rs := [5]) (by kernel_rfl) (by simp) ?_
          refine AllReadyH.cons (o := _) rfl (fun K hK => ?_) ?_
          · have ic := blk_cell (w := ((wa.alloc (.cells #[.string ⟨#[]⟩, .int .i64 0] 99)).alloc (.cells #[.int .i64 0, .int .i64 1, .int .i64 2, .int .i64 4] 3)).drew) (blk_atH (wa.alloc (.cells #[.string ⟨#[]⟩, .int .i64 0] 99)) (.cells #[.int .i64 0, .int .i64 1, .int .i64 2, .int .i64 4] 3) (wa.heap.size + 1) (by simp)) 2
            go_simp
            refine hK.out _ _ hHeld (fun hHeld => ?_)
            clear hK K
            try simp only [Act.put, List.getElem_toArray, List.getElem_cons_succ, List.getElem_cons_zero, List.setIfInBounds_toArray, List.set_cons_zero, List.set_cons_succ]
            refine wpAnyH_ready (rs := [6]) (by kernel_rfl) (by simp) ?_
            refine AllReadyH.cons (o := _) rfl (fun K hK => ?_) ?_
            · go_simp
              refine (rnum_any q 2 _ hs (by decide) (by decide)).mono ?_
              rintro _ x1 ⟨rfl, g1⟩
              rw [hq]
              dsimp only
              have hx : Fr [] wa x1 := ((((Fr.refl [] wa).alloc _).alloc _).drew).trans g1 (by simp)
              have nb := g1.blk (b := wa.heap.size) (show (((wa.alloc (.cells #[.string ⟨#[]⟩, .int .i64 0] 99)).alloc (.cells #[.int .i64 0, .int .i64 1, .int .i64 2, .int .i64 4] 3)).drew).heap[wa.heap.size]? = some (.cells #[.string ⟨#[]⟩, .int .i64 0] 99 (0, 0)) from blk_old (blk_new wa (.cells #[.string ⟨#[]⟩, .int .i64 0] 99)) (.cells #[.int .i64 0, .int .i64 1, .int .i64 2, .int .i64 4] 3)) (by simp)
              obtain ⟨n0, n1, n2, n3, n4⟩ := blk2_facts nb
              go_wp2_with fail
              refine hK.out _ _ ⟨hx.cell c0 (by simp), hx.cell c1 (by simp)⟩ (fun hHeld => ?_)
              clear hK K
              try simp only [Act.put, List.getElem_toArray, List.getElem_cons_succ, List.getElem_cons_zero, List.setIfInBounds_toArray, List.set_cons_zero, List.set_cons_succ]
              refine wpAnyH_take (i := 7) (oi := _) (v := ?_) rfl (by kernel_rfl) (by kernel_rfl) (by kernel_rfl) (fun _ _ _ h => h) (Or.inl ⟨by rfl, ?_⟩) hHeld ?_
              rotate_left
              · intro w hSw
                (try dsimp only at hSw)
                go_simp
                try with_reducible rfl
              try simp only [Act.put, List.getElem_toArray, List.getElem_cons_succ, List.getElem_cons_zero, List.setIfInBounds_toArray, List.set_cons_zero, List.set_cons_succ]
              refine wpAnyH_take (i := 8) (oi := _) (v := ?_) rfl (by kernel_rfl) (by kernel_rfl) (by kernel_rfl) (fun _ _ _ h => h) (Or.inl ⟨by rfl, ?_⟩) hHeld ?_
              rotate_left
              · intro w hSw
                (try dsimp only at hSw)
                go_simp
                try with_reducible rfl
              try simp only [Act.put, List.getElem_toArray, List.getElem_cons_succ, List.getElem_cons_zero, List.setIfInBounds_toArray, List.set_cons_zero, List.set_cons_succ]
              refine wpAnyH_take (i := 9) (oi := _) (v := ?_) rfl (by kernel_rfl) (by kernel_rfl) (by kernel_rfl) (fun _ _ _ h => h) (Or.inl ⟨by rfl, ?_⟩) hHeld ?_
              rotate_left
              · intro w hSw
                (try dsimp only at hSw)
                go_simp
                try with_reducible rfl
              try simp only [Act.put, List.getElem_toArray, List.getElem_cons_succ, List.getElem_cons_zero, List.setIfInBounds_toArray, List.set_cons_zero, List.set_cons_succ]
              refine wpAnyH_ready (rs := [11]) (by kernel_rfl) (by simp) ?_
              refine AllReadyH.cons (o := _) rfl (fun K hK => ?_) ?_
              · go_simp
                have hz := (hx.setCell (p := ⟨wa.heap.size, 0, none⟩) (Or.inl (by simp)) (.string ⟨q1.s.toArray⟩)).setCell (p := ⟨wa.heap.size, 1, none⟩) (Or.inl (by simp)) (.int .i64 q1.e)
                refine hK.out _ _ ⟨hz.cell c0 (by simp), hz.cell c1 (by simp)⟩ (fun hHeld => ?_)
                clear hK K
                try simp only [Act.put, List.getElem_toArray, List.getElem_cons_succ, List.getElem_cons_zero, List.setIfInBounds_toArray, List.set_cons_zero, List.set_cons_succ]
                refine wpAnyH_take (i := 12) (oi := _) (v := ?_) rfl (by kernel_rfl) (by kernel_rfl) (by kernel_rfl) (fun _ _ _ h => h) (Or.inl ⟨by rfl, ?_⟩) hHeld ?_
                rotate_left
                · intro w hSw
                  (try dsimp only at hSw)
                  go_simp
                  try with_reducible rfl
                try simp only [Act.put, List.getElem_toArray, List.getElem_cons_succ, List.getElem_cons_zero, List.setIfInBounds_toArray, List.set_cons_zero, List.set_cons_succ]
                refine wpAnyH_done (by kernel_rfl) ?_ _
                go_wp2
                go_meet
                exact ⟨wa.heap.size, rfl, rfl, blk2_set nb _ _, hz, by simp⟩
              exact AllReadyH.nil
            exact AllReadyH.nil
          exact AllReadyH.nil
        exact AllReadyH.nil
      exact AllReadyH.nil
    exact AllReadyH.nil
  case rest =>
    obtain ⟨d, rfl, rfl, hd, hx, hdl⟩ := hcut
    have hc2 := hx.blk hc.out (by simp)
    have hr2 := hx.blk hr.out (by simp)
    have hs3 := hx.blk hs2.out (by simp)
    have hp2 := hx.blk hp.out (by simp)
    have hf2 := hf.out.trans hx (by simp)
    have hpl := blk_lt hp.out
    clear c0 c1 f0 f1 hlc
    obtain ⟨c0, c1, f0, f1, hlc⟩ := blk2_facts hc2
    obtain ⟨⟨p0, p1, p2, p3⟩, ⟨k0, k1, k2, k3⟩, hlp⟩ := blk4_facts hp2
    obtain ⟨d0, d1, _, _, _⟩ := blk2_facts hd
    have gc := Lib.hid (blk_far (p := ⟨w.heap.size + 3, 1, none⟩) (blk2_set hc2 (.string ⟨q1.s.toArray⟩) (.int .i64 q1.e)) (by simp) (.int .u32 n))
    have gp := Lib.hid (blk_set (blk_far (p := ⟨w.heap.size, 1, none⟩) (blk_far (p := ⟨w.heap.size, 0, none⟩) hp2 (by simp) (.string ⟨q1.s.toArray⟩)) (by simp) (.int .i64 q1.e)) 1 (.int .u32 n))
    have gr := Lib.hid (blk_far (p := ⟨w.heap.size + 3, 1, none⟩) (blk_far (p := ⟨w.heap.size, 1, none⟩) (blk_far (p := ⟨w.heap.size, 0, none⟩) hr2 (by simp) (.string ⟨q1.s.toArray⟩)) (by simp) (.int .i64 q1.e)) (by simp) (.int .u32 n))
    have gs := Lib.hid (blk_far (p := ⟨w.heap.size + 3, 1, none⟩) (blk_far (p := ⟨w.heap.size, 1, none⟩) (blk_far (p := ⟨w.heap.size, 0, none⟩) hs3 (by simp) (.string ⟨q1.s.toArray⟩)) (by simp) (.int .i64 q1.e)) (by simp) (.int .u32 n))
    have gf := Lib.hid (((hf2.setCell (p := ⟨w.heap.size, 0, none⟩) (Or.inl (by simp)) (.string ⟨q1.s.toArray⟩)).setCell (p := ⟨w.heap.size, 1, none⟩) (Or.inl (by simp)) (.int .i64 q1.e)).setCell (p := ⟨w.heap.size + 3, 1, none⟩) (Or.inl (by simp)) (.int .u32 n))
    clear hc2 hr2 hs3 hp2 hf2 hd hx hc hr hs2 hp hf
    go_upto_region 27 with (fail)
    obtain ⟨y, hy⟩ : ∃ y, (((wc.setCell ⟨w.heap.size, 0, none⟩ (.string ⟨q1.s.toArray⟩)).setCell ⟨w.heap.size, 1, none⟩ (.int .i64 q1.e)).setCell ⟨w.heap.size + 3, 1, none⟩ (.int .u32 n)) = y := ⟨_, rfl⟩
    rw [hy] at gc gp gr gs gf ⊢
    clear hy c0 c1 f0 f1 hlc p0 p1 p2 p3 k0 k1 k2 k3 hlp d0 d1
    obtain ⟨c0, c1, f0, f1, hlc⟩ := blk2_facts gc.out
    obtain ⟨⟨p0, p1, p2, p3⟩, ⟨k0, k1, k2, k3⟩, hlp⟩ := blk4_facts gp.out
    obtain ⟨r0, r1, z0, z1, hlr⟩ := blk2_facts gr.out
    obtain ⟨⟨s0, s1, s2, s3⟩, ⟨t0, t1, t2, t3⟩, hls⟩ := blk4_facts gs.out
    by_cases he : q1.e = 0
    rotate_left
    · have e1 : (q1.e == 0) = false := by simpa using he
      have HV := Lib.hid (HV0.out.trans (by rw [show chkR (ruleOf id) n q1 = q1 from if_neg (fun h => he h.1)]))
      clear he
      go_wp2
      refine wp_region_held_drew (S := fun w' => w'.cell? ⟨w.heap.size, 0, none⟩ = some (.string ⟨q1.s.toArray⟩) ∧ w'.cell? ⟨w.heap.size, 1, none⟩ = some (.int .i64 q1.e) ∧ w'.cell? ⟨w.heap.size + 3, 0, none⟩ = some (.int .i64 id) ∧ w'.cell? ⟨w.heap.size + 3, 1, none⟩ = some (.int .u32 n) ∧ w'.cell? ⟨w.heap.size + 3, 2, none⟩ = some (.string ⟨#[]⟩) ∧ w'.cell? ⟨w.heap.size + 3, 3, none⟩ = some (.string ⟨#[]⟩)) (by kernel_rfl) ⟨c0, c1, p0, p1, p2, p3⟩ (fun hHeld => ?_)
      refine wpAnyH_take (i := 0) (oi := _) (v := ?_) rfl (by kernel_rfl) (by kernel_rfl) (by kernel_rfl) (fun _ _ _ h => h) (Or.inl ⟨by rfl, ?_⟩) hHeld ?_
      rotate_left
      · intro w hSw
        (try dsimp only at hSw)
        go_simp
        try with_reducible rfl
      try simp only [Act.put, List.getElem_toArray, List.getElem_cons_succ, List.getElem_cons_zero, List.setIfInBounds_toArray, List.set_cons_zero, List.set_cons_succ]
      refine wpAnyH_take (i := 1) (oi := _) (v := ?_) rfl (by kernel_rfl) (by kernel_rfl) (by kernel_rfl) (fun _ _ _ h => h) (Or.inl ⟨by rfl, ?_⟩) hHeld ?_
      rotate_left
      · intro w hSw
        (try dsimp only at hSw)
        go_simp
        try with_reducible rfl
      try simp only [Act.put, List.getElem_toArray, List.getElem_cons_succ, List.getElem_cons_zero, List.setIfInBounds_toArray, List.set_cons_zero, List.set_cons_succ]
      refine wpAnyH_ready (rs := [2]) (by kernel_rfl) (by simp) ?_
      refine AllReadyH.cons (o := _) rfl (fun K hK => ?_) ?_
      · go_simp
        generalize hz1 : ((y.setCell ⟨w.heap.size + 1, 0, none⟩ (.string ⟨q1.s.toArray⟩)).setCell ⟨w.heap.size + 1, 1, none⟩ (.int .i64 q1.e)).drew = y1
        have F1 : Fr [w.heap.size + 1, w.heap.size + 2] y y1 := hz1 ▸ (((Fr.refl _ y).setCell (Or.inr (by simp)) _).setCell (Or.inr (by simp)) _).drew
        have hA1 : y1.heap[w.heap.size + 1]? = some (.cells #[(.string ⟨q1.s.toArray⟩), (.int .i64 q1.e)] 99 (0, 0)) := hz1 ▸ blk2_set gr.out (.string ⟨q1.s.toArray⟩) (.int .i64 q1.e)
        have hB1 : y1.heap[w.heap.size + 1 + 1]? = some (.cells #[.int .i64 0, .int .u32 0, .string ⟨#[]⟩, .string ⟨#[]⟩] 121 (0, 0)) := hz1 ▸ blk_far (blk_far gs.out (by simp) _) (by simp) _
        have hG1 : Fr [] w y1 := hz1 ▸ ((gf.out.setCell (p := ⟨w.heap.size + 1, 0, none⟩) (Or.inl (by simp)) (.string ⟨q1.s.toArray⟩)).setCell (p := ⟨w.heap.size + 1, 1, none⟩) (Or.inl (by simp)) (.int .i64 q1.e)).drew
        refine hK.out _ _ ⟨F1.cell c0 (by simp), F1.cell c1 (by simp), F1.cell p0 (by simp), F1.cell p1 (by simp), F1.cell p2 (by simp), F1.cell p3 (by simp)⟩ (fun hHeld => ?_)
        clear hK K hz1
        try simp only [Act.put, List.getElem_toArray, List.getElem_cons_succ, List.getElem_cons_zero, List.setIfInBounds_toArray, List.set_cons_zero, List.set_cons_succ]
        obtain ⟨⟨v0, v1, v2, v3⟩, ⟨g0, g1, g2, g3⟩, hg⟩ := blk4_facts hB1
        refine wpAnyH_ready (rs := [3]) (by kernel_rfl) (by simp) ?_
        refine AllReadyH.cons (o := _) rfl (fun K hK => ?_) ?_
        · go_simp
          generalize hz2 : (((y1.setCell ⟨w.heap.size + 1 + 1, 0, none⟩ (.int .i64 id)).setCell ⟨w.heap.size + 1 + 1, 1, none⟩ (.int .u32 n)).setCell ⟨w.heap.size + 1 + 1, 2, none⟩ (.string ⟨#[]⟩)).setCell ⟨w.heap.size + 1 + 1, 3, none⟩ (.string ⟨#[]⟩) = y2
          have F2 : Fr [w.heap.size + 1, w.heap.size + 2] y1 y2 := hz2 ▸ ((((Fr.refl _ y1).setCell (Or.inr (by simp)) _).setCell (Or.inr (by simp)) _).setCell (Or.inr (by simp)) _).setCell (Or.inr (by simp)) _
          have hA2 : y2.heap[w.heap.size + 1]? = some (.cells #[(.string ⟨q1.s.toArray⟩), (.int .i64 q1.e)] 99 (0, 0)) := hz2 ▸ blk_far (blk_far (blk_far (blk_far hA1 (by simp) _) (by simp) _) (by simp) _) (by simp) _
          have hB2 : y2.heap[w.heap.size + 1 + 1]? = some (.cells #[(.int .i64 id), (.int .u32 n), (.string ⟨#[]⟩), (.string ⟨#[]⟩)] 121 (0, 0)) := hz2 ▸ blk4_set hB1 (.int .i64 id) (.int .u32 n) (.string ⟨#[]⟩) (.string ⟨#[]⟩)
          have hle2 : w.heap.size ≤ w.heap.size + 1 + 1 := by omega
          have hG2 : Fr [] w y2 := hz2 ▸ (((hG1.setCell (p := ⟨w.heap.size + 1 + 1, 0, none⟩) (Or.inl hle2) (.int .i64 id)).setCell (p := ⟨w.heap.size + 1 + 1, 1, none⟩) (Or.inl hle2) (.int .u32 n)).setCell (p := ⟨w.heap.size + 1 + 1, 2, none⟩) (Or.inl hle2) (.string ⟨#[]⟩)).setCell (p := ⟨w.heap.size + 1 + 1, 3, none⟩) (Or.inl hle2) (.string ⟨#[]⟩)
          have F3 := F1.trans F2 (fun _ _ h => h)
          refine hK.out _ _ ⟨F3.cell c0 (by simp), F3.cell c1 (by simp), F3.cell p0 (by simp), F3.cell p1 (by simp), F3.cell p2 (by simp), F3.cell p3 (by simp)⟩ (fun hHeld => ?_)
          clear hK K hz2
          try simp only [Act.put, List.getElem_toArray, List.getElem_cons_succ, List.getElem_cons_zero, List.setIfInBounds_toArray, List.set_cons_zero, List.set_cons_succ]
          refine wpAnyH_done (by kernel_rfl) ?_ _
          obtain ⟨rr0, rr1, zz0, zz1, hlr2⟩ := blk2_facts hA2
          obtain ⟨⟨ss0, ss1, ss2, ss3⟩, ⟨tt0, tt1, tt2, tt3⟩, hls2⟩ := blk4_facts hB2
          go_wp2
          refine bodyPost_ret (v := .tuple #[.agg #[(.string ⟨q1.s.toArray⟩), (.int .i64 q1.e)], .agg #[(.int .i64 id), (.int .u32 n), (.string ⟨#[]⟩), (.string ⟨#[]⟩)]]) (by simp [results, Try.results95, go_sem, rr0, rr1, ss0, ss1, ss2, ss3]) rfl ?_
          rw [HV.out]
          exact ⟨(Pr.mk id n [] []), rfl, (fun _ => rfl), hn, hG2⟩
        exact AllReadyH.nil
      exact AllReadyH.nil
    have e1 : (q1.e == 0) = true := by simpa using he
    go_wp2_with fail
    refine (rkind_any id _).mono ?_
    rintro _ _ ⟨rfl, rfl⟩
    rw [Hk.out]
    go_wp2_with fail
    refine (says_any id n _ hn).mono ?_
    rintro _ _ ⟨rfl, rfl⟩
    cases hso : sayOk id n
    rotate_left
    · have HV := Lib.hid (HV0.out.trans (by rw [show chkR (ruleOf id) n q1 = q1 from if_neg (fun h => (HS.out.1 hso) h.2)]))
      clear he hso
      go_wp2
      refine wp_region_held_drew (S := fun w' => w'.cell? ⟨w.heap.size, 0, none⟩ = some (.string ⟨q1.s.toArray⟩) ∧ w'.cell? ⟨w.heap.size, 1, none⟩ = some (.int .i64 q1.e) ∧ w'.cell? ⟨w.heap.size + 3, 0, none⟩ = some (.int .i64 id) ∧ w'.cell? ⟨w.heap.size + 3, 1, none⟩ = some (.int .u32 n) ∧ w'.cell? ⟨w.heap.size + 3, 2, none⟩ = some (.string ⟨#[]⟩) ∧ w'.cell? ⟨w.heap.size + 3, 3, none⟩ = some (.string ⟨#[]⟩)) (by kernel_rfl) ⟨c0, c1, p0, p1, p2, p3⟩ (fun hHeld => ?_)
      refine wpAnyH_take (i := 0) (oi := _) (v := ?_) rfl (by kernel_rfl) (by kernel_rfl) (by kernel_rfl) (fun _ _ _ h => h) (Or.inl ⟨by rfl, ?_⟩) hHeld ?_
      rotate_left
      · intro w hSw
        (try dsimp only at hSw)
        go_simp
        try with_reducible rfl
      try simp only [Act.put, List.getElem_toArray, List.getElem_cons_succ, List.getElem_cons_zero, List.setIfInBounds_toArray, List.set_cons_zero, List.set_cons_succ]
      refine wpAnyH_take (i := 1) (oi := _) (v := ?_) rfl (by kernel_rfl) (by kernel_rfl) (by kernel_rfl) (fun _ _ _ h => h) (Or.inl ⟨by rfl, ?_⟩) hHeld ?_
      rotate_left
      · intro w hSw
        (try dsimp only at hSw)
        go_simp
        try with_reducible rfl
      try simp only [Act.put, List.getElem_toArray, List.getElem_cons_succ, List.getElem_cons_zero, List.setIfInBounds_toArray, List.set_cons_zero, List.set_cons_succ]
      refine wpAnyH_ready (rs := [2]) (by kernel_rfl) (by simp) ?_
      refine AllReadyH.cons (o := _) rfl (fun K hK => ?_) ?_
      · go_simp
        generalize hz1 : ((y.setCell ⟨w.heap.size + 1, 0, none⟩ (.string ⟨q1.s.toArray⟩)).setCell ⟨w.heap.size + 1, 1, none⟩ (.int .i64 q1.e)).drew = y1
        have F1 : Fr [w.heap.size + 1, w.heap.size + 2] y y1 := hz1 ▸ (((Fr.refl _ y).setCell (Or.inr (by simp)) _).setCell (Or.inr (by simp)) _).drew
        have hA1 : y1.heap[w.heap.size + 1]? = some (.cells #[(.string ⟨q1.s.toArray⟩), (.int .i64 q1.e)] 99 (0, 0)) := hz1 ▸ blk2_set gr.out (.string ⟨q1.s.toArray⟩) (.int .i64 q1.e)
        have hB1 : y1.heap[w.heap.size + 1 + 1]? = some (.cells #[.int .i64 0, .int .u32 0, .string ⟨#[]⟩, .string ⟨#[]⟩] 121 (0, 0)) := hz1 ▸ blk_far (blk_far gs.out (by simp) _) (by simp) _
        have hG1 : Fr [] w y1 := hz1 ▸ ((gf.out.setCell (p := ⟨w.heap.size + 1, 0, none⟩) (Or.inl (by simp)) (.string ⟨q1.s.toArray⟩)).setCell (p := ⟨w.heap.size + 1, 1, none⟩) (Or.inl (by simp)) (.int .i64 q1.e)).drew
        refine hK.out _ _ ⟨F1.cell c0 (by simp), F1.cell c1 (by simp), F1.cell p0 (by simp), F1.cell p1 (by simp), F1.cell p2 (by simp), F1.cell p3 (by simp)⟩ (fun hHeld => ?_)
        clear hK K hz1
        try simp only [Act.put, List.getElem_toArray, List.getElem_cons_succ, List.getElem_cons_zero, List.setIfInBounds_toArray, List.set_cons_zero, List.set_cons_succ]
        obtain ⟨⟨v0, v1, v2, v3⟩, ⟨g0, g1, g2, g3⟩, hg⟩ := blk4_facts hB1
        refine wpAnyH_ready (rs := [3]) (by kernel_rfl) (by simp) ?_
        refine AllReadyH.cons (o := _) rfl (fun K hK => ?_) ?_
        · go_simp
          generalize hz2 : (((y1.setCell ⟨w.heap.size + 1 + 1, 0, none⟩ (.int .i64 id)).setCell ⟨w.heap.size + 1 + 1, 1, none⟩ (.int .u32 n)).setCell ⟨w.heap.size + 1 + 1, 2, none⟩ (.string ⟨#[]⟩)).setCell ⟨w.heap.size + 1 + 1, 3, none⟩ (.string ⟨#[]⟩) = y2
          have F2 : Fr [w.heap.size + 1, w.heap.size + 2] y1 y2 := hz2 ▸ ((((Fr.refl _ y1).setCell (Or.inr (by simp)) _).setCell (Or.inr (by simp)) _).setCell (Or.inr (by simp)) _).setCell (Or.inr (by simp)) _
          have hA2 : y2.heap[w.heap.size + 1]? = some (.cells #[(.string ⟨q1.s.toArray⟩), (.int .i64 q1.e)] 99 (0, 0)) := hz2 ▸ blk_far (blk_far (blk_far (blk_far hA1 (by simp) _) (by simp) _) (by simp) _) (by simp) _
          have hB2 : y2.heap[w.heap.size + 1 + 1]? = some (.cells #[(.int .i64 id), (.int .u32 n), (.string ⟨#[]⟩), (.string ⟨#[]⟩)] 121 (0, 0)) := hz2 ▸ blk4_set hB1 (.int .i64 id) (.int .u32 n) (.string ⟨#[]⟩) (.string ⟨#[]⟩)
          have hle2 : w.heap.size ≤ w.heap.size + 1 + 1 := by omega
          have hG2 : Fr [] w y2 := hz2 ▸ (((hG1.setCell (p := ⟨w.heap.size + 1 + 1, 0, none⟩) (Or.inl hle2) (.int .i64 id)).setCell (p := ⟨w.heap.size + 1 + 1, 1, none⟩) (Or.inl hle2) (.int .u32 n)).setCell (p := ⟨w.heap.size + 1 + 1, 2, none⟩) (Or.inl hle2) (.string ⟨#[]⟩)).setCell (p := ⟨w.heap.size + 1 + 1, 3, none⟩) (Or.inl hle2) (.string ⟨#[]⟩)
          have F3 := F1.trans F2 (fun _ _ h => h)
          refine hK.out _ _ ⟨F3.cell c0 (by simp), F3.cell c1 (by simp), F3.cell p0 (by simp), F3.cell p1 (by simp), F3.cell p2 (by simp), F3.cell p3 (by simp)⟩ (fun hHeld => ?_)
          clear hK K hz2
          try simp only [Act.put, List.getElem_toArray, List.getElem_cons_succ, List.getElem_cons_zero, List.setIfInBounds_toArray, List.set_cons_zero, List.set_cons_succ]
          refine wpAnyH_done (by kernel_rfl) ?_ _
          obtain ⟨rr0, rr1, zz0, zz1, hlr2⟩ := blk2_facts hA2
          obtain ⟨⟨ss0, ss1, ss2, ss3⟩, ⟨tt0, tt1, tt2, tt3⟩, hls2⟩ := blk4_facts hB2
          go_wp2
          refine bodyPost_ret (v := .tuple #[.agg #[(.string ⟨q1.s.toArray⟩), (.int .i64 q1.e)], .agg #[(.int .i64 id), (.int .u32 n), (.string ⟨#[]⟩), (.string ⟨#[]⟩)]]) (by simp [results, Try.results95, go_sem, rr0, rr1, ss0, ss1, ss2, ss3]) rfl ?_
          rw [HV.out]
          exact ⟨(Pr.mk id n [] []), rfl, (fun _ => rfl), hn, hG2⟩
        exact AllReadyH.nil
      exact AllReadyH.nil
    · have hno : n < (ruleOf id).least ∨ (ruleOf id).most < n := Classical.byContradiction (fun h => by rw [HS.out.2 h] at hso; cases hso)
      have HV := Lib.hid (HV0.out.trans (by rw [show chkR (ruleOf id) n q1 = ⟨q1.s, 3⟩ from if_pos ⟨he, hno⟩]))
      clear he hso hno
      have gc2 := Lib.hid (blk_set gc.out 1 (.int .i64 3))
      have gp2 := Lib.hid (blk_far (p := ⟨w.heap.size, 1, none⟩) gp.out (by simp) (.int .i64 3))
      have gr2 := Lib.hid (blk_far (p := ⟨w.heap.size, 1, none⟩) gr.out (by simp) (.int .i64 3))
      have gs2 := Lib.hid (blk_far (p := ⟨w.heap.size, 1, none⟩) gs.out (by simp) (.int .i64 3))
      have gf2 := Lib.hid (gf.out.setCell (p := ⟨w.heap.size, 1, none⟩) (Or.inl (by simp)) (.int .i64 3))
      go_upto_region 29 with (fail)
      obtain ⟨yy, hyy⟩ : ∃ yy, y.setCell ⟨w.heap.size, 1, none⟩ (.int .i64 3) = yy := ⟨_, rfl⟩
      rw [hyy] at gc2 gp2 gr2 gs2 gf2 ⊢
      clear hyy gc gp gr gs gf
      have gc := gc2
      have gp := gp2
      have gr := gr2
      have gs := gs2
      have gf := gf2
      clear gc2 gp2 gr2 gs2 gf2 c0 c1 f0 f1 hlc p0 p1 p2 p3 k0 k1 k2 k3 hlp r0 r1 z0 z1 hlr s0 s1 s2 s3 t0 t1 t2 t3 hls
      obtain ⟨c0, c1, f0, f1, hlc⟩ := blk2_facts gc.out
      obtain ⟨⟨p0, p1, p2, p3⟩, ⟨k0, k1, k2, k3⟩, hlp⟩ := blk4_facts gp.out
      obtain ⟨r0, r1, z0, z1, hlr⟩ := blk2_facts gr.out
      obtain ⟨⟨s0, s1, s2, s3⟩, ⟨t0, t1, t2, t3⟩, hls⟩ := blk4_facts gs.out
      refine wp_region_held_drew (S := fun w' => w'.cell? ⟨w.heap.size, 0, none⟩ = some (.string ⟨q1.s.toArray⟩) ∧ w'.cell? ⟨w.heap.size, 1, none⟩ = some (.int .i64 3) ∧ w'.cell? ⟨w.heap.size + 3, 0, none⟩ = some (.int .i64 id) ∧ w'.cell? ⟨w.heap.size + 3, 1, none⟩ = some (.int .u32 n) ∧ w'.cell? ⟨w.heap.size + 3, 2, none⟩ = some (.string ⟨#[]⟩) ∧ w'.cell? ⟨w.heap.size + 3, 3, none⟩ = some (.string ⟨#[]⟩)) (by kernel_rfl) ⟨c0, c1, p0, p1, p2, p3⟩ (fun hHeld => ?_)
      refine wpAnyH_take (i := 0) (oi := _) (v := ?_) rfl (by kernel_rfl) (by kernel_rfl) (by kernel_rfl) (fun _ _ _ h => h) (Or.inl ⟨by rfl, ?_⟩) hHeld ?_
      rotate_left
      · intro w hSw
        (try dsimp only at hSw)
        go_simp
        try with_reducible rfl
      try simp only [Act.put, List.getElem_toArray, List.getElem_cons_succ, List.getElem_cons_zero, List.setIfInBounds_toArray, List.set_cons_zero, List.set_cons_succ]
      refine wpAnyH_take (i := 1) (oi := _) (v := ?_) rfl (by kernel_rfl) (by kernel_rfl) (by kernel_rfl) (fun _ _ _ h => h) (Or.inl ⟨by rfl, ?_⟩) hHeld ?_
      rotate_left
      · intro w hSw
        (try dsimp only at hSw)
        go_simp
        try with_reducible rfl
      try simp only [Act.put, List.getElem_toArray, List.getElem_cons_succ, List.getElem_cons_zero, List.setIfInBounds_toArray, List.set_cons_zero, List.set_cons_succ]
      refine wpAnyH_ready (rs := [2]) (by kernel_rfl) (by simp) ?_
      refine AllReadyH.cons (o := _) rfl (fun K hK => ?_) ?_
      · go_simp
        generalize hz1 : ((yy.setCell ⟨w.heap.size + 1, 0, none⟩ (.string ⟨q1.s.toArray⟩)).setCell ⟨w.heap.size + 1, 1, none⟩ (.int .i64 3)).drew = y1
        have F1 : Fr [w.heap.size + 1, w.heap.size + 2] yy y1 := hz1 ▸ (((Fr.refl _ yy).setCell (Or.inr (by simp)) _).setCell (Or.inr (by simp)) _).drew
        have hA1 : y1.heap[w.heap.size + 1]? = some (.cells #[(.string ⟨q1.s.toArray⟩), (.int .i64 3)] 99 (0, 0)) := hz1 ▸ blk2_set gr.out (.string ⟨q1.s.toArray⟩) (.int .i64 3)
        have hB1 : y1.heap[w.heap.size + 1 + 1]? = some (.cells #[.int .i64 0, .int .u32 0, .string ⟨#[]⟩, .string ⟨#[]⟩] 121 (0, 0)) := hz1 ▸ blk_far (blk_far gs.out (by simp) _) (by simp) _
        have hG1 : Fr [] w y1 := hz1 ▸ ((gf.out.setCell (p := ⟨w.heap.size + 1, 0, none⟩) (Or.inl (by simp)) (.string ⟨q1.s.toArray⟩)).setCell (p := ⟨w.heap.size + 1, 1, none⟩) (Or.inl (by simp)) (.int .i64 3)).drew
        refine hK.out _ _ ⟨F1.cell c0 (by simp), F1.cell c1 (by simp), F1.cell p0 (by simp), F1.cell p1 (by simp), F1.cell p2 (by simp), F1.cell p3 (by simp)⟩ (fun hHeld => ?_)
        clear hK K hz1
        try simp only [Act.put, List.getElem_toArray, List.getElem_cons_succ, List.getElem_cons_zero, List.setIfInBounds_toArray, List.set_cons_zero, List.set_cons_succ]
        obtain ⟨⟨v0, v1, v2, v3⟩, ⟨g0, g1, g2, g3⟩, hg⟩ := blk4_facts hB1
        refine wpAnyH_ready (rs := [3]) (by kernel_rfl) (by simp) ?_
        refine AllReadyH.cons (o := _) rfl (fun K hK => ?_) ?_
        · go_simp
          generalize hz2 : (((y1.setCell ⟨w.heap.size + 1 + 1, 0, none⟩ (.int .i64 id)).setCell ⟨w.heap.size + 1 + 1, 1, none⟩ (.int .u32 n)).setCell ⟨w.heap.size + 1 + 1, 2, none⟩ (.string ⟨#[]⟩)).setCell ⟨w.heap.size + 1 + 1, 3, none⟩ (.string ⟨#[]⟩) = y2
          have F2 : Fr [w.heap.size + 1, w.heap.size + 2] y1 y2 := hz2 ▸ ((((Fr.refl _ y1).setCell (Or.inr (by simp)) _).setCell (Or.inr (by simp)) _).setCell (Or.inr (by simp)) _).setCell (Or.inr (by simp)) _
          have hA2 : y2.heap[w.heap.size + 1]? = some (.cells #[(.string ⟨q1.s.toArray⟩), (.int .i64 3)] 99 (0, 0)) := hz2 ▸ blk_far (blk_far (blk_far (blk_far hA1 (by simp) _) (by simp) _) (by simp) _) (by simp) _
          have hB2 : y2.heap[w.heap.size + 1 + 1]? = some (.cells #[(.int .i64 id), (.int .u32 n), (.string ⟨#[]⟩), (.string ⟨#[]⟩)] 121 (0, 0)) := hz2 ▸ blk4_set hB1 (.int .i64 id) (.int .u32 n) (.string ⟨#[]⟩) (.string ⟨#[]⟩)
          have hle2 : w.heap.size ≤ w.heap.size + 1 + 1 := by omega
          have hG2 : Fr [] w y2 := hz2 ▸ (((hG1.setCell (p := ⟨w.heap.size + 1 + 1, 0, none⟩) (Or.inl hle2) (.int .i64 id)).setCell (p := ⟨w.heap.size + 1 + 1, 1, none⟩) (Or.inl hle2) (.int .u32 n)).setCell (p := ⟨w.heap.size + 1 + 1, 2, none⟩) (Or.inl hle2) (.string ⟨#[]⟩)).setCell (p := ⟨w.heap.size + 1 + 1, 3, none⟩) (Or.inl hle2) (.string ⟨#[]⟩)
          have F3 := F1.trans F2 (fun _ _ h => h)
          refine hK.out _ _ ⟨F3.cell c0 (by simp), F3.cell c1 (by simp), F3.cell p0 (by simp), F3.cell p1 (by simp), F3.cell p2 (by simp), F3.cell p3 (by simp)⟩ (fun hHeld => ?_)
          clear hK K hz2
          try simp only [Act.put, List.getElem_toArray, List.getElem_cons_succ, List.getElem_cons_zero, List.setIfInBounds_toArray, List.set_cons_zero, List.set_cons_succ]
          refine wpAnyH_done (by kernel_rfl) ?_ _
          obtain ⟨rr0, rr1, zz0, zz1, hlr2⟩ := blk2_facts hA2
          obtain ⟨⟨ss0, ss1, ss2, ss3⟩, ⟨tt0, tt1, tt2, tt3⟩, hls2⟩ := blk4_facts hB2
          go_wp2
          refine bodyPost_ret (v := .tuple #[.agg #[(.string ⟨q1.s.toArray⟩), (.int .i64 3)], .agg #[(.int .i64 id), (.int .u32 n), (.string ⟨#[]⟩), (.string ⟨#[]⟩)]]) (by simp [results, Try.results95, go_sem, rr0, rr1, ss0, ss1, ss2, ss3]) rfl ?_
          rw [HV.out]
          exact ⟨(Pr.mk id n [] []), rfl, (fun _ => rfl), hn, hG2⟩
        exact AllReadyH.nil
      exact AllReadyH.nil
end Go.Proofs.Ythioageiebchlaa
