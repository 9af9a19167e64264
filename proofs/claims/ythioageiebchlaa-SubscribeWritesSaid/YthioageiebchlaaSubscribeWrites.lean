/- The walk of the law SubscribeWrites. -/
import Derived.Test.YthioageiebchlaaSuM
import Derived.Test.YthioageiebchlaaSuP
import Derived.Test.YthioageiebchlaaSuR
import Derived.Test.YthioageiebchlaaLawA
import Derived.Test.YthioageiebchlaaLaw
import Derived.Test.YthioageiebchlaaPropOpen
namespace Go.Proofs.Ythioageiebchlaa
open Go.RowKit
set_option linter.unusedVariables false
set_option linter.unusedSimpArgs false

theorem fewSu_b (s : Su) (hid : s.id < 4294967296) (hok : PrsOk s.props) (hsk : ∀ x ∈ s.subs, SbOk x) : SuB (fewSu s) := by
  obtain ⟨a1, a2⟩ := fewR_ok s.props hok
  refine ⟨hid, by show (fewR s.props).length ≤ _; omega, fun x hx => by obtain ⟨p, q, r⟩ := a2 x hx; exact ⟨p, by omega, by omega⟩, ?_, ?_⟩
  · show ((s.subs.take 6).map cutSb).length ≤ 1000
    rw [List.length_map]; exact Nat.le_trans (List.length_take_le _ _) (by decide)
  · intro x hx
    obtain ⟨y, hy, rfl⟩ := List.mem_map.1 hx
    obtain ⟨a, b, c⟩ := hsk y (List.mem_of_mem_take hy)
    exact ⟨a, b, Nat.le_trans (List.length_take_le _ _) (by decide)⟩
/-- What stands behind filters: the unsubscribe in a block of its own. -/
def UnB2 (id : Nat) (LP : List Pr) (A2 : Option Addr) (n2 : Nat) (SS : List Sb) (b0 : Nat) (z : World) (v : Value) (wx : World) : Prop :=
  ∃ X A4 n4, v = .pointer (some ⟨X, 0, none⟩) ∧ wx.heap[X]? = some (.cells #[.int .u32 (id : Int), .slice A2 LP.length n2, .slice A4 SS.length n4] 43 (0, 0)) ∧ b0 < X ∧ View wx (.slice A4 SS.length n4) SS.length ((SS.map Sb.filter).flatMap strE) ∧ Fr [] z wx
set_option maxRecDepth 100000 in
set_option maxHeartbeats 8000000 in
theorem subscribeWrites_walk (s : Su) (v u : Value) (a1 : ByteArray) (w1 : a1.size ≤ maxLen) (w : World) (hid : s.id < 4294967296) (hv : View w v s.props.length (s.props.flatMap prE)) (hu : View w u s.subs.length (s.subs.flatMap sbE)) (hl : s.props.length ≤ 9223372036854775807) (hl2 : s.subs.length ≤ 9223372036854775807) (hok : PrsOk s.props) (hfk : ∀ x ∈ s.subs, SbOk x) :
    Calls Try.prog 4 #[.agg (suC s v u).toArray, .string a1] w fun e w' => e = .returned (.bool true) ∧ Fr [] w w' := by
  obtain ⟨cs, rfl, hcs⟩ := str_list a1
  rw [← hcs] at w1
  unfold maxLen at w1
  have hb0 := blk_new w (.cells (suC s v u).toArray 27)
  have F0 : Fr [] w (w.alloc (.cells (suC s v u).toArray 27)) := (Fr.refl _ _).alloc _
  have hF := Lib.hid (few8_any s v u _ (hv.old F0 (by simp)) (hu.old F0 (by simp)) hl hl2 (fun x hx => (hok x hx).2) (fun x hx => (hfk x hx).2.2))
  have HB := Lib.hid (fewSu_b s hid hok hfk)
  obtain ⟨A, n, rfl⟩ := view_shp hv
  obtain ⟨A', n', rfl⟩ := view_shp hu
  clear hcs hv hu hl hl2 hok hfk hid
  obtain ⟨sid, sl, ss⟩ := s
  generalize hFS : fewSu ⟨sid, sl, ss⟩ = FS at *
  clear hFS
  unfold suC at hb0 F0 hF ⊢
  dsimp only at hb0 F0 hF ⊢
  obtain ⟨id, LP, SS⟩ := FS
  have hLP := HB.out.l
  have hSS := HB.out.sl
  dsimp only at hLP hSS
  go_enter Try.func4, Try.ntmps4
  go_upto_region 1 with (fail)
  obtain ⟨y, hy⟩ : ∃ y, w.alloc (.cells #[.int .u32 (sid : Int), .slice A sl.length n, .slice A' ss.length n'] 27) = y := ⟨_, rfl⟩
  rw [hy] at hb0 F0 hF ⊢
  clear hy
  have hyl := blk_lt hb0
  obtain ⟨⟨e0, e1, e2⟩, _, _⟩ := blk3_facts hb0
  go_wp2_with fail
  refine hF.out.mono ?_
  rintro _ y2 ⟨v2, u2, rfl, own2, own3, g2⟩
  dsimp only at own2 own3
  obtain ⟨A2, n2, rfl⟩ := own_shape own2
  obtain ⟨A3, n3, rfl⟩ := own_shape own3
  unfold suC
  dsimp only
  have hb1 := g2.blk hb0 (by simp)
  have g3 : Fr [w.heap.size] y2 (((y2.setCell ⟨w.heap.size, 0, none⟩ (.int .u32 (id : Int))).setCell ⟨w.heap.size, 1, none⟩ (.slice A2 LP.length n2)).setCell ⟨w.heap.size, 2, none⟩ (.slice A3 SS.length n3)) := (((Fr.refl _ _).setCell (Or.inr (by simp)) _).setCell (Or.inr (by simp)) _).setCell (Or.inr (by simp)) _
  have hS1 := blk_set (blk_set (blk_set hb1 0 (.int .u32 (id : Int))) 1 (.slice A2 LP.length n2)) 2 (.slice A3 SS.length n3)
  have HV := Lib.hid ((own_view own2).fr g3 (by intro k hk e; have := (own2.lt k hk).1; simp at e; omega))
  have HU := Lib.hid ((own_view own3).fr g3 (by intro k hk e; have := (own3.lt k hk).1; simp at e; omega))
  have HF0 := Lib.hid ((F0.trans g2 (by simp)).trans g3 (by intro x hx e; simp at e; omega))
  obtain ⟨⟨d0, d1, d2⟩, ⟨k0, k1, k2⟩, _⟩ := blk3_facts hb1
  clear F0 hF own2 own3 g2 e0 e1 e2 hb0
  go_upto_region 2 with (fail)
  obtain ⟨z, hz⟩ : ∃ z, ((y2.setCell ⟨w.heap.size, 0, none⟩ (.int .u32 (id : Int))).setCell ⟨w.heap.size, 1, none⟩ (.slice A2 LP.length n2)).setCell ⟨w.heap.size, 2, none⟩ (.slice A3 SS.length n3) = z := ⟨_, rfl⟩
  rw [hz] at hS1 HV HU HF0 ⊢
  have HS1 : Hid (z.heap[w.heap.size]? = some (.cells #[.int .u32 (id : Int), .slice A2 LP.length n2, .slice A3 SS.length n3] 27 (0, 0))) := Lib.hid hS1
  clear hz g3 hS1 hb1 d0 d1 d2 k0 k1 k2
  go_wp2_with fail
  refine (cut_any cs 20 _ (by omega) (by decide)).mono ?_
  rintro _ _ ⟨rfl, rfl⟩
  rw [show (20 : Int).toNat = 20 from rfl]
  have hcl : (cs.take 20).length ≤ 20 := List.length_take_le _ _
  generalize cs.take 20 = cs at *
  go_upto_region 3 with (fail)
  have hzl := blk_lt HS1.out
  go_cut [5] (fun v5 wx => UnB2 id LP A2 n2 SS w.heap.size z v5 wx)
  case first =>
    obtain ⟨⟨e0, e1, e2⟩, _, _⟩ := blk3_facts HS1.out
    refine wp_region_late [] (S := fun w' => w'.cell? ⟨w.heap.size, 0, none⟩ = some (.int .u32 (id : Int)) ∧ w'.cell? ⟨w.heap.size, 1, none⟩ = some (.slice A2 LP.length n2) ∧ w'.cell? ⟨w.heap.size, 2, none⟩ = some (.slice A3 SS.length n3)) (by kernel_rfl) ⟨e0, e1, e2⟩ (fun hHeld => ?_)
    have fd := (Fr.refl [] z).drew
    have HUd := Lib.hid (HU.out.old fd (by simp))
    obtain ⟨wd, hwd⟩ : ∃ wd, z.drew = wd := ⟨_, rfl⟩
    rw [hwd] at hHeld fd HUd ⊢
    have hzd := fd.size
    clear hwd e0 e1 e2
    obtain ⟨e0, e1, e2⟩ := hHeld
    have hHeld := And.intro e0 (And.intro e1 e2)
    refine wpLate_take (i := 0) (oi := _) (v := ?_) rfl (by kernel_rfl) (by kernel_rfl) (by kernel_rfl) (by kernel_rfl) (fun _ _ _ h => h) (Gives.load (by rfl) ?_) hHeld ?_
    rotate_left
    · intro w hSw
      (try dsimp only at hSw)
      go_simp
      try with_reducible rfl
    try simp only [Act.put, List.getElem_toArray, List.getElem_cons_succ, List.getElem_cons_zero, List.setIfInBounds_toArray, List.set_cons_zero, List.set_cons_succ]
    refine wpLate_take (i := 1) (oi := _) (v := ?_) rfl (by kernel_rfl) (by kernel_rfl) (by kernel_rfl) (by kernel_rfl) (fun _ _ _ h => h) (Gives.load (by rfl) ?_) hHeld ?_
    rotate_left
    · intro w hSw
      (try dsimp only at hSw)
      go_simp
      try with_reducible rfl
    try simp only [Act.put, List.getElem_toArray, List.getElem_cons_succ, List.getElem_cons_zero, List.setIfInBounds_toArray, List.set_cons_zero, List.set_cons_succ]
    refine wpLate_take (i := 2) (oi := _) (v := ?_) rfl (by kernel_rfl) (by kernel_rfl) (by kernel_rfl) (by kernel_rfl) (fun _ _ _ h => h) (Gives.load (by rfl) ?_) hHeld ?_
    rotate_left
    · intro w hSw
      (try dsimp only at hSw)
      go_simp
      try with_reducible rfl
    try simp only [Act.put, List.getElem_toArray, List.getElem_cons_succ, List.getElem_cons_zero, List.setIfInBounds_toArray, List.set_cons_zero, List.set_cons_succ]
    refine wpLate_take (i := 3) (oi := _) (v := ?_) rfl (by kernel_rfl) (by kernel_rfl) (by kernel_rfl) (by kernel_rfl) (fun _ _ _ h => h) (Gives.load (by rfl) ?_) hHeld ?_
    rotate_left
    · intro w hSw
      (try dsimp only at hSw)
      go_simp
      try with_reducible rfl
    try simp only [Act.put, List.getElem_toArray, List.getElem_cons_succ, List.getElem_cons_zero, List.setIfInBounds_toArray, List.set_cons_zero, List.set_cons_succ]
    refine wpLate_take (i := 4) (oi := _) (v := ?_) rfl (by kernel_rfl) (by kernel_rfl) (by kernel_rfl) (by kernel_rfl) (fun _ _ _ h => h) (Gives.load (by rfl) ?_) hHeld ?_
    rotate_left
    · intro w hSw
      (try dsimp only at hSw)
      go_simp
      try with_reducible rfl
    try simp only [Act.put, List.getElem_toArray, List.getElem_cons_succ, List.getElem_cons_zero, List.setIfInBounds_toArray, List.set_cons_zero, List.set_cons_succ]
    refine wpLate_ready (rs := [5, 7]) (by kernel_rfl) (by simp) ?_
    refine AllLate.cons (o := _) rfl (fun K hK => ?_) ?_
    · go_simp
      refine (filters8_any ⟨id, LP, SS⟩ _ _ _ HUd.out (by show SS.length ≤ _; omega) ⟨_, _, _, rfl⟩).mono ?_
      rintro _ x1 ⟨v4, rfl, own4, f⟩
      dsimp only at own4
      obtain ⟨A4, n4, rfl⟩ := own_shape own4
      go_wp2_with fail
      have V4 := own_view own4
      refine hK.out _ _ (fun _ => ⟨f.cell e0 (by simp), f.cell e1 (by simp), f.cell e2 (by simp)⟩) (fun hHeld => ?_)
      replace hHeld := hHeld (by kernel_rfl)
      clear hK K own4
      try simp only [Act.put, List.getElem_toArray, List.getElem_cons_succ, List.getElem_cons_zero, List.setIfInBounds_toArray, List.set_cons_zero, List.set_cons_succ]
      refine wpLate_pure (i := 6) (oi := _) (v := ?_) rfl (by kernel_rfl) (by kernel_rfl) (by kernel_rfl) (by kernel_rfl) (fun _ _ _ h => h) (Gives.load (by rfl) ?_) (fun _ => hHeld) ?_
      rotate_left
      · intro w hSw
        clear hSw
        go_simp
        try with_reducible rfl
      try simp only [Act.put, List.getElem_toArray, List.getElem_cons_succ, List.getElem_cons_zero, List.setIfInBounds_toArray, List.set_cons_zero, List.set_cons_succ]
      refine wpLate_ready (rs := [7]) (by kernel_rfl) (by simp) ?_
      refine AllLate.cons (o := _) rfl (fun K hK => ?_) (by exact AllLate.nil)
      go_simp
      have ga := f.alloc (.cells #[.int .u32 0, .slice none 0 0, .slice none 0 0] 43)
      refine hK.out _ _ (fun _ => ⟨ga.cell e0 (by simp), ga.cell e1 (by simp), ga.cell e2 (by simp)⟩) (fun hHeld => ?_)
      replace hHeld := hHeld (by kernel_rfl)
      clear hK K
      try simp only [Act.put, List.getElem_toArray, List.getElem_cons_succ, List.getElem_cons_zero, List.setIfInBounds_toArray, List.set_cons_zero, List.set_cons_succ]
      refine wpLate_ready (rs := [8]) (by kernel_rfl) (by simp) ?_
      refine AllLate.cons (o := _) rfl (fun K hK => ?_) (by exact AllLate.nil)
      have gs := fr_row ga (g := x1.heap.size) (Or.inl f.size) #[.int .u32 (id : Int), .slice A2 LP.length n2, .slice A4 SS.length n4]
      refine step_store_row rfl 43 _ _ rfl x1.heap.size #[.int .u32 (id : Int), .slice A2 LP.length n2, .slice A4 SS.length n4] (by rfl) (by rfl) _ _ (blk_new x1 _) (by kernel_rfl) rfl (su_row _ _ _ _ _ _ _) ?_
      refine hK.out _ _ (fun _ => ⟨gs.cell e0 (by simp), gs.cell e1 (by simp), gs.cell e2 (by simp)⟩) (fun hHeld => ?_)
      replace hHeld := hHeld (by kernel_rfl)
      clear hK K
      try simp only [Act.put, List.getElem_toArray, List.getElem_cons_succ, List.getElem_cons_zero, List.setIfInBounds_toArray, List.set_cons_zero, List.set_cons_succ]
      refine wpLate_done (by kernel_rfl) ?_ _
      have hx1 := f.size
      have VZ := Lib.hid (V4.old (fr_row ((Fr.refl [] x1).alloc (.cells #[.int .u32 0, .slice none 0 0, .slice none 0 0] 43)) (g := x1.heap.size) (Or.inl (Nat.le_refl _)) #[.int .u32 (id : Int), .slice A2 LP.length n2, .slice A4 SS.length n4]) (by simp))
      go_wp2_with fail
      go_meet
      exact ⟨x1.heap.size, A4, n4, rfl, setRow_heap _ _ _ _ _ _ (blk_new x1 _), by omega, VZ.out, fd.trans gs (by simp)⟩
    refine AllLate.cons (o := _) rfl (fun K hK => ?_) (by exact AllLate.nil)
    go_simp
    have ga := (Fr.refl [] wd).alloc (.cells #[.int .u32 0, .slice none 0 0, .slice none 0 0] 43)
    have hbn := blk_new wd (.cells #[.int .u32 0, .slice none 0 0, .slice none 0 0] 43)
    refine hK.out _ _ (fun _ => ⟨ga.cell e0 (by simp), ga.cell e1 (by simp), ga.cell e2 (by simp)⟩) (fun hHeld => ?_)
    replace hHeld := hHeld (by kernel_rfl)
    clear hK K
    try simp only [Act.put, List.getElem_toArray, List.getElem_cons_succ, List.getElem_cons_zero, List.setIfInBounds_toArray, List.set_cons_zero, List.set_cons_succ]
    obtain ⟨C, hC⟩ : ∃ C, wd.heap.size = C := ⟨_, rfl⟩
    obtain ⟨X, hX⟩ : ∃ X, wd.alloc (.cells #[.int .u32 0, .slice none 0 0, .slice none 0 0] 43) = X := ⟨_, rfl⟩
    have hwC : wd.heap.size ≤ C := by omega
    have HUX := Lib.hid (HUd.out.old ga (by simp))
    rw [hC] at hbn ⊢
    rw [hX] at hHeld hbn ga HUX ⊢
    clear hX hC
    have hCX := blk_lt hbn
    refine wpLate_ready (rs := [5]) (by kernel_rfl) (by simp) ?_
    refine AllLate.cons (o := _) rfl (fun K hK => ?_) (by exact AllLate.nil)
    go_simp
    refine (filters8_any ⟨id, LP, SS⟩ _ _ _ HUX.out (by show SS.length ≤ _; omega) ⟨_, _, _, rfl⟩).mono ?_
    rintro _ x1 ⟨v4, rfl, own4, f⟩
    dsimp only at own4
    obtain ⟨A4, n4, rfl⟩ := own_shape own4
    go_wp2_with fail
    have V4 := own_view own4
    have hlow := fun k hk => (own4.lt k hk).1
    have gx := ga.trans f (by simp)
    have hb1 := f.blk hbn (by simp)
    refine hK.out _ _ (fun _ => ⟨gx.cell e0 (by simp), gx.cell e1 (by simp), gx.cell e2 (by simp)⟩) (fun hHeld => ?_)
    replace hHeld := hHeld (by kernel_rfl)
    clear hK K own4
    try simp only [Act.put, List.getElem_toArray, List.getElem_cons_succ, List.getElem_cons_zero, List.setIfInBounds_toArray, List.set_cons_zero, List.set_cons_succ]
    refine wpLate_pure (i := 6) (oi := _) (v := ?_) rfl (by kernel_rfl) (by kernel_rfl) (by kernel_rfl) (by kernel_rfl) (fun _ _ _ h => h) (Gives.load (by rfl) ?_) (fun _ => hHeld) ?_
    rotate_left
    · intro w hSw
      clear hSw
      go_simp
      try with_reducible rfl
    try simp only [Act.put, List.getElem_toArray, List.getElem_cons_succ, List.getElem_cons_zero, List.setIfInBounds_toArray, List.set_cons_zero, List.set_cons_succ]
    refine wpLate_ready (rs := [8]) (by kernel_rfl) (by simp) ?_
    refine AllLate.cons (o := _) rfl (fun K hK => ?_) (by exact AllLate.nil)
    have gs := fr_row gx (g := C) (Or.inl hwC) #[.int .u32 (id : Int), .slice A2 LP.length n2, .slice A4 SS.length n4]
    refine step_store_row rfl 43 _ _ rfl C #[.int .u32 (id : Int), .slice A2 LP.length n2, .slice A4 SS.length n4] (by rfl) (by rfl) _ _ hb1 (by kernel_rfl) rfl (su_row _ _ _ _ _ _ _) ?_
    refine hK.out _ _ (fun _ => ⟨gs.cell e0 (by simp), gs.cell e1 (by simp), gs.cell e2 (by simp)⟩) (fun hHeld => ?_)
    replace hHeld := hHeld (by kernel_rfl)
    clear hK K
    try simp only [Act.put, List.getElem_toArray, List.getElem_cons_succ, List.getElem_cons_zero, List.setIfInBounds_toArray, List.set_cons_zero, List.set_cons_succ]
    refine wpLate_done (by kernel_rfl) ?_ _
    have VZ := Lib.hid (V4.fr (fr_row (Fr.refl [C] x1) (g := C) (Or.inr (by simp)) #[.int .u32 (id : Int), .slice A2 LP.length n2, .slice A4 SS.length n4]) (by intro k hk e; have := hlow k hk; simp at e; omega))
    go_wp2_with fail
    go_meet
    exact ⟨C, A4, n4, rfl, setRow_heap _ _ _ _ _ _ hb1, by omega, VZ.out, fd.trans gs (by simp)⟩
  case rest =>
    obtain ⟨X, A4, n4, rfl, hX, hwX, V4, G⟩ := hcut
    generalize wc = z2 at *
    have ga := G.alloc (.cells #[.int .i64 9, .int .u32 (id : Int), .slice A2 LP.length n2, .string ⟨cs.toArray⟩] 45)
    have HY := Lib.hid (blk_new z2 (.cells #[.int .i64 9, .int .u32 (id : Int), .slice A2 LP.length n2, .string ⟨cs.toArray⟩] 45))
    have HX := Lib.hid (blk_old hX (.cells #[.int .i64 9, .int .u32 (id : Int), .slice A2 LP.length n2, .string ⟨cs.toArray⟩] 45))
    have HS := Lib.hid (ga.blk HS1.out (by simp))
    have HV1 := Lib.hid (HV.out.old ga (by simp))
    have HU1 := Lib.hid (HU.out.old ga (by simp))
    have HV4 := Lib.hid (V4.old ((Fr.refl [] z2).alloc (.cells #[.int .i64 9, .int .u32 (id : Int), .slice A2 LP.length n2, .string ⟨cs.toArray⟩] 45)) (by simp))
    have HF1 := Lib.hid (HF0.out.trans ga (by simp))
    obtain ⟨⟨e0, e1, e2⟩, _, _⟩ := blk3_facts (G.blk HS1.out (by simp))
    clear ga HS1 HV HU V4 HF0 hX G
    go_upto_region 5 with (fail)
    obtain ⟨Y, hY⟩ : ∃ Y, z2.heap.size = Y := ⟨_, rfl⟩
    obtain ⟨z3, hz3⟩ : ∃ z3, z2.alloc (.cells #[.int .i64 9, .int .u32 (id : Int), .slice A2 LP.length n2, .string ⟨cs.toArray⟩] 45) = z3 := ⟨_, rfl⟩
    rw [hY] at HY ⊢
    rw [hz3] at HY HX HS HV1 HU1 HV4 HF1 ⊢
    clear hY hz3 e0 e1 e2
    have fd := (Fr.refl [] z3).drew
    refine wp_region_late [] (S := fun w' => (w'.cell? ⟨w.heap.size, 0, none⟩ = some (.int .u32 (id : Int)) ∧ w'.cell? ⟨w.heap.size, 1, none⟩ = some (.slice A2 LP.length n2) ∧ w'.cell? ⟨w.heap.size, 2, none⟩ = some (.slice A3 SS.length n3)) ∧ (w'.cell? ⟨X, 0, none⟩ = some (.int .u32 (id : Int)) ∧ w'.cell? ⟨X, 1, none⟩ = some (.slice A2 LP.length n2) ∧ w'.cell? ⟨X, 2, none⟩ = some (.slice A4 SS.length n4)) ∧ (w'.cell? ⟨Y, 0, none⟩ = some (.int .i64 9) ∧ w'.cell? ⟨Y, 1, none⟩ = some (.int .u32 (id : Int)) ∧ w'.cell? ⟨Y, 2, none⟩ = some (.slice A2 LP.length n2) ∧ w'.cell? ⟨Y, 3, none⟩ = some (.string ⟨cs.toArray⟩))) (by kernel_rfl) ⟨(blk3_facts HS.out).1, (blk3_facts HX.out).1, (blk4_facts HY.out).1⟩ (fun hHeld => ?_)
    have HSd := Lib.hid (fd.blk HS.out (by simp))
    have HXd := Lib.hid (fd.blk HX.out (by simp))
    have HYd := Lib.hid (fd.blk HY.out (by simp))
    have HVd := Lib.hid (HV1.out.old fd (by simp))
    have HUd := Lib.hid (HU1.out.old fd (by simp))
    have H4d := Lib.hid (HV4.out.old fd (by simp))
    have FZ := Lib.hid (HF1.out.trans fd (by simp))
    obtain ⟨wd, hwd⟩ : ∃ wd, z3.drew = wd := ⟨_, rfl⟩
    rw [hwd] at hHeld HSd HXd HYd HVd HUd H4d FZ ⊢
    have GG := Lib.hid (Fr.refl [] wd)
    clear hwd fd HS HX HY HV1 HU1 HV4 HF1
    have HS := HSd
    have HX := HXd
    have HY := HYd
    clear HSd HXd HYd
    have HUB := Lib.hid (show UnB ⟨id, LP, SS.map Sb.filter⟩ from ⟨HB.out.i, HB.out.l, HB.out.o, by show (SS.map Sb.filter).length ≤ _; rw [List.length_map]; exact HB.out.sl, fun x hx => by obtain ⟨y, hy, rfl⟩ := List.mem_map.1 hx; exact (HB.out.so y hy).2.2⟩)
    have HAB := Lib.hid (show SaB ⟨9, id, LP, cs⟩ from ⟨HB.out.i, HB.out.l, HB.out.o, by show cs.length ≤ _; omega⟩)
    have H4e := Lib.hid (show View wd (.slice A4 SS.length n4) (SS.map Sb.filter).length ((SS.map Sb.filter).flatMap strE) by rw [List.length_map]; exact H4d.out)
    refine wpLate_ready (rs := [0]) (by kernel_rfl) (by simp) ?_
    refine AllLate.cons (o := _) rfl (fun K hK => ?_) (by exact AllLate.nil)
    go_simp
    refine (awake8_any _).mono ?_
    rintro _ x0 ⟨rfl, f⟩
    go_wp2_with fail
    have GN := Lib.hid (GG.out.trans f (by simp))
    clear f GG
    have GG := GN
    clear GN
    refine hK.out _ _ (fun _ => ⟨(blk3_facts (GG.out.blk HS.out (by simp))).1, (blk3_facts (GG.out.blk HX.out (by simp))).1, (blk4_facts (GG.out.blk HY.out (by simp))).1⟩) (fun hHeld => ?_)
    replace hHeld := hHeld (by kernel_rfl)
    clear hK K
    try simp only [Act.put, List.getElem_toArray, List.getElem_cons_succ, List.getElem_cons_zero, List.setIfInBounds_toArray, List.set_cons_zero, List.set_cons_succ]
    refine wpLate_take (i := 1) (oi := _) (v := ?_) rfl (by kernel_rfl) (by kernel_rfl) (by kernel_rfl) (by kernel_rfl) (fun _ _ _ h => h) (Gives.load (by rfl) ?_) hHeld ?_
    rotate_left
    · intro w hSw
      (try dsimp only at hSw)
      go_simp
      try with_reducible rfl
    try simp only [Act.put, List.getElem_toArray, List.getElem_cons_succ, List.getElem_cons_zero, List.setIfInBounds_toArray, List.set_cons_zero, List.set_cons_succ]
    refine wpLate_take (i := 2) (oi := _) (v := ?_) rfl (by kernel_rfl) (by kernel_rfl) (by kernel_rfl) (by kernel_rfl) (fun _ _ _ h => h) (Gives.load (by rfl) ?_) hHeld ?_
    rotate_left
    · intro w hSw
      (try dsimp only at hSw)
      go_simp
      try with_reducible rfl
    try simp only [Act.put, List.getElem_toArray, List.getElem_cons_succ, List.getElem_cons_zero, List.setIfInBounds_toArray, List.set_cons_zero, List.set_cons_succ]
    refine wpLate_take (i := 4) (oi := _) (v := ?_) rfl (by kernel_rfl) (by kernel_rfl) (by kernel_rfl) (by kernel_rfl) (fun _ _ _ h => h) (Gives.load (by rfl) ?_) hHeld ?_
    rotate_left
    · intro w hSw
      (try dsimp only at hSw)
      go_simp
      try with_reducible rfl
    try simp only [Act.put, List.getElem_toArray, List.getElem_cons_succ, List.getElem_cons_zero, List.setIfInBounds_toArray, List.set_cons_zero, List.set_cons_succ]
    refine wpLate_ready (rs := [3]) (by kernel_rfl) (by simp) ?_
    refine AllLate.cons (o := _) rfl (fun K hK => ?_) (by exact AllLate.nil)
    go_simp
    refine (sutext_any ⟨id, LP, SS⟩ _ _ _ HB.out (HVd.out.old GG.out (by simp)) (HUd.out.old GG.out (by simp))).mono ?_
    rintro _ x3 ⟨rfl, f⟩
    go_wp2_with fail
    have GN := Lib.hid (GG.out.trans f (by simp))
    clear f GG
    have GG := GN
    clear GN
    refine hK.out _ _ (fun _ => ⟨(blk3_facts (GG.out.blk HS.out (by simp))).1, (blk3_facts (GG.out.blk HX.out (by simp))).1, (blk4_facts (GG.out.blk HY.out (by simp))).1⟩) (fun hHeld => ?_)
    replace hHeld := hHeld (by kernel_rfl)
    clear hK K
    try simp only [Act.put, List.getElem_toArray, List.getElem_cons_succ, List.getElem_cons_zero, List.setIfInBounds_toArray, List.set_cons_zero, List.set_cons_succ]
    refine wpLate_ready (rs := [5]) (by kernel_rfl) (by simp) ?_
    refine AllLate.cons (o := _) rfl (fun K hK => ?_) (by exact AllLate.nil)
    go_simp
    refine (told8_any ⟨id, LP, SS⟩ _ _ _ (HVd.out.old GG.out (by simp)) (HUd.out.old GG.out (by simp)) (by show LP.length ≤ _; omega) (by show SS.length ≤ _; omega)).mono ?_
    rintro _ x5 ⟨v5, u5, rfl, V5, U5, f⟩
    go_wp2_with fail
    have GN := Lib.hid (GG.out.trans f (by simp))
    clear f GG
    have GG := GN
    clear GN
    refine hK.out _ _ (fun _ => ⟨(blk3_facts (GG.out.blk HS.out (by simp))).1, (blk3_facts (GG.out.blk HX.out (by simp))).1, (blk4_facts (GG.out.blk HY.out (by simp))).1⟩) (fun hHeld => ?_)
    replace hHeld := hHeld (by kernel_rfl)
    clear hK K
    try simp only [Act.put, List.getElem_toArray, List.getElem_cons_succ, List.getElem_cons_zero, List.setIfInBounds_toArray, List.set_cons_zero, List.set_cons_succ]
    refine wpLate_ready (rs := [6]) (by kernel_rfl) (by simp) ?_
    refine AllLate.cons (o := _) rfl (fun K hK => ?_) (by exact AllLate.nil)
    go_simp
    refine (rsutext_any ⟨id, LP, SS⟩ _ _ _ HB.out V5 U5).mono ?_
    rintro _ x6 ⟨rfl, f⟩
    clear V5 U5
    go_wp2_with fail
    have GN := Lib.hid (GG.out.trans f (by simp))
    clear f GG
    have GG := GN
    clear GN
    refine hK.out _ _ (fun _ => ⟨(blk3_facts (GG.out.blk HS.out (by simp))).1, (blk3_facts (GG.out.blk HX.out (by simp))).1, (blk4_facts (GG.out.blk HY.out (by simp))).1⟩) (fun hHeld => ?_)
    replace hHeld := hHeld (by kernel_rfl)
    clear hK K
    try simp only [Act.put, List.getElem_toArray, List.getElem_cons_succ, List.getElem_cons_zero, List.setIfInBounds_toArray, List.set_cons_zero, List.set_cons_succ]
    refine wpLate_pure (i := 7) (oi := _) (v := ?_) rfl (by kernel_rfl) (by kernel_rfl) (by kernel_rfl) (by kernel_rfl) (fun _ _ _ h => h) (Gives.load (by rfl) ?_) (fun _ => hHeld) ?_
    rotate_left
    · intro w hSw
      clear hSw
      go_simp
      try with_reducible rfl
    try simp only [Act.put, List.getElem_toArray, List.getElem_cons_succ, List.getElem_cons_zero, List.setIfInBounds_toArray, List.set_cons_zero, List.set_cons_succ]
    refine wpLate_pure (i := 8) (oi := _) (v := ?_) rfl (by kernel_rfl) (by kernel_rfl) (by kernel_rfl) (by kernel_rfl) (fun _ _ _ h => h) (Gives.load (by rfl) ?_) (fun _ => hHeld) ?_
    rotate_left
    · intro w hSw
      clear hSw
      go_simp
      try with_reducible rfl
    try simp only [Act.put, List.getElem_toArray, List.getElem_cons_succ, List.getElem_cons_zero, List.setIfInBounds_toArray, List.set_cons_zero, List.set_cons_succ]
    refine wpLate_pure (i := 9) (oi := _) (v := ?_) rfl (by kernel_rfl) (by kernel_rfl) (by kernel_rfl) (by kernel_rfl) (fun _ _ _ h => h) (Gives.load (by rfl) ?_) (fun _ => hHeld) ?_
    rotate_left
    · intro w hSw
      clear hSw
      go_simp
      try with_reducible rfl
    try simp only [Act.put, List.getElem_toArray, List.getElem_cons_succ, List.getElem_cons_zero, List.setIfInBounds_toArray, List.set_cons_zero, List.set_cons_succ]
    refine wpLate_take (i := 10) (oi := _) (v := ?_) rfl (by kernel_rfl) (by kernel_rfl) (by kernel_rfl) (by kernel_rfl) (fun _ _ _ h => h) (Gives.load (by rfl) ?_) hHeld ?_
    rotate_left
    · intro w hSw
      (try dsimp only at hSw)
      go_simp
      try with_reducible rfl
    try simp only [Act.put, List.getElem_toArray, List.getElem_cons_succ, List.getElem_cons_zero, List.setIfInBounds_toArray, List.set_cons_zero, List.set_cons_succ]
    refine wpLate_take (i := 12) (oi := _) (v := ?_) rfl (by kernel_rfl) (by kernel_rfl) (by kernel_rfl) (by kernel_rfl) (fun _ _ _ h => h) (Gives.load (by rfl) ?_) hHeld ?_
    rotate_left
    · intro w hSw
      (try dsimp only at hSw)
      go_simp
      try with_reducible rfl
    try simp only [Act.put, List.getElem_toArray, List.getElem_cons_succ, List.getElem_cons_zero, List.setIfInBounds_toArray, List.set_cons_zero, List.set_cons_succ]
    refine wpLate_ready (rs := [11]) (by kernel_rfl) (by simp) ?_
    refine AllLate.cons (o := _) rfl (fun K hK => ?_) (by exact AllLate.nil)
    go_simp
    refine (untext_any ⟨id, LP, SS.map Sb.filter⟩ _ _ _ HUB.out (HVd.out.old GG.out (by simp)) (H4e.out.old GG.out (by simp))).mono ?_
    rintro _ x11 ⟨rfl, f⟩
    go_wp2_with fail
    have GN := Lib.hid (GG.out.trans f (by simp))
    clear f GG
    have GG := GN
    clear GN
    refine hK.out _ _ (fun _ => ⟨(blk3_facts (GG.out.blk HS.out (by simp))).1, (blk3_facts (GG.out.blk HX.out (by simp))).1, (blk4_facts (GG.out.blk HY.out (by simp))).1⟩) (fun hHeld => ?_)
    replace hHeld := hHeld (by kernel_rfl)
    clear hK K
    try simp only [Act.put, List.getElem_toArray, List.getElem_cons_succ, List.getElem_cons_zero, List.setIfInBounds_toArray, List.set_cons_zero, List.set_cons_succ]
    refine wpLate_ready (rs := [13]) (by kernel_rfl) (by simp) ?_
    refine AllLate.cons (o := _) rfl (fun K hK => ?_) (by exact AllLate.nil)
    go_simp
    refine (uns8_any ⟨id, LP, SS.map Sb.filter⟩ _ (.slice A4 SS.length n4) _ (HVd.out.old GG.out (by simp)) (by show LP.length ≤ _; omega) ⟨_, _, _, rfl⟩).mono ?_
    rintro _ x13 ⟨v13, rfl, V13, f⟩
    go_wp2_with fail
    have GN := Lib.hid (GG.out.trans f (by simp))
    clear f GG
    have GG := GN
    clear GN
    refine hK.out _ _ (fun _ => ⟨(blk3_facts (GG.out.blk HS.out (by simp))).1, (blk3_facts (GG.out.blk HX.out (by simp))).1, (blk4_facts (GG.out.blk HY.out (by simp))).1⟩) (fun hHeld => ?_)
    replace hHeld := hHeld (by kernel_rfl)
    clear hK K
    try simp only [Act.put, List.getElem_toArray, List.getElem_cons_succ, List.getElem_cons_zero, List.setIfInBounds_toArray, List.set_cons_zero, List.set_cons_succ]
    refine wpLate_ready (rs := [14]) (by kernel_rfl) (by simp) ?_
    refine AllLate.cons (o := _) rfl (fun K hK => ?_) (by exact AllLate.nil)
    go_simp
    refine (runtext_any ⟨id, LP, SS.map Sb.filter⟩ _ _ _ HUB.out V13 (H4e.out.old GG.out (by simp))).mono ?_
    rintro _ x14 ⟨rfl, f⟩
    clear V13
    go_wp2_with fail
    have GN := Lib.hid (GG.out.trans f (by simp))
    clear f GG
    have GG := GN
    clear GN
    refine hK.out _ _ (fun _ => ⟨(blk3_facts (GG.out.blk HS.out (by simp))).1, (blk3_facts (GG.out.blk HX.out (by simp))).1, (blk4_facts (GG.out.blk HY.out (by simp))).1⟩) (fun hHeld => ?_)
    replace hHeld := hHeld (by kernel_rfl)
    clear hK K
    try simp only [Act.put, List.getElem_toArray, List.getElem_cons_succ, List.getElem_cons_zero, List.setIfInBounds_toArray, List.set_cons_zero, List.set_cons_succ]
    refine wpLate_pure (i := 15) (oi := _) (v := ?_) rfl (by kernel_rfl) (by kernel_rfl) (by kernel_rfl) (by kernel_rfl) (fun _ _ _ h => h) (Gives.load (by rfl) ?_) (fun _ => hHeld) ?_
    rotate_left
    · intro w hSw
      clear hSw
      go_simp
      try with_reducible rfl
    try simp only [Act.put, List.getElem_toArray, List.getElem_cons_succ, List.getElem_cons_zero, List.setIfInBounds_toArray, List.set_cons_zero, List.set_cons_succ]
    refine wpLate_pure (i := 16) (oi := _) (v := ?_) rfl (by kernel_rfl) (by kernel_rfl) (by kernel_rfl) (by kernel_rfl) (fun _ _ _ h => h) (Gives.load (by rfl) ?_) (fun _ => hHeld) ?_
    rotate_left
    · intro w hSw
      clear hSw
      go_simp
      try with_reducible rfl
    try simp only [Act.put, List.getElem_toArray, List.getElem_cons_succ, List.getElem_cons_zero, List.setIfInBounds_toArray, List.set_cons_zero, List.set_cons_succ]
    refine wpLate_pure (i := 17) (oi := _) (v := ?_) rfl (by kernel_rfl) (by kernel_rfl) (by kernel_rfl) (by kernel_rfl) (fun _ _ _ h => h) (Gives.load (by rfl) ?_) (fun _ => hHeld) ?_
    rotate_left
    · intro w hSw
      clear hSw
      go_simp
      try with_reducible rfl
    try simp only [Act.put, List.getElem_toArray, List.getElem_cons_succ, List.getElem_cons_zero, List.setIfInBounds_toArray, List.set_cons_zero, List.set_cons_succ]
    refine wpLate_take (i := 18) (oi := _) (v := ?_) rfl (by kernel_rfl) (by kernel_rfl) (by kernel_rfl) (by kernel_rfl) (fun _ _ _ h => h) (Gives.load (by rfl) ?_) hHeld ?_
    rotate_left
    · intro w hSw
      (try dsimp only at hSw)
      go_simp
      try with_reducible rfl
    try simp only [Act.put, List.getElem_toArray, List.getElem_cons_succ, List.getElem_cons_zero, List.setIfInBounds_toArray, List.set_cons_zero, List.set_cons_succ]
    refine wpLate_take (i := 20) (oi := _) (v := ?_) rfl (by kernel_rfl) (by kernel_rfl) (by kernel_rfl) (by kernel_rfl) (fun _ _ _ h => h) (Gives.load (by rfl) ?_) hHeld ?_
    rotate_left
    · intro w hSw
      (try dsimp only at hSw)
      go_simp
      try with_reducible rfl
    try simp only [Act.put, List.getElem_toArray, List.getElem_cons_succ, List.getElem_cons_zero, List.setIfInBounds_toArray, List.set_cons_zero, List.set_cons_succ]
    refine wpLate_ready (rs := [19]) (by kernel_rfl) (by simp) ?_
    refine AllLate.cons (o := _) rfl (fun K hK => ?_) (by exact AllLate.nil)
    go_simp
    refine (satext_any ⟨9, id, LP, cs⟩ _ _ HAB.out (HVd.out.old GG.out (by simp))).mono ?_
    rintro _ x19 ⟨rfl, f⟩
    go_wp2_with fail
    have GN := Lib.hid (GG.out.trans f (by simp))
    clear f GG
    have GG := GN
    clear GN
    refine hK.out _ _ (fun _ => ⟨(blk3_facts (GG.out.blk HS.out (by simp))).1, (blk3_facts (GG.out.blk HX.out (by simp))).1, (blk4_facts (GG.out.blk HY.out (by simp))).1⟩) (fun hHeld => ?_)
    replace hHeld := hHeld (by kernel_rfl)
    clear hK K
    try simp only [Act.put, List.getElem_toArray, List.getElem_cons_succ, List.getElem_cons_zero, List.setIfInBounds_toArray, List.set_cons_zero, List.set_cons_succ]
    refine wpLate_ready (rs := [21]) (by kernel_rfl) (by simp) ?_
    refine AllLate.cons (o := _) rfl (fun K hK => ?_) (by exact AllLate.nil)
    go_simp
    refine (acks8_any ⟨9, id, LP, cs⟩ _ _ (HVd.out.old GG.out (by simp)) (by show LP.length ≤ _; omega)).mono ?_
    rintro _ x21 ⟨v21, rfl, V21, f⟩
    go_wp2_with fail
    have GN := Lib.hid (GG.out.trans f (by simp))
    clear f GG
    have GG := GN
    clear GN
    refine hK.out _ _ (fun _ => ⟨(blk3_facts (GG.out.blk HS.out (by simp))).1, (blk3_facts (GG.out.blk HX.out (by simp))).1, (blk4_facts (GG.out.blk HY.out (by simp))).1⟩) (fun hHeld => ?_)
    replace hHeld := hHeld (by kernel_rfl)
    clear hK K
    try simp only [Act.put, List.getElem_toArray, List.getElem_cons_succ, List.getElem_cons_zero, List.setIfInBounds_toArray, List.set_cons_zero, List.set_cons_succ]
    refine wpLate_ready (rs := [22]) (by kernel_rfl) (by simp) ?_
    refine AllLate.cons (o := _) rfl (fun K hK => ?_) (by exact AllLate.nil)
    go_simp
    refine (rsatext_any ⟨9, id, LP, cs⟩ _ _ HAB.out V21).mono ?_
    rintro _ x22 ⟨rfl, f⟩
    clear V21
    go_wp2_with fail
    have GN := Lib.hid (GG.out.trans f (by simp))
    clear f GG
    have GG := GN
    clear GN
    refine hK.out _ _ (fun _ => ⟨(blk3_facts (GG.out.blk HS.out (by simp))).1, (blk3_facts (GG.out.blk HX.out (by simp))).1, (blk4_facts (GG.out.blk HY.out (by simp))).1⟩) (fun hHeld => ?_)
    replace hHeld := hHeld (by kernel_rfl)
    clear hK K
    try simp only [Act.put, List.getElem_toArray, List.getElem_cons_succ, List.getElem_cons_zero, List.setIfInBounds_toArray, List.set_cons_zero, List.set_cons_succ]
    refine wpLate_pure (i := 23) (oi := _) (v := ?_) rfl (by kernel_rfl) (by kernel_rfl) (by kernel_rfl) (by kernel_rfl) (fun _ _ _ h => h) (Gives.load (by rfl) ?_) (fun _ => hHeld) ?_
    rotate_left
    · intro w hSw
      clear hSw
      go_simp
      try with_reducible rfl
    try simp only [Act.put, List.getElem_toArray, List.getElem_cons_succ, List.getElem_cons_zero, List.setIfInBounds_toArray, List.set_cons_zero, List.set_cons_succ]
    refine wpLate_pure (i := 24) (oi := _) (v := ?_) rfl (by kernel_rfl) (by kernel_rfl) (by kernel_rfl) (by kernel_rfl) (fun _ _ _ h => h) (Gives.load (by rfl) ?_) (fun _ => hHeld) ?_
    rotate_left
    · intro w hSw
      clear hSw
      go_simp
      try with_reducible rfl
    try simp only [Act.put, List.getElem_toArray, List.getElem_cons_succ, List.getElem_cons_zero, List.setIfInBounds_toArray, List.set_cons_zero, List.set_cons_succ]
    refine wpLate_pure (i := 25) (oi := _) (v := ?_) rfl (by kernel_rfl) (by kernel_rfl) (by kernel_rfl) (by kernel_rfl) (fun _ _ _ h => h) (Gives.load (by rfl) ?_) (fun _ => hHeld) ?_
    rotate_left
    · intro w hSw
      clear hSw
      go_simp
      try with_reducible rfl
    try simp only [Act.put, List.getElem_toArray, List.getElem_cons_succ, List.getElem_cons_zero, List.setIfInBounds_toArray, List.set_cons_zero, List.set_cons_succ]
    refine wpLate_done (by kernel_rfl) ?_ _
    clear hHeld
    go_wp2
    go_ret
    exact ⟨rfl, FZ.out.trans GG.out (by simp)⟩
end Go.Proofs.Ythioageiebchlaa
