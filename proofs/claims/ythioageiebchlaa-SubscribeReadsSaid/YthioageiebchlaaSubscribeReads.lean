/- The walk of the law SubscribeReads. -/
import Derived.Test.YthioageiebchlaaSuP
import Derived.Test.YthioageiebchlaaSuI
import Derived.Test.YthioageiebchlaaSuJ
import Derived.Test.YthioageiebchlaaSuK
import Derived.Test.YthioageiebchlaaLawA
import Derived.Test.YthioageiebchlaaLaw
namespace Go.Proofs.Ythioageiebchlaa
open Go.RowKit
set_option linter.unusedVariables false
set_option linter.unusedSimpArgs false

set_option maxRecDepth 100000 in
set_option maxHeartbeats 8000000 in
theorem subscribeReads_walk (a0 : Int) (a1 : ByteArray) (w0 : (Lit.int .i64 a0).wf = true) (w1 : a1.size ≤ maxLen) (w : World) :
    Calls Try.prog 7 #[.int .i64 a0, .string a1] w fun e w' => e = .returned (.bool true) ∧ Fr [] w w' := by
  obtain ⟨s, rfl, hs⟩ := str_list a1
  rw [← hs] at w1
  unfold maxLen at w1
  clear hs w0
  go_enter Try.func7, Try.ntmps7
  go_wp2_with fail
  refine (cut_any s 200 w (by omega) (by decide)).mono ?_
  rintro _ _ ⟨rfl, rfl⟩
  have hk : (s.take 200).length ≤ 200 := List.length_take_le _ _
  rw [show (200 : Int).toNat = 200 from rfl]
  generalize s.take 200 = s at *
  have HS1 := Lib.hid (suParse_b s (by omega))
  have HS2 := Lib.hid (unParse_b s (by omega))
  have HS3 := Lib.hid (saParse_b a0 s (by omega))
  obtain ⟨⟨⟨i1, l1, f1⟩, E1⟩, hP1⟩ : ∃ x, suParse s = x := ⟨_, rfl⟩
  obtain ⟨⟨⟨i2, l2, f2⟩, E2⟩, hP2⟩ : ∃ x, unParse s = x := ⟨_, rfl⟩
  obtain ⟨⟨⟨k3, i3, l3, b3⟩, E3⟩, hP3⟩ : ∃ x, saParse a0 s = x := ⟨_, rfl⟩
  rw [hP1] at HS1
  rw [hP2] at HS2
  rw [hP3] at HS3
  have P1 := Lib.hid hP1
  have P2 := Lib.hid hP2
  have P3 := Lib.hid hP3
  clear hP1 hP2 hP3
  have hp1 := HS1.out.l
  have hp2 := HS2.out.l
  have hp3 := HS3.out.l
  have hq1 := HS1.out.sl
  have hq2 := HS2.out.sl
  dsimp only at hp1 hp2 hp3 hq1 hq2
  go_wp2_with fail
  refine (suparse_any s _ (by omega)).mono ?_
  rw [P1.out]
  rintro _ y1 ⟨v1, u1, rfl, hv, hu, g⟩
  obtain ⟨A1, c1, rfl⟩ := view_shp hv
  obtain ⟨D1, d1, rfl⟩ := view_shp hu
  dsimp only at hv hu
  unfold suC
  dsimp only
  have GA := (Fr.refl [] y1).alloc (.cells #[.int .u32 (i1 : Int), .slice A1 l1.length c1, .slice D1 f1.length d1] 27)
  have HB1 := Lib.hid (blk_new y1 (.cells #[.int .u32 (i1 : Int), .slice A1 l1.length c1, .slice D1 f1.length d1] 27))
  have HV1 := Lib.hid (hv.old GA (by simp))
  have HU1 := Lib.hid (hu.old GA (by simp))
  have GG1 := Lib.hid (g.trans GA (by simp))
  clear GA hv hu g
  go_upto_region 3 with (fail)
  obtain ⟨X1, hX⟩ : ∃ X, y1.heap.size = X := ⟨_, rfl⟩
  obtain ⟨z1, hz⟩ : ∃ z, y1.alloc (.cells #[.int .u32 (i1 : Int), .slice A1 l1.length c1, .slice D1 f1.length d1] 27) = z := ⟨_, rfl⟩
  rw [hX] at HB1 ⊢
  rw [hz] at HB1 HV1 HU1 GG1 ⊢
  clear hX hz
  go_wp2_with fail
  refine (rsuparse_any s _ (by omega)).mono ?_
  rw [P1.out]
  rintro _ y2 ⟨v2, u2, rfl, hv, hu, g⟩
  obtain ⟨A2, c2, rfl⟩ := view_shp hv
  obtain ⟨D2, d2, rfl⟩ := view_shp hu
  dsimp only at hv hu
  unfold suC
  dsimp only
  have GA := (Fr.refl [] y2).alloc (.cells #[.int .u32 (i1 : Int), .slice A2 l1.length c2, .slice D2 f1.length d2] 51)
  have HB2 := Lib.hid (blk_new y2 (.cells #[.int .u32 (i1 : Int), .slice A2 l1.length c2, .slice D2 f1.length d2] 51))
  have HV2 := Lib.hid (hv.old GA (by simp))
  have HU2 := Lib.hid (hu.old GA (by simp))
  have GG2 := Lib.hid (g.trans GA (by simp))
  clear GA hv hu g
  go_upto_region 4 with (fail)
  obtain ⟨X2, hX⟩ : ∃ X, y2.heap.size = X := ⟨_, rfl⟩
  obtain ⟨z2, hz⟩ : ∃ z, y2.alloc (.cells #[.int .u32 (i1 : Int), .slice A2 l1.length c2, .slice D2 f1.length d2] 51) = z := ⟨_, rfl⟩
  rw [hX] at HB2 ⊢
  rw [hz] at HB2 HV2 HU2 GG2 ⊢
  clear hX hz
  go_wp2_with fail
  refine (unparse_any s _ (by omega)).mono ?_
  rw [P2.out]
  rintro _ y3 ⟨v3, u3, rfl, hv, hu, g⟩
  obtain ⟨A3, c3, rfl⟩ := view_shp hv
  obtain ⟨D3, d3, rfl⟩ := view_shp hu
  dsimp only at hv hu
  unfold unC
  dsimp only
  have GA := (Fr.refl [] y3).alloc (.cells #[.int .u32 (i2 : Int), .slice A3 l2.length c3, .slice D3 f2.length d3] 43)
  have HB3 := Lib.hid (blk_new y3 (.cells #[.int .u32 (i2 : Int), .slice A3 l2.length c3, .slice D3 f2.length d3] 43))
  have HV3 := Lib.hid (hv.old GA (by simp))
  have HU3 := Lib.hid (hu.old GA (by simp))
  have GG3 := Lib.hid (g.trans GA (by simp))
  clear GA hv hu g
  go_upto_region 5 with (fail)
  obtain ⟨X3, hX⟩ : ∃ X, y3.heap.size = X := ⟨_, rfl⟩
  obtain ⟨z3, hz⟩ : ∃ z, y3.alloc (.cells #[.int .u32 (i2 : Int), .slice A3 l2.length c3, .slice D3 f2.length d3] 43) = z := ⟨_, rfl⟩
  rw [hX] at HB3 ⊢
  rw [hz] at HB3 HV3 HU3 GG3 ⊢
  clear hX hz
  go_wp2_with fail
  refine (runparse_any s _ (by omega)).mono ?_
  rw [P2.out]
  rintro _ y4 ⟨v4, u4, rfl, hv, hu, g⟩
  obtain ⟨A4, c4, rfl⟩ := view_shp hv
  obtain ⟨D4, d4, rfl⟩ := view_shp hu
  dsimp only at hv hu
  unfold unC
  dsimp only
  have GA := (Fr.refl [] y4).alloc (.cells #[.int .u32 (i2 : Int), .slice A4 l2.length c4, .slice D4 f2.length d4] 55)
  have HB4 := Lib.hid (blk_new y4 (.cells #[.int .u32 (i2 : Int), .slice A4 l2.length c4, .slice D4 f2.length d4] 55))
  have HV4 := Lib.hid (hv.old GA (by simp))
  have HU4 := Lib.hid (hu.old GA (by simp))
  have GG4 := Lib.hid (g.trans GA (by simp))
  clear GA hv hu g
  go_upto_region 6 with (fail)
  obtain ⟨X4, hX⟩ : ∃ X, y4.heap.size = X := ⟨_, rfl⟩
  obtain ⟨z4, hz⟩ : ∃ z, y4.alloc (.cells #[.int .u32 (i2 : Int), .slice A4 l2.length c4, .slice D4 f2.length d4] 55) = z := ⟨_, rfl⟩
  rw [hX] at HB4 ⊢
  rw [hz] at HB4 HV4 HU4 GG4 ⊢
  clear hX hz
  go_wp2_with fail
  refine (saparse_any a0 s _ (by omega)).mono ?_
  rw [P3.out]
  rintro _ y5 ⟨v5, rfl, hv, g⟩
  obtain ⟨A5, c5, rfl⟩ := view_shp hv
  dsimp only at hv
  unfold saC
  dsimp only
  have GA := (Fr.refl [] y5).alloc (.cells #[.int .i64 k3, .int .u32 (i3 : Int), .slice A5 l3.length c5, .string ⟨b3.toArray⟩] 45)
  have HB5 := Lib.hid (blk_new y5 (.cells #[.int .i64 k3, .int .u32 (i3 : Int), .slice A5 l3.length c5, .string ⟨b3.toArray⟩] 45))
  have HV5 := Lib.hid (hv.old GA (by simp))
  have GG5 := Lib.hid (g.trans GA (by simp))
  clear GA hv g
  go_upto_region 7 with (fail)
  obtain ⟨X5, hX⟩ : ∃ X, y5.heap.size = X := ⟨_, rfl⟩
  obtain ⟨z5, hz⟩ : ∃ z, y5.alloc (.cells #[.int .i64 k3, .int .u32 (i3 : Int), .slice A5 l3.length c5, .string ⟨b3.toArray⟩] 45) = z := ⟨_, rfl⟩
  rw [hX] at HB5 ⊢
  rw [hz] at HB5 HV5 GG5 ⊢
  clear hX hz
  go_wp2_with fail
  refine (rsaparse_any a0 s _ (by omega)).mono ?_
  rw [P3.out]
  rintro _ y6 ⟨v6, rfl, hv, g⟩
  obtain ⟨A6, c6, rfl⟩ := view_shp hv
  dsimp only at hv
  unfold saC
  dsimp only
  have GA := (Fr.refl [] y6).alloc (.cells #[.int .i64 k3, .int .u32 (i3 : Int), .slice A6 l3.length c6, .string ⟨b3.toArray⟩] 59)
  have HB6 := Lib.hid (blk_new y6 (.cells #[.int .i64 k3, .int .u32 (i3 : Int), .slice A6 l3.length c6, .string ⟨b3.toArray⟩] 59))
  have HV6 := Lib.hid (hv.old GA (by simp))
  have GG6 := Lib.hid (g.trans GA (by simp))
  clear GA hv g
  go_upto_region 8 with (fail)
  obtain ⟨X6, hX⟩ : ∃ X, y6.heap.size = X := ⟨_, rfl⟩
  obtain ⟨z6, hz⟩ : ∃ z, y6.alloc (.cells #[.int .i64 k3, .int .u32 (i3 : Int), .slice A6 l3.length c6, .string ⟨b3.toArray⟩] 59) = z := ⟨_, rfl⟩
  rw [hX] at HB6 ⊢
  rw [hz] at HB6 HV6 GG6 ⊢
  clear hX hz
  have fd := (Fr.refl [] z6).drew
  have Q6 := fd
  have Q5 := GG6.out.trans Q6 (by simp)
  have Q4 := GG5.out.trans Q5 (by simp)
  have Q3 := GG4.out.trans Q4 (by simp)
  have Q2 := GG3.out.trans Q3 (by simp)
  have Q1 := GG2.out.trans Q2 (by simp)
  have H1 := Lib.hid (Q1.blk HB1.out (by simp))
  have H2 := Lib.hid (Q2.blk HB2.out (by simp))
  have H3 := Lib.hid (Q3.blk HB3.out (by simp))
  have H4 := Lib.hid (Q4.blk HB4.out (by simp))
  have H5 := Lib.hid (Q5.blk HB5.out (by simp))
  have H6 := Lib.hid (Q6.blk HB6.out (by simp))
  have V1 := Lib.hid (HV1.out.old Q1 (by simp))
  have V2 := Lib.hid (HV2.out.old Q2 (by simp))
  have V3 := Lib.hid (HV3.out.old Q3 (by simp))
  have V4 := Lib.hid (HV4.out.old Q4 (by simp))
  have V5 := Lib.hid (HV5.out.old Q5 (by simp))
  have V6 := Lib.hid (HV6.out.old Q6 (by simp))
  have U1 := Lib.hid (HU1.out.old Q1 (by simp))
  have U2 := Lib.hid (HU2.out.old Q2 (by simp))
  have U3 := Lib.hid (HU3.out.old Q3 (by simp))
  have U4 := Lib.hid (HU4.out.old Q4 (by simp))
  have FZ := Lib.hid (GG1.out.trans Q1 (by simp))
  clear Q1 Q2 Q3 Q4 Q5 Q6 fd HV1 HV2 HV3 HV4 HV5 HV6 HU1 HU2 HU3 HU4 GG1 GG2 GG3 GG4 GG5 GG6
  have hS : (fun w' => (w'.cell? ⟨X1, 0, none⟩ = some (.int .u32 (i1 : Int)) ∧ w'.cell? ⟨X1, 1, none⟩ = some (.slice A1 l1.length c1) ∧ w'.cell? ⟨X1, 2, none⟩ = some (.slice D1 f1.length d1)) ∧ (w'.cell? ⟨X2, 0, none⟩ = some (.int .u32 (i1 : Int)) ∧ w'.cell? ⟨X2, 1, none⟩ = some (.slice A2 l1.length c2) ∧ w'.cell? ⟨X2, 2, none⟩ = some (.slice D2 f1.length d2)) ∧ (w'.cell? ⟨X3, 0, none⟩ = some (.int .u32 (i2 : Int)) ∧ w'.cell? ⟨X3, 1, none⟩ = some (.slice A3 l2.length c3) ∧ w'.cell? ⟨X3, 2, none⟩ = some (.slice D3 f2.length d3)) ∧ (w'.cell? ⟨X4, 0, none⟩ = some (.int .u32 (i2 : Int)) ∧ w'.cell? ⟨X4, 1, none⟩ = some (.slice A4 l2.length c4) ∧ w'.cell? ⟨X4, 2, none⟩ = some (.slice D4 f2.length d4)) ∧ (w'.cell? ⟨X5, 0, none⟩ = some (.int .i64 k3) ∧ w'.cell? ⟨X5, 1, none⟩ = some (.int .u32 (i3 : Int)) ∧ w'.cell? ⟨X5, 2, none⟩ = some (.slice A5 l3.length c5) ∧ w'.cell? ⟨X5, 3, none⟩ = some (.string ⟨b3.toArray⟩)) ∧ (w'.cell? ⟨X6, 0, none⟩ = some (.int .i64 k3) ∧ w'.cell? ⟨X6, 1, none⟩ = some (.int .u32 (i3 : Int)) ∧ w'.cell? ⟨X6, 2, none⟩ = some (.slice A6 l3.length c6) ∧ w'.cell? ⟨X6, 3, none⟩ = some (.string ⟨b3.toArray⟩))) z6.drew := ⟨(blk3_facts H1.out).1, (blk3_facts H2.out).1, (blk3_facts H3.out).1, (blk3_facts H4.out).1, (blk4_facts H5.out).1, (blk4_facts H6.out).1⟩
  refine wp_region_late [] (S := (fun w' => (w'.cell? ⟨X1, 0, none⟩ = some (.int .u32 (i1 : Int)) ∧ w'.cell? ⟨X1, 1, none⟩ = some (.slice A1 l1.length c1) ∧ w'.cell? ⟨X1, 2, none⟩ = some (.slice D1 f1.length d1)) ∧ (w'.cell? ⟨X2, 0, none⟩ = some (.int .u32 (i1 : Int)) ∧ w'.cell? ⟨X2, 1, none⟩ = some (.slice A2 l1.length c2) ∧ w'.cell? ⟨X2, 2, none⟩ = some (.slice D2 f1.length d2)) ∧ (w'.cell? ⟨X3, 0, none⟩ = some (.int .u32 (i2 : Int)) ∧ w'.cell? ⟨X3, 1, none⟩ = some (.slice A3 l2.length c3) ∧ w'.cell? ⟨X3, 2, none⟩ = some (.slice D3 f2.length d3)) ∧ (w'.cell? ⟨X4, 0, none⟩ = some (.int .u32 (i2 : Int)) ∧ w'.cell? ⟨X4, 1, none⟩ = some (.slice A4 l2.length c4) ∧ w'.cell? ⟨X4, 2, none⟩ = some (.slice D4 f2.length d4)) ∧ (w'.cell? ⟨X5, 0, none⟩ = some (.int .i64 k3) ∧ w'.cell? ⟨X5, 1, none⟩ = some (.int .u32 (i3 : Int)) ∧ w'.cell? ⟨X5, 2, none⟩ = some (.slice A5 l3.length c5) ∧ w'.cell? ⟨X5, 3, none⟩ = some (.string ⟨b3.toArray⟩)) ∧ (w'.cell? ⟨X6, 0, none⟩ = some (.int .i64 k3) ∧ w'.cell? ⟨X6, 1, none⟩ = some (.int .u32 (i3 : Int)) ∧ w'.cell? ⟨X6, 2, none⟩ = some (.slice A6 l3.length c6) ∧ w'.cell? ⟨X6, 3, none⟩ = some (.string ⟨b3.toArray⟩)))) (by kernel_rfl) hS (fun hHeld => ?_)
  obtain ⟨wd, hwd⟩ : ∃ wd, z6.drew = wd := ⟨_, rfl⟩
  rw [hwd] at hHeld H1 H2 H3 H4 H5 H6 V1 V2 V3 V4 V5 V6 U1 U2 U3 U4 FZ ⊢
  have GG := Lib.hid (Fr.refl [] wd)
  clear hwd hS HB1 HB2 HB3 HB4 HB5 HB6
  refine wpLate_ready (rs := [0]) (by kernel_rfl) (by simp) ?_
  refine AllLate.cons (o := _) rfl (fun K hK => ?_) (by exact AllLate.nil)
  go_simp
  refine (awake8_any _).mono ?_
  rintro _ x0 ⟨rfl, f⟩
  go_wp2_with fail
  have GN := Lib.hid (GG.out.trans f (by simp))
  clear f GG
  have GG := GN
  clear GN
  refine hK.out _ _ (fun _ => ⟨(blk3_facts (GG.out.blk H1.out (by simp))).1, (blk3_facts (GG.out.blk H2.out (by simp))).1, (blk3_facts (GG.out.blk H3.out (by simp))).1, (blk3_facts (GG.out.blk H4.out (by simp))).1, (blk4_facts (GG.out.blk H5.out (by simp))).1, (blk4_facts (GG.out.blk H6.out (by simp))).1⟩) (fun hHeld => ?_)
  replace hHeld := hHeld (by kernel_rfl)
  clear hK K
  try simp only [Act.put, List.getElem_toArray, List.getElem_cons_succ, List.getElem_cons_zero, List.setIfInBounds_toArray, List.set_cons_zero, List.set_cons_succ]
  refine wpLate_take (i := 1) (oi := _) (v := ?_) rfl (by kernel_rfl) (by kernel_rfl) (by kernel_rfl) (by kernel_rfl) (fun _ _ _ h => h) (Gives.load (by rfl) ?_) hHeld ?_
  rotate_left
  · intro w hSw
    (try dsimp only at hSw)
    go_simp
    try with_reducible rfl
  try simp only [Act.put, List.getElem_toArray, List.getElem_cons_succ, List.getElem_cons_zero, List.setIfInBounds_toArray, List.set_cons_zero, List.set_cons_succ]
  refine wpLate_take (i := 2) (oi := _) (v := ?_) rfl (by kernel_rfl) (by kernel_rfl) (by kernel_rfl) (by kernel_rfl) (fun _ _ _ h => h) (Gives.load (by rfl) ?_) hHeld ?_
  rotate_left
  · intro w hSw
    (try dsimp only at hSw)
    go_simp
    try with_reducible rfl
  try simp only [Act.put, List.getElem_toArray, List.getElem_cons_succ, List.getElem_cons_zero, List.setIfInBounds_toArray, List.set_cons_zero, List.set_cons_succ]
  refine wpLate_take (i := 3) (oi := _) (v := ?_) rfl (by kernel_rfl) (by kernel_rfl) (by kernel_rfl) (by kernel_rfl) (fun _ _ _ h => h) (Gives.load (by rfl) ?_) hHeld ?_
  rotate_left
  · intro w hSw
    (try dsimp only at hSw)
    go_simp
    try with_reducible rfl
  try simp only [Act.put, List.getElem_toArray, List.getElem_cons_succ, List.getElem_cons_zero, List.setIfInBounds_toArray, List.set_cons_zero, List.set_cons_succ]
  refine wpLate_take (i := 4) (oi := _) (v := ?_) rfl (by kernel_rfl) (by kernel_rfl) (by kernel_rfl) (by kernel_rfl) (fun _ _ _ h => h) (Gives.load (by rfl) ?_) hHeld ?_
  rotate_left
  · intro w hSw
    (try dsimp only at hSw)
    go_simp
    try with_reducible rfl
  try simp only [Act.put, List.getElem_toArray, List.getElem_cons_succ, List.getElem_cons_zero, List.setIfInBounds_toArray, List.set_cons_zero, List.set_cons_succ]
  refine wpLate_take (i := 5) (oi := _) (v := ?_) rfl (by kernel_rfl) (by kernel_rfl) (by kernel_rfl) (by kernel_rfl) (fun _ _ _ h => h) (Gives.load (by rfl) ?_) hHeld ?_
  rotate_left
  · intro w hSw
    (try dsimp only at hSw)
    go_simp
    try with_reducible rfl
  try simp only [Act.put, List.getElem_toArray, List.getElem_cons_succ, List.getElem_cons_zero, List.setIfInBounds_toArray, List.set_cons_zero, List.set_cons_succ]
  refine wpLate_take (i := 6) (oi := _) (v := ?_) rfl (by kernel_rfl) (by kernel_rfl) (by kernel_rfl) (by kernel_rfl) (fun _ _ _ h => h) (Gives.load (by rfl) ?_) hHeld ?_
  rotate_left
  · intro w hSw
    (try dsimp only at hSw)
    go_simp
    try with_reducible rfl
  try simp only [Act.put, List.getElem_toArray, List.getElem_cons_succ, List.getElem_cons_zero, List.setIfInBounds_toArray, List.set_cons_zero, List.set_cons_succ]
  refine wpLate_take (i := 7) (oi := _) (v := ?_) rfl (by kernel_rfl) (by kernel_rfl) (by kernel_rfl) (by kernel_rfl) (fun _ _ _ h => h) (Gives.load (by rfl) ?_) hHeld ?_
  rotate_left
  · intro w hSw
    (try dsimp only at hSw)
    go_simp
    try with_reducible rfl
  try simp only [Act.put, List.getElem_toArray, List.getElem_cons_succ, List.getElem_cons_zero, List.setIfInBounds_toArray, List.set_cons_zero, List.set_cons_succ]
  refine wpLate_take (i := 9) (oi := _) (v := ?_) rfl (by kernel_rfl) (by kernel_rfl) (by kernel_rfl) (by kernel_rfl) (fun _ _ _ h => h) (Gives.load (by rfl) ?_) hHeld ?_
  rotate_left
  · intro w hSw
    (try dsimp only at hSw)
    go_simp
    try with_reducible rfl
  try simp only [Act.put, List.getElem_toArray, List.getElem_cons_succ, List.getElem_cons_zero, List.setIfInBounds_toArray, List.set_cons_zero, List.set_cons_succ]
  refine wpLate_ready (rs := [8]) (by kernel_rfl) (by simp) ?_
  refine AllLate.cons (o := _) rfl (fun K hK => ?_) (by exact AllLate.nil)
  go_simp
  refine (told8_any ⟨i1, l1, f1⟩ _ _ _ (V1.out.old GG.out (by simp)) (U1.out.old GG.out (by simp)) (by show l1.length ≤ _; omega) (by show f1.length ≤ _; omega)).mono ?_
  rintro _ x8 ⟨v8, u8, rfl, V8, U8, f⟩
  go_wp2_with fail
  have GN := Lib.hid (GG.out.trans f (by simp))
  clear f GG
  have GG := GN
  clear GN
  refine hK.out _ _ (fun _ => ⟨(blk3_facts (GG.out.blk H1.out (by simp))).1, (blk3_facts (GG.out.blk H2.out (by simp))).1, (blk3_facts (GG.out.blk H3.out (by simp))).1, (blk3_facts (GG.out.blk H4.out (by simp))).1, (blk4_facts (GG.out.blk H5.out (by simp))).1, (blk4_facts (GG.out.blk H6.out (by simp))).1⟩) (fun hHeld => ?_)
  replace hHeld := hHeld (by kernel_rfl)
  clear hK K
  try simp only [Act.put, List.getElem_toArray, List.getElem_cons_succ, List.getElem_cons_zero, List.setIfInBounds_toArray, List.set_cons_zero, List.set_cons_succ]
  refine wpLate_ready (rs := [10]) (by kernel_rfl) (by simp) ?_
  refine AllLate.cons (o := _) rfl (fun K hK => ?_) (by exact AllLate.nil)
  go_simp
  refine (rsamesu_any ⟨i1, l1, f1⟩ _ _ _ _ _ V8 U8 (V2.out.old GG.out (by simp)) (U2.out.old GG.out (by simp)) (by show l1.length ≤ _; omega) (by show f1.length ≤ _; omega)).mono ?_
  rintro _ x10 ⟨rfl, f⟩
  clear V8 U8
  go_wp2_with fail
  have GN := Lib.hid (GG.out.trans f (by simp))
  clear f GG
  have GG := GN
  clear GN
  refine hK.out _ _ (fun _ => ⟨(blk3_facts (GG.out.blk H1.out (by simp))).1, (blk3_facts (GG.out.blk H2.out (by simp))).1, (blk3_facts (GG.out.blk H3.out (by simp))).1, (blk3_facts (GG.out.blk H4.out (by simp))).1, (blk4_facts (GG.out.blk H5.out (by simp))).1, (blk4_facts (GG.out.blk H6.out (by simp))).1⟩) (fun hHeld => ?_)
  replace hHeld := hHeld (by kernel_rfl)
  clear hK K
  try simp only [Act.put, List.getElem_toArray, List.getElem_cons_succ, List.getElem_cons_zero, List.setIfInBounds_toArray, List.set_cons_zero, List.set_cons_succ]
  refine wpLate_take (i := 11) (oi := _) (v := ?_) rfl (by kernel_rfl) (by kernel_rfl) (by kernel_rfl) (by kernel_rfl) (fun _ _ _ h => h) (Gives.load (by rfl) ?_) hHeld ?_
  rotate_left
  · intro w hSw
    (try dsimp only at hSw)
    go_simp
    try with_reducible rfl
  try simp only [Act.put, List.getElem_toArray, List.getElem_cons_succ, List.getElem_cons_zero, List.setIfInBounds_toArray, List.set_cons_zero, List.set_cons_succ]
  refine wpLate_take (i := 12) (oi := _) (v := ?_) rfl (by kernel_rfl) (by kernel_rfl) (by kernel_rfl) (by kernel_rfl) (fun _ _ _ h => h) (Gives.load (by rfl) ?_) hHeld ?_
  rotate_left
  · intro w hSw
    (try dsimp only at hSw)
    go_simp
    try with_reducible rfl
  try simp only [Act.put, List.getElem_toArray, List.getElem_cons_succ, List.getElem_cons_zero, List.setIfInBounds_toArray, List.set_cons_zero, List.set_cons_succ]
  refine wpLate_take (i := 13) (oi := _) (v := ?_) rfl (by kernel_rfl) (by kernel_rfl) (by kernel_rfl) (by kernel_rfl) (fun _ _ _ h => h) (Gives.load (by rfl) ?_) hHeld ?_
  rotate_left
  · intro w hSw
    (try dsimp only at hSw)
    go_simp
    try with_reducible rfl
  try simp only [Act.put, List.getElem_toArray, List.getElem_cons_succ, List.getElem_cons_zero, List.setIfInBounds_toArray, List.set_cons_zero, List.set_cons_succ]
  refine wpLate_take (i := 14) (oi := _) (v := ?_) rfl (by kernel_rfl) (by kernel_rfl) (by kernel_rfl) (by kernel_rfl) (fun _ _ _ h => h) (Gives.load (by rfl) ?_) hHeld ?_
  rotate_left
  · intro w hSw
    (try dsimp only at hSw)
    go_simp
    try with_reducible rfl
  try simp only [Act.put, List.getElem_toArray, List.getElem_cons_succ, List.getElem_cons_zero, List.setIfInBounds_toArray, List.set_cons_zero, List.set_cons_succ]
  refine wpLate_take (i := 15) (oi := _) (v := ?_) rfl (by kernel_rfl) (by kernel_rfl) (by kernel_rfl) (by kernel_rfl) (fun _ _ _ h => h) (Gives.load (by rfl) ?_) hHeld ?_
  rotate_left
  · intro w hSw
    (try dsimp only at hSw)
    go_simp
    try with_reducible rfl
  try simp only [Act.put, List.getElem_toArray, List.getElem_cons_succ, List.getElem_cons_zero, List.setIfInBounds_toArray, List.set_cons_zero, List.set_cons_succ]
  refine wpLate_take (i := 16) (oi := _) (v := ?_) rfl (by kernel_rfl) (by kernel_rfl) (by kernel_rfl) (by kernel_rfl) (fun _ _ _ h => h) (Gives.load (by rfl) ?_) hHeld ?_
  rotate_left
  · intro w hSw
    (try dsimp only at hSw)
    go_simp
    try with_reducible rfl
  try simp only [Act.put, List.getElem_toArray, List.getElem_cons_succ, List.getElem_cons_zero, List.setIfInBounds_toArray, List.set_cons_zero, List.set_cons_succ]
  refine wpLate_take (i := 17) (oi := _) (v := ?_) rfl (by kernel_rfl) (by kernel_rfl) (by kernel_rfl) (by kernel_rfl) (fun _ _ _ h => h) (Gives.load (by rfl) ?_) hHeld ?_
  rotate_left
  · intro w hSw
    (try dsimp only at hSw)
    go_simp
    try with_reducible rfl
  try simp only [Act.put, List.getElem_toArray, List.getElem_cons_succ, List.getElem_cons_zero, List.setIfInBounds_toArray, List.set_cons_zero, List.set_cons_succ]
  refine wpLate_take (i := 18) (oi := _) (v := ?_) rfl (by kernel_rfl) (by kernel_rfl) (by kernel_rfl) (by kernel_rfl) (fun _ _ _ h => h) (Gives.load (by rfl) ?_) hHeld ?_
  rotate_left
  · intro w hSw
    (try dsimp only at hSw)
    go_simp
    try with_reducible rfl
  try simp only [Act.put, List.getElem_toArray, List.getElem_cons_succ, List.getElem_cons_zero, List.setIfInBounds_toArray, List.set_cons_zero, List.set_cons_succ]
  refine wpLate_take (i := 20) (oi := _) (v := ?_) rfl (by kernel_rfl) (by kernel_rfl) (by kernel_rfl) (by kernel_rfl) (fun _ _ _ h => h) (Gives.load (by rfl) ?_) hHeld ?_
  rotate_left
  · intro w hSw
    (try dsimp only at hSw)
    go_simp
    try with_reducible rfl
  try simp only [Act.put, List.getElem_toArray, List.getElem_cons_succ, List.getElem_cons_zero, List.setIfInBounds_toArray, List.set_cons_zero, List.set_cons_succ]
  refine wpLate_ready (rs := [19]) (by kernel_rfl) (by simp) ?_
  refine AllLate.cons (o := _) rfl (fun K hK => ?_) (by exact AllLate.nil)
  go_simp
  refine (uns8_any ⟨i2, l2, f2⟩ _ (.slice D3 f2.length d3) _ (V3.out.old GG.out (by simp)) (by show l2.length ≤ _; omega) ⟨_, _, _, rfl⟩).mono ?_
  rintro _ x19 ⟨v9, rfl, V9, f⟩
  go_wp2_with fail
  have GN := Lib.hid (GG.out.trans f (by simp))
  clear f GG
  have GG := GN
  clear GN
  refine hK.out _ _ (fun _ => ⟨(blk3_facts (GG.out.blk H1.out (by simp))).1, (blk3_facts (GG.out.blk H2.out (by simp))).1, (blk3_facts (GG.out.blk H3.out (by simp))).1, (blk3_facts (GG.out.blk H4.out (by simp))).1, (blk4_facts (GG.out.blk H5.out (by simp))).1, (blk4_facts (GG.out.blk H6.out (by simp))).1⟩) (fun hHeld => ?_)
  replace hHeld := hHeld (by kernel_rfl)
  clear hK K
  try simp only [Act.put, List.getElem_toArray, List.getElem_cons_succ, List.getElem_cons_zero, List.setIfInBounds_toArray, List.set_cons_zero, List.set_cons_succ]
  refine wpLate_ready (rs := [21]) (by kernel_rfl) (by simp) ?_
  refine AllLate.cons (o := _) rfl (fun K hK => ?_) (by exact AllLate.nil)
  go_simp
  refine (rsameun_any ⟨i2, l2, f2⟩ _ _ _ _ _ V9 (U3.out.old GG.out (by simp)) (V4.out.old GG.out (by simp)) (U4.out.old GG.out (by simp)) (by show l2.length ≤ _; omega) (by show f2.length ≤ _; omega)).mono ?_
  rintro _ x21 ⟨rfl, f⟩
  clear V9
  go_wp2_with fail
  have GN := Lib.hid (GG.out.trans f (by simp))
  clear f GG
  have GG := GN
  clear GN
  refine hK.out _ _ (fun _ => ⟨(blk3_facts (GG.out.blk H1.out (by simp))).1, (blk3_facts (GG.out.blk H2.out (by simp))).1, (blk3_facts (GG.out.blk H3.out (by simp))).1, (blk3_facts (GG.out.blk H4.out (by simp))).1, (blk4_facts (GG.out.blk H5.out (by simp))).1, (blk4_facts (GG.out.blk H6.out (by simp))).1⟩) (fun hHeld => ?_)
  replace hHeld := hHeld (by kernel_rfl)
  clear hK K
  try simp only [Act.put, List.getElem_toArray, List.getElem_cons_succ, List.getElem_cons_zero, List.setIfInBounds_toArray, List.set_cons_zero, List.set_cons_succ]
  refine wpLate_take (i := 22) (oi := _) (v := ?_) rfl (by kernel_rfl) (by kernel_rfl) (by kernel_rfl) (by kernel_rfl) (fun _ _ _ h => h) (Gives.load (by rfl) ?_) hHeld ?_
  rotate_left
  · intro w hSw
    (try dsimp only at hSw)
    go_simp
    try with_reducible rfl
  try simp only [Act.put, List.getElem_toArray, List.getElem_cons_succ, List.getElem_cons_zero, List.setIfInBounds_toArray, List.set_cons_zero, List.set_cons_succ]
  refine wpLate_take (i := 23) (oi := _) (v := ?_) rfl (by kernel_rfl) (by kernel_rfl) (by kernel_rfl) (by kernel_rfl) (fun _ _ _ h => h) (Gives.load (by rfl) ?_) hHeld ?_
  rotate_left
  · intro w hSw
    (try dsimp only at hSw)
    go_simp
    try with_reducible rfl
  try simp only [Act.put, List.getElem_toArray, List.getElem_cons_succ, List.getElem_cons_zero, List.setIfInBounds_toArray, List.set_cons_zero, List.set_cons_succ]
  refine wpLate_take (i := 24) (oi := _) (v := ?_) rfl (by kernel_rfl) (by kernel_rfl) (by kernel_rfl) (by kernel_rfl) (fun _ _ _ h => h) (Gives.load (by rfl) ?_) hHeld ?_
  rotate_left
  · intro w hSw
    (try dsimp only at hSw)
    go_simp
    try with_reducible rfl
  try simp only [Act.put, List.getElem_toArray, List.getElem_cons_succ, List.getElem_cons_zero, List.setIfInBounds_toArray, List.set_cons_zero, List.set_cons_succ]
  refine wpLate_take (i := 25) (oi := _) (v := ?_) rfl (by kernel_rfl) (by kernel_rfl) (by kernel_rfl) (by kernel_rfl) (fun _ _ _ h => h) (Gives.load (by rfl) ?_) hHeld ?_
  rotate_left
  · intro w hSw
    (try dsimp only at hSw)
    go_simp
    try with_reducible rfl
  try simp only [Act.put, List.getElem_toArray, List.getElem_cons_succ, List.getElem_cons_zero, List.setIfInBounds_toArray, List.set_cons_zero, List.set_cons_succ]
  refine wpLate_take (i := 26) (oi := _) (v := ?_) rfl (by kernel_rfl) (by kernel_rfl) (by kernel_rfl) (by kernel_rfl) (fun _ _ _ h => h) (Gives.load (by rfl) ?_) hHeld ?_
  rotate_left
  · intro w hSw
    (try dsimp only at hSw)
    go_simp
    try with_reducible rfl
  try simp only [Act.put, List.getElem_toArray, List.getElem_cons_succ, List.getElem_cons_zero, List.setIfInBounds_toArray, List.set_cons_zero, List.set_cons_succ]
  refine wpLate_take (i := 27) (oi := _) (v := ?_) rfl (by kernel_rfl) (by kernel_rfl) (by kernel_rfl) (by kernel_rfl) (fun _ _ _ h => h) (Gives.load (by rfl) ?_) hHeld ?_
  rotate_left
  · intro w hSw
    (try dsimp only at hSw)
    go_simp
    try with_reducible rfl
  try simp only [Act.put, List.getElem_toArray, List.getElem_cons_succ, List.getElem_cons_zero, List.setIfInBounds_toArray, List.set_cons_zero, List.set_cons_succ]
  refine wpLate_take (i := 28) (oi := _) (v := ?_) rfl (by kernel_rfl) (by kernel_rfl) (by kernel_rfl) (by kernel_rfl) (fun _ _ _ h => h) (Gives.load (by rfl) ?_) hHeld ?_
  rotate_left
  · intro w hSw
    (try dsimp only at hSw)
    go_simp
    try with_reducible rfl
  try simp only [Act.put, List.getElem_toArray, List.getElem_cons_succ, List.getElem_cons_zero, List.setIfInBounds_toArray, List.set_cons_zero, List.set_cons_succ]
  refine wpLate_take (i := 29) (oi := _) (v := ?_) rfl (by kernel_rfl) (by kernel_rfl) (by kernel_rfl) (by kernel_rfl) (fun _ _ _ h => h) (Gives.load (by rfl) ?_) hHeld ?_
  rotate_left
  · intro w hSw
    (try dsimp only at hSw)
    go_simp
    try with_reducible rfl
  try simp only [Act.put, List.getElem_toArray, List.getElem_cons_succ, List.getElem_cons_zero, List.setIfInBounds_toArray, List.set_cons_zero, List.set_cons_succ]
  refine wpLate_take (i := 31) (oi := _) (v := ?_) rfl (by kernel_rfl) (by kernel_rfl) (by kernel_rfl) (by kernel_rfl) (fun _ _ _ h => h) (Gives.load (by rfl) ?_) hHeld ?_
  rotate_left
  · intro w hSw
    (try dsimp only at hSw)
    go_simp
    try with_reducible rfl
  try simp only [Act.put, List.getElem_toArray, List.getElem_cons_succ, List.getElem_cons_zero, List.setIfInBounds_toArray, List.set_cons_zero, List.set_cons_succ]
  refine wpLate_ready (rs := [30]) (by kernel_rfl) (by simp) ?_
  refine AllLate.cons (o := _) rfl (fun K hK => ?_) (by exact AllLate.nil)
  go_simp
  refine (acks8_any ⟨k3, i3, l3, b3⟩ _ _ (V5.out.old GG.out (by simp)) (by show l3.length ≤ _; omega)).mono ?_
  rintro _ x30 ⟨v7, rfl, V7, f⟩
  go_wp2_with fail
  have GN := Lib.hid (GG.out.trans f (by simp))
  clear f GG
  have GG := GN
  clear GN
  refine hK.out _ _ (fun _ => ⟨(blk3_facts (GG.out.blk H1.out (by simp))).1, (blk3_facts (GG.out.blk H2.out (by simp))).1, (blk3_facts (GG.out.blk H3.out (by simp))).1, (blk3_facts (GG.out.blk H4.out (by simp))).1, (blk4_facts (GG.out.blk H5.out (by simp))).1, (blk4_facts (GG.out.blk H6.out (by simp))).1⟩) (fun hHeld => ?_)
  replace hHeld := hHeld (by kernel_rfl)
  clear hK K
  try simp only [Act.put, List.getElem_toArray, List.getElem_cons_succ, List.getElem_cons_zero, List.setIfInBounds_toArray, List.set_cons_zero, List.set_cons_succ]
  refine wpLate_ready (rs := [32]) (by kernel_rfl) (by simp) ?_
  refine AllLate.cons (o := _) rfl (fun K hK => ?_) (by exact AllLate.nil)
  go_simp
  refine (rsamesa_any ⟨k3, i3, l3, b3⟩ _ _ _ V7 (V6.out.old GG.out (by simp)) (by show l3.length ≤ _; omega)).mono ?_
  rintro _ x32 ⟨rfl, f⟩
  clear V7
  go_wp2_with fail
  have GN := Lib.hid (GG.out.trans f (by simp))
  clear f GG
  have GG := GN
  clear GN
  refine hK.out _ _ (fun _ => ⟨(blk3_facts (GG.out.blk H1.out (by simp))).1, (blk3_facts (GG.out.blk H2.out (by simp))).1, (blk3_facts (GG.out.blk H3.out (by simp))).1, (blk3_facts (GG.out.blk H4.out (by simp))).1, (blk4_facts (GG.out.blk H5.out (by simp))).1, (blk4_facts (GG.out.blk H6.out (by simp))).1⟩) (fun hHeld => ?_)
  replace hHeld := hHeld (by kernel_rfl)
  clear hK K
  try simp only [Act.put, List.getElem_toArray, List.getElem_cons_succ, List.getElem_cons_zero, List.setIfInBounds_toArray, List.set_cons_zero, List.set_cons_succ]
  refine wpLate_take (i := 33) (oi := _) (v := ?_) rfl (by kernel_rfl) (by kernel_rfl) (by kernel_rfl) (by kernel_rfl) (fun _ _ _ h => h) (Gives.load (by rfl) ?_) hHeld ?_
  rotate_left
  · intro w hSw
    (try dsimp only at hSw)
    go_simp
    try with_reducible rfl
  try simp only [Act.put, List.getElem_toArray, List.getElem_cons_succ, List.getElem_cons_zero, List.setIfInBounds_toArray, List.set_cons_zero, List.set_cons_succ]
  refine wpLate_take (i := 34) (oi := _) (v := ?_) rfl (by kernel_rfl) (by kernel_rfl) (by kernel_rfl) (by kernel_rfl) (fun _ _ _ h => h) (Gives.load (by rfl) ?_) hHeld ?_
  rotate_left
  · intro w hSw
    (try dsimp only at hSw)
    go_simp
    try with_reducible rfl
  try simp only [Act.put, List.getElem_toArray, List.getElem_cons_succ, List.getElem_cons_zero, List.setIfInBounds_toArray, List.set_cons_zero, List.set_cons_succ]
  refine wpLate_done (by kernel_rfl) ?_ _
  clear hHeld
  go_wp2
  go_ret
  exact ⟨rfl, FZ.out.trans GG.out (by simp)⟩
end Go.Proofs.Ythioageiebchlaa
