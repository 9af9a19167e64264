/- The walk of the law SubscribeOne. -/
import Derived.Test.YthioageiebchlaaSuL
import Derived.Test.YthioageiebchlaaLawA
import Derived.Test.YthioageiebchlaaLaw
namespace Go.Proofs.Ythioageiebchlaa
open Go.RowKit
set_option linter.unusedVariables false
set_option linter.unusedSimpArgs false

set_option maxRecDepth 100000 in
set_option maxHeartbeats 8000000 in
theorem subscribeOne_walk (a0 : Int) (a1 : ByteArray) (w0 : (Lit.int .i64 a0).wf = true) (w1 : a1.size ≤ maxLen) (w : World) :
    Calls Try.prog 8 #[.int .i64 a0, .string a1] w fun e w' => e = .returned (.bool true) ∧ Fr [] w w' := by
  obtain ⟨s, rfl, hs⟩ := str_list a1
  rw [← hs] at w1
  unfold maxLen at w1
  clear hs w0
  go_enter Try.func8, Try.ntmps8
  go_wp2_with fail
  refine (cut_any s 200 w (by omega) (by decide)).mono ?_
  rintro _ _ ⟨rfl, rfl⟩
  have hk : (s.take 200).length ≤ 200 := List.length_take_le _ _
  rw [show (200 : Int).toNat = 200 from rfl]
  generalize s.take 200 = s at *
  have HS1 := Lib.hid (suParse_b s (by omega))
  have HO1 := Lib.hid (su_one s)
  have HS2 := Lib.hid (unParse_b s (by omega))
  have HO2 := Lib.hid (un_one s)
  have HS3 := Lib.hid (saParse_b a0 s (by omega))
  have HO3 := Lib.hid (sa_one a0 s)
  go_wp2_with fail
  refine (suparse_any s _ (by omega)).mono ?_
  obtain ⟨⟨⟨i1, l1, f1⟩, E1⟩, hP⟩ : ∃ x, suParse s = x := ⟨_, rfl⟩
  rw [hP] at HS1 HO1 ⊢
  clear hP
  rintro _ y1 ⟨v1, u1, rfl, hv1, hu1, g1⟩
  obtain ⟨A1, c1, rfl⟩ := view_shp hv1
  obtain ⟨A1', c1', rfl⟩ := view_shp hu1
  dsimp only at hv1 hu1
  unfold suC
  dsimp only
  have hb1 := blk_new y1 (.cells #[.int .u32 (i1 : Int), .slice A1 l1.length c1, .slice A1' f1.length c1'] 27)
  have G1 := Lib.hid ((Fr.refl [] y1).alloc (.cells #[.int .u32 (i1 : Int), .slice A1 l1.length c1, .slice A1' f1.length c1'] 27))
  have HB1 := Lib.hid hb1
  have HV1 := Lib.hid (hv1.old G1.out (by simp))
  have HU1 := Lib.hid (hu1.old G1.out (by simp))
  have HF := Lib.hid (g1.trans G1.out (by simp))
  clear hb1 G1 hv1 hu1 g1
  go_upto_region 3 with (fail)
  obtain ⟨X1, hX1⟩ : ∃ X, y1.heap.size = X := ⟨_, rfl⟩
  obtain ⟨z1, hz1⟩ : ∃ z, y1.alloc (.cells #[.int .u32 (i1 : Int), .slice A1 l1.length c1, .slice A1' f1.length c1'] 27) = z := ⟨_, rfl⟩
  rw [hX1] at HB1 ⊢
  rw [hz1] at HB1 HV1 HU1 HF ⊢
  clear hX1 hz1
  go_wp2_with fail
  refine (unparse_any s _ (by omega)).mono ?_
  obtain ⟨⟨⟨i2, l2, f2⟩, E2⟩, hP⟩ : ∃ x, unParse s = x := ⟨_, rfl⟩
  rw [hP] at HS2 HO2 ⊢
  clear hP
  rintro _ y2 ⟨v2, u2, rfl, hv2, hu2, g2⟩
  obtain ⟨A2, c2, rfl⟩ := view_shp hv2
  obtain ⟨A2', c2', rfl⟩ := view_shp hu2
  dsimp only at hv2 hu2
  unfold unC
  dsimp only
  have hb2 := blk_new y2 (.cells #[.int .u32 (i2 : Int), .slice A2 l2.length c2, .slice A2' f2.length c2'] 43)
  have G2 := Lib.hid ((Fr.refl [] y2).alloc (.cells #[.int .u32 (i2 : Int), .slice A2 l2.length c2, .slice A2' f2.length c2'] 43))
  have g2' := g2.trans G2.out (by simp)
  have HB2 := Lib.hid hb2
  have HV2 := Lib.hid (hv2.old G2.out (by simp))
  have HU2 := Lib.hid (hu2.old G2.out (by simp))
  have HBn := Lib.hid (g2'.blk HB1.out (by simp))
  have HVn := Lib.hid (HV1.out.old g2' (by simp))
  have HUn := Lib.hid (HU1.out.old g2' (by simp))
  have HFn := Lib.hid (HF.out.trans g2' (by simp))
  clear hb2 G2 hv2 hu2 g2 g2' HB1 HV1 HU1 HF
  have HB1 := HBn
  have HV1 := HVn
  have HU1 := HUn
  have HF := HFn
  clear HBn HVn HUn HFn
  go_upto_region 4 with (fail)
  obtain ⟨X2, hX2⟩ : ∃ X, y2.heap.size = X := ⟨_, rfl⟩
  obtain ⟨z2, hz2⟩ : ∃ z, y2.alloc (.cells #[.int .u32 (i2 : Int), .slice A2 l2.length c2, .slice A2' f2.length c2'] 43) = z := ⟨_, rfl⟩
  rw [hX2] at HB2 ⊢
  rw [hz2] at HB2 HV2 HU2 HB1 HV1 HU1 HF ⊢
  clear hX2 hz2
  go_wp2_with fail
  refine (saparse_any a0 s _ (by omega)).mono ?_
  obtain ⟨⟨⟨k3, i3, l3, c3⟩, E3⟩, hP⟩ : ∃ x, saParse a0 s = x := ⟨_, rfl⟩
  rw [hP] at HS3 HO3 ⊢
  clear hP
  rintro _ y3 ⟨v3, rfl, hv3, g3⟩
  obtain ⟨A3, n3, rfl⟩ := view_shp hv3
  dsimp only at hv3
  unfold saC
  dsimp only
  have hb3 := blk_new y3 (.cells #[.int .i64 k3, .int .u32 (i3 : Int), .slice A3 l3.length n3, .string ⟨c3.toArray⟩] 45)
  have G3 := Lib.hid ((Fr.refl [] y3).alloc (.cells #[.int .i64 k3, .int .u32 (i3 : Int), .slice A3 l3.length n3, .string ⟨c3.toArray⟩] 45))
  have g3' := g3.trans G3.out (by simp)
  have HB3 := Lib.hid hb3
  have HV3 := Lib.hid (hv3.old G3.out (by simp))
  have HBn := Lib.hid (g3'.blk HB1.out (by simp))
  have HVn := Lib.hid (HV1.out.old g3' (by simp))
  have HUn := Lib.hid (HU1.out.old g3' (by simp))
  have HBm := Lib.hid (g3'.blk HB2.out (by simp))
  have HVm := Lib.hid (HV2.out.old g3' (by simp))
  have HUm := Lib.hid (HU2.out.old g3' (by simp))
  have HFn := Lib.hid (HF.out.trans g3' (by simp))
  clear hb3 G3 hv3 g3 g3' HB1 HV1 HU1 HB2 HV2 HU2 HF
  have HB1 := HBn
  have HV1 := HVn
  have HU1 := HUn
  have HB2 := HBm
  have HV2 := HVm
  have HU2 := HUm
  have HF := HFn
  clear HBn HVn HUn HFn HBm HVm HUm
  go_upto_region 5 with (fail)
  obtain ⟨X3, hX3⟩ : ∃ X, y3.heap.size = X := ⟨_, rfl⟩
  obtain ⟨z3, hz3⟩ : ∃ z, y3.alloc (.cells #[.int .i64 k3, .int .u32 (i3 : Int), .slice A3 l3.length n3, .string ⟨c3.toArray⟩] 45) = z := ⟨_, rfl⟩
  rw [hX3] at HB3 ⊢
  rw [hz3] at HB3 HV3 HB1 HV1 HU1 HB2 HV2 HU2 HF ⊢
  clear hX3 hz3
  go_wp2_with fail
  refine (awake8_any _).mono ?_
  rintro _ z ⟨rfl, g⟩
  have HG := Lib.hid g
  clear g
  by_cases hE : E1 = 0
  · have E0 : (E1 != 0) = false := by simpa using hE
    have HT := HO1.out hE
    clear hE
    obtain ⟨⟨e0, e1, e2⟩, _, _⟩ := blk3_facts (HG.out.blk HB1.out (by simp))
    go_wp2_with fail
    refine (sutext_any ⟨i1, l1, f1⟩ _ _ _ HS1.out (HV1.out.old HG.out (by simp)) (HU1.out.old HG.out (by simp))).mono ?_
    rintro _ z2 ⟨rfl, g⟩
    rw [HT]
    have HN := Lib.hid (HG.out.trans g (by simp))
    clear g HG
    have HG := HN
    clear HN
    clear e0 e1 e2 E0 HT
    by_cases hE : E2 = 0
    · have E0 : (E2 != 0) = false := by simpa using hE
      have HT := HO2.out hE
      clear hE
      obtain ⟨⟨e0, e1, e2⟩, _, _⟩ := blk3_facts (HG.out.blk HB2.out (by simp))
      go_wp2_with fail
      refine (untext_any ⟨i2, l2, f2⟩ _ _ _ HS2.out (HV2.out.old HG.out (by simp)) (HU2.out.old HG.out (by simp))).mono ?_
      rintro _ z3 ⟨rfl, g⟩
      rw [HT]
      have HN := Lib.hid (HG.out.trans g (by simp))
      clear g HG
      have HG := HN
      clear HN
      clear e0 e1 e2 E0 HT
      by_cases hE : E3 = 0
      · have E0 : (E3 != 0) = false := by simpa using hE
        have HT := HO3.out hE
        clear hE
        obtain ⟨⟨e0, e1, e2, e3⟩, _, _⟩ := blk4_facts (HG.out.blk HB3.out (by simp))
        go_wp2_with fail
        refine (satext_any ⟨k3, i3, l3, c3⟩ _ _ HS3.out (HV3.out.old HG.out (by simp))).mono ?_
        rintro _ z4 ⟨rfl, g⟩
        rw [HT]
        have HN := Lib.hid (HG.out.trans g (by simp))
        clear g HG
        have HG := HN
        clear HN
        clear e0 e1 e2 e3
        go_wp2
        go_ret
        exact ⟨rfl, HF.out.trans HG.out (by simp)⟩
      · have E0 : (E3 != 0) = true := by simpa using hE
        clear hE
        go_wp2
        go_ret
        exact ⟨rfl, HF.out.trans HG.out (by simp)⟩
    · have E0 : (E2 != 0) = true := by simpa using hE
      clear hE
      by_cases hE : E3 = 0
      · have E0 : (E3 != 0) = false := by simpa using hE
        have HT := HO3.out hE
        clear hE
        obtain ⟨⟨e0, e1, e2, e3⟩, _, _⟩ := blk4_facts (HG.out.blk HB3.out (by simp))
        go_wp2_with fail
        refine (satext_any ⟨k3, i3, l3, c3⟩ _ _ HS3.out (HV3.out.old HG.out (by simp))).mono ?_
        rintro _ z4 ⟨rfl, g⟩
        rw [HT]
        have HN := Lib.hid (HG.out.trans g (by simp))
        clear g HG
        have HG := HN
        clear HN
        clear e0 e1 e2 e3
        go_wp2
        go_ret
        exact ⟨rfl, HF.out.trans HG.out (by simp)⟩
      · have E0 : (E3 != 0) = true := by simpa using hE
        clear hE
        go_wp2
        go_ret
        exact ⟨rfl, HF.out.trans HG.out (by simp)⟩
  · have E0 : (E1 != 0) = true := by simpa using hE
    clear hE
    by_cases hE : E2 = 0
    · have E0 : (E2 != 0) = false := by simpa using hE
      have HT := HO2.out hE
      clear hE
      obtain ⟨⟨e0, e1, e2⟩, _, _⟩ := blk3_facts (HG.out.blk HB2.out (by simp))
      go_wp2_with fail
      refine (untext_any ⟨i2, l2, f2⟩ _ _ _ HS2.out (HV2.out.old HG.out (by simp)) (HU2.out.old HG.out (by simp))).mono ?_
      rintro _ z3 ⟨rfl, g⟩
      rw [HT]
      have HN := Lib.hid (HG.out.trans g (by simp))
      clear g HG
      have HG := HN
      clear HN
      clear e0 e1 e2 E0 HT
      by_cases hE : E3 = 0
      · have E0 : (E3 != 0) = false := by simpa using hE
        have HT := HO3.out hE
        clear hE
        obtain ⟨⟨e0, e1, e2, e3⟩, _, _⟩ := blk4_facts (HG.out.blk HB3.out (by simp))
        go_wp2_with fail
        refine (satext_any ⟨k3, i3, l3, c3⟩ _ _ HS3.out (HV3.out.old HG.out (by simp))).mono ?_
        rintro _ z4 ⟨rfl, g⟩
        rw [HT]
        have HN := Lib.hid (HG.out.trans g (by simp))
        clear g HG
        have HG := HN
        clear HN
        clear e0 e1 e2 e3
        go_wp2
        go_ret
        exact ⟨rfl, HF.out.trans HG.out (by simp)⟩
      · have E0 : (E3 != 0) = true := by simpa using hE
        clear hE
        go_wp2
        go_ret
        exact ⟨rfl, HF.out.trans HG.out (by simp)⟩
    · have E0 : (E2 != 0) = true := by simpa using hE
      clear hE
      by_cases hE : E3 = 0
      · have E0 : (E3 != 0) = false := by simpa using hE
        have HT := HO3.out hE
        clear hE
        obtain ⟨⟨e0, e1, e2, e3⟩, _, _⟩ := blk4_facts (HG.out.blk HB3.out (by simp))
        go_wp2_with fail
        refine (satext_any ⟨k3, i3, l3, c3⟩ _ _ HS3.out (HV3.out.old HG.out (by simp))).mono ?_
        rintro _ z4 ⟨rfl, g⟩
        rw [HT]
        have HN := Lib.hid (HG.out.trans g (by simp))
        clear g HG
        have HG := HN
        clear HN
        clear e0 e1 e2 e3
        go_wp2
        go_ret
        exact ⟨rfl, HF.out.trans HG.out (by simp)⟩
      · have E0 : (E3 != 0) = true := by simpa using hE
        clear hE
        go_wp2
        go_ret
        exact ⟨rfl, HF.out.trans HG.out (by simp)⟩
end Go.Proofs.Ythioageiebchlaa
