/- The walk of the law ConnectOne. -/
import Derived.Test.YtlhkgalmiajinaaConAwake
import Derived.Test.YtlhkgalmiajinaaConE
import Derived.Test.YtlhkgalmiajinaaLaw
namespace Go.Proofs.Ytlhkgalmiajinaa
open Go.RowKit
set_option linter.unusedVariables false
set_option linter.unusedSimpArgs false

set_option maxRecDepth 100000 in
set_option maxHeartbeats 4000000 in
theorem connectOne_walk (a0 : ByteArray) (w0 : a0.size ≤ maxLen) (w : World) :
    Calls Try.prog 11 #[.string a0] w fun e w' => e = .returned (.bool true) ∧ Fr [] w w' := by
  obtain ⟨s, rfl, hs⟩ := str_list a0
  rw [← hs] at w0
  unfold maxLen at w0
  clear hs
  go_enter Try.func11, Try.ntmps11
  go_wp2_with fail
  refine (cut_any s 250 w (by omega) (by decide)).mono ?_
  rintro _ _ ⟨rfl, rfl⟩
  have hk : (s.take 250).length ≤ 250 := List.length_take_le _ _
  rw [show (250 : Int).toNat = 250 from rfl]
  generalize s.take 250 = s at *
  go_wp2_with fail
  refine (cnparse_any s _ (by omega)).mono ?_
  have HB := Lib.hid (cnParse_b s (by omega))
  have HO := Lib.hid (cn_one' s)
  have HB2 := Lib.hid (ckParse_b s (by omega))
  have HO2 := Lib.hid (ck_one' s)
  obtain ⟨⟨⟨clean, keep, props, id, hasWill, wp, topic, pay, qos, ret, hasUser, hasPass, user, pass⟩, E⟩, hP⟩ : ∃ x, cnParse s = x := ⟨_, rfl⟩
  rw [hP] at HB HO ⊢
  clear hP
  rintro _ w2 ⟨v, u, rfl, hv, hu, g2⟩
  obtain ⟨A, cA, rfl⟩ := view_shape hv
  obtain ⟨A', cA', rfl⟩ := view_shape hu
  dsimp only at hv hu
  have hb2 := blk_new w2 (.cells #[.bool clean, .int .u32 (keep : Int), .slice A props.length cA, .string ⟨id.toArray⟩, .bool hasWill, .slice A' wp.length cA', .string ⟨topic.toArray⟩, .string ⟨pay.toArray⟩, .int .u8 (qos : Int), .bool ret, .bool hasUser, .bool hasPass, .string ⟨user.toArray⟩, .string ⟨pass.toArray⟩] 48)
  have F2 := g2.alloc (.cells #[.bool clean, .int .u32 (keep : Int), .slice A props.length cA, .string ⟨id.toArray⟩, .bool hasWill, .slice A' wp.length cA', .string ⟨topic.toArray⟩, .string ⟨pay.toArray⟩, .int .u8 (qos : Int), .bool ret, .bool hasUser, .bool hasPass, .string ⟨user.toArray⟩, .string ⟨pass.toArray⟩] 48)
  have G2 : Fr [] w2 (w2.alloc (.cells #[.bool clean, .int .u32 (keep : Int), .slice A props.length cA, .string ⟨id.toArray⟩, .bool hasWill, .slice A' wp.length cA', .string ⟨topic.toArray⟩, .string ⟨pay.toArray⟩, .int .u8 (qos : Int), .bool ret, .bool hasUser, .bool hasPass, .string ⟨user.toArray⟩, .string ⟨pass.toArray⟩] 48)) := (Fr.refl _ _).alloc _
  unfold cnC
  dsimp only
  go_wp2_with fail
  refine (ckparse_any s _ (by omega)).mono ?_
  obtain ⟨⟨⟨pr, cd, l⟩, E2⟩, hP⟩ : ∃ x, ckParse s = x := ⟨_, rfl⟩
  rw [hP] at HB2 HO2 ⊢
  clear hP
  rintro _ w3 ⟨v3, rfl, hv3, g3⟩
  obtain ⟨A3, c3, rfl⟩ := view_shape hv3
  dsimp only at hv3
  have hb3 := g3.blk hb2 (by simp)
  have F3 := F2.trans g3 (by simp)
  have G3 := G2.trans g3 (by simp)
  have hc3 := blk_new w3 (.cells #[.bool pr, .int .u8 (cd : Int), .slice A3 l.length c3] 64)
  have hb4 := blk_old hb3 (.cells #[.bool pr, .int .u8 (cd : Int), .slice A3 l.length c3] 64)
  have F4 := F3.alloc (.cells #[.bool pr, .int .u8 (cd : Int), .slice A3 l.length c3] 64)
  have G4 := G3.alloc (.cells #[.bool pr, .int .u8 (cd : Int), .slice A3 l.length c3] 64)
  have G5 : Fr [] w3 (w3.alloc (.cells #[.bool pr, .int .u8 (cd : Int), .slice A3 l.length c3] 64)) := (Fr.refl _ _).alloc _
  unfold ckC
  dsimp only
  go_upto_region 4 with (fail)
  obtain ⟨B, hB⟩ : ∃ B, w2.heap.size = B := ⟨_, rfl⟩
  obtain ⟨D, hD⟩ : ∃ D, w3.heap.size = D := ⟨_, rfl⟩
  obtain ⟨y, hy⟩ : ∃ y, w3.alloc (.cells #[.bool pr, .int .u8 (cd : Int), .slice A3 l.length c3] 64) = y := ⟨_, rfl⟩
  rw [hB] at hb4 ⊢
  rw [hD] at hc3 ⊢
  rw [hy] at hb4 hc3 F4 G4 G5 ⊢
  have V1 := hv.old G4 (by simp)
  have V2 := hu.old G4 (by simp)
  have V3 := hv3.old G5 (by simp)
  clear hb2 F2 G2 hb3 F3 G3 G4 G5 hy hB hD hv hu hv3 g2 g3
  have HOK := Lib.hid (CnB.ok HB.out V1 V2)
  have HV3 := Lib.hid V3
  have HF4 := Lib.hid F4
  have HBB := Lib.hid hb4
  have HBD := Lib.hid hc3
  clear V1 V2 V3 F4 hb4 hc3 HB
  go_wp2_with fail
  refine (awake6_any _).mono ?_
  rintro _ z ⟨rfl, gz⟩
  have HBB1 := Lib.hid (gz.blk HBB.out (by simp))
  have HBD1 := Lib.hid (gz.blk HBD.out (by simp))
  have HOK1 := Lib.hid (HOK.out.fr gz)
  have HV31 := Lib.hid (HV3.out.old gz (by simp))
  have HF41 := Lib.hid (HF4.out.trans gz (by simp))
  clear gz HBB HBD HOK HV3 HF4
  obtain ⟨⟨e0, e1, e2, e3, e4, e5, e6, e7, e8, e9, e10, e11, e12, e13⟩, _, _⟩ := blk14n_facts HBB1.out
  by_cases hE : E = 0
  · have E0 : (E != 0) = false := by simpa using hE
    have HT := HO.out hE
    clear hE
    go_wp2_with fail
    refine (cntext_any ⟨clean, keep, props, id, hasWill, wp, topic, pay, qos, ret, hasUser, hasPass, user, pass⟩ _ _ _ HOK1.out).mono ?_
    rintro _ z2 ⟨rfl, g2⟩
    rw [HT]
    have HBD2 := Lib.hid (g2.blk HBD1.out (by simp))
    have HV32 := Lib.hid (HV31.out.old g2 (by simp))
    have HF42 := Lib.hid (HF41.out.trans g2 (by simp))
    clear g2 HBD1 HV31 HF41 HBB1
    clear e0 e1 e2 e3 e4 e5 e6 e7 e8 e9 e10 e11 e12 e13
    obtain ⟨⟨d0, d1, d2⟩, _, _⟩ := blk3_facts HBD2.out
    by_cases hE2 : E2 = 0
    · have E20 : (E2 != 0) = false := by simpa using hE2
      have HT2 := HO2.out hE2
      clear hE2
      go_wp2_with fail
      refine (cktext_any ⟨pr, cd, l⟩ _ _ HB2.out.c HV32.out HB2.out.l HB2.out.o).mono ?_
      rintro _ z9 ⟨rfl, g9⟩
      rw [HT2]
      go_wp2
      go_ret
      exact ⟨rfl, HF42.out.trans g9 (by simp)⟩
    · have E20 : (E2 != 0) = true := by simpa using hE2
      clear hE2
      go_wp2
      go_ret
      exact ⟨rfl, HF42.out⟩
  · have E0 : (E != 0) = true := by simpa using hE
    clear hE
    clear e0 e1 e2 e3 e4 e5 e6 e7 e8 e9 e10 e11 e12 e13
    obtain ⟨⟨d0, d1, d2⟩, _, _⟩ := blk3_facts HBD1.out
    by_cases hE2 : E2 = 0
    · have E20 : (E2 != 0) = false := by simpa using hE2
      have HT2 := HO2.out hE2
      clear hE2
      go_wp2_with fail
      refine (cktext_any ⟨pr, cd, l⟩ _ _ HB2.out.c HV31.out HB2.out.l HB2.out.o).mono ?_
      rintro _ z9 ⟨rfl, g9⟩
      rw [HT2]
      go_wp2
      go_ret
      exact ⟨rfl, HF41.out.trans g9 (by simp)⟩
    · have E20 : (E2 != 0) = true := by simpa using hE2
      clear hE2
      go_wp2
      go_ret
      exact ⟨rfl, HF41.out⟩
end Go.Proofs.Ytlhkgalmiajinaa
