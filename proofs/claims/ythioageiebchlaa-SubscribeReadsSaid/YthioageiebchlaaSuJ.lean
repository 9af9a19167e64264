/- What the reference of layer 8 reads as an answer. Conditions: strings that may be. -/
import Derived.Test.YthioageiebchlaaSuG
import Derived.Test.YthioageiebchlaaSuE
import Derived.Test.YthioageiebchlaaRes
namespace Go.Proofs.Ythioageiebchlaa
open Go.RowKit
set_option linter.unusedVariables false
set_option linter.unusedSimpArgs false

theorem all_not (k : Int) (C : List UInt8) (j : Nat) (h : j < C.length) (hm : mayC k (C[j]).toNat = false) : (C.all fun c => mayC k c.toNat) = false := by
  rw [List.all_eq_false]
  exact ⟨C[j], List.getElem_mem h, by simp [hm]⟩
theorem all_step (k : Int) (C : List UInt8) (j : Nat) (h : j < C.length) (ha : ((C.take j).all fun c => mayC k c.toNat) = true) (hm : mayC k (C[j]).toNat = true) : ((C.take (j + 1)).all fun c => mayC k c.toNat) = true := by
  rw [List.take_succ_eq_append_getElem h, List.all_append, ha]
  simp [hm]
set_option maxRecDepth 100000 in
set_option maxHeartbeats 8000000 in
theorem rsaparse_any (k : Int) (s : List UInt8) (w : World) (hs : s.length ≤ 1000000) :
    Calls Try.prog 29 #[.int .i64 k, .string ⟨s.toArray⟩] w (SaTo (saParse k s) w) := by
  have F0 : Fr [] w (w.alloc (.cells #[.int .i64 0, .int .u32 0, .slice none 0 0, .string ⟨#[]⟩] 59)) := (Fr.refl _ _).alloc _
  have hb0 := blk_new w (.cells #[.int .i64 0, .int .u32 0, .slice none 0 0, .string ⟨#[]⟩] 59)
  by_cases hk : k ≠ 9 ∧ k ≠ 11
  · have HR : Hid (saParse k s = (noSa, 5)) := Lib.hid (if_pos hk)
    have k9 : (k != 9) = true := by simpa using hk.1
    have k11 : (k != 11) = true := by simpa using hk.2
    clear hk hb0
    go_enter Try.func29, Try.ntmps29
    go_wp2
    refine bodyPost_ret (v := .tuple #[.agg #[.int .i64 0, .int .u32 0, .slice none 0 0, .string ⟨#[]⟩], .int .i64 5]) (by simp [results, Try.results29, go_sem]) rfl ?_
    rw [HR.out]
    exact ⟨.slice none 0 0, rfl, View.nil _, F0⟩
  have HR : Hid (saParse k s = if (saMay k (saRest k s)).ends = 0 then (⟨k, (beginR k s).id, (beginR k s).props, (saRest k s).1⟩, 0) else (noSa, (saMay k (saRest k s)).ends)) := Lib.hid (if_neg hk)
  have HS : Hid (saRest k s = (beginR k s).r.raw (beginR k s).r.s.length) := Lib.hid rfl
  have hbg := begin_left k s
  obtain ⟨bt, hbt⟩ : ∃ bt : Bool, bt = decide (k ≠ 9) := ⟨_, rfl⟩
  have k9 : (k != 9) = bt := by rw [hbt]; by_cases h : k = 9 <;> simp [h]
  have k11 : bt = true → (k != 11) = false := by
    intro h; rw [hbt] at h
    have : k ≠ 9 := of_decide_eq_true h
    have : k = 11 := by omega
    simp [this]
  clear hk hbt
  go_enter Try.func29, Try.ntmps29
  go_upto_region 1 with (fail)
  obtain ⟨y, hy⟩ : ∃ y, w.alloc (.cells #[.int .i64 0, .int .u32 0, .slice none 0 0, .string ⟨#[]⟩] 59) = y := ⟨_, rfl⟩
  rw [hy] at hb0 F0 ⊢
  clear hy
  have HB0 := Lib.hid hb0
  have HF0 := Lib.hid F0
  have hyl := blk_lt hb0
  clear hb0 F0
  go_cut [15] (fun v15 wx => v15 = .bool false ∧ y = wx)
  case first =>
    cases bt
    · go_wp2
      go_meet
      exact ⟨rfl, rfl⟩
    · have k12 := k11 rfl
      clear k11
      go_wp2
      go_meet
      exact ⟨rfl, rfl⟩
  case rest =>
  obtain ⟨rfl, hwc⟩ := hcut
  rw [← hwc]
  clear hwc k9 k11
  clear wc
  go_wp2_with fail
  refine (rbegin_any k s _ hs).mono ?_
  rintro _ w1 ⟨v, rfl, own1, g1⟩
  generalize beginR k s = BG at *
  obtain ⟨id, lp, r0⟩ := BG
  dsimp only at HR HS hbg own1 ⊢
  obtain ⟨AP, cp, rfl⟩ := own_shape own1
  have ga := (Fr.refl [] w1).alloc (.cells #[.string ⟨r0.s.toArray⟩, .int .i64 r0.e] 99)
  have HZ := Lib.hid (ga.blk (g1.blk HB0.out (by simp)) (by simp))
  have HC := Lib.hid (blk_new w1 (.cells #[.string ⟨r0.s.toArray⟩, .int .i64 r0.e] 99))
  have HV := Lib.hid ((own_view own1).old ga (by simp))
  have HF := Lib.hid ((HF0.out.trans g1 (by simp)).trans ga (by simp))
  have hw1 := g1.size
  have hlow := Lib.hid (fun q hq => Nat.lt_of_lt_of_le hyl (own1.lt q hq).1 : ∀ q, (Value.slice AP lp.length cp).ownBlock = some q → w.heap.size < q)
  clear g1 ga own1 HB0 HF0
  go_upto_region 4 with (fail)
  obtain ⟨B, hB⟩ : ∃ B, w1.heap.size = B := ⟨_, rfl⟩
  obtain ⟨y2, hy2⟩ : ∃ y2, w1.alloc (.cells #[.string ⟨r0.s.toArray⟩, .int .i64 r0.e] 99) = y2 := ⟨_, rfl⟩
  rw [hB] at HC hw1 ⊢
  rw [hy2] at HZ HC HV HF ⊢
  clear hB hy2
  have hzl := blk_lt HZ.out
  obtain ⟨c0, c1, f0, f1, hl2_⟩ := blk2_facts (HC.out)
  by_cases he : r0.e = 0
  rotate_left
  · have e0 : (r0.e != 0) = true := by simpa using he
    have hrr : saRest k s = ([], r0) := by rw [HS.out, Rd.raw_bad _ _ he]
    have HR2 : Hid (saParse k s = (noSa, r0.ends)) := Lib.hid (by
      rw [HR.out, hrr]
      have hm : saMay k ([], r0) = r0 := rfl
      rw [hm, if_neg (fun h => he (ends_e0 _ h).1)])
    clear he hrr HR HS
    go_upto_region 5 with (fail)
    refine wp_region_lit ?_
    refine wpList_build rfl _ _ rfl (by kernel_rfl) ?_
    refine wpList_load_mid rfl 99 _ rfl B 0 (by rfl) [.string ⟨r0.s.toArray⟩, .int .i64 r0.e] _ (range_blk HC.out rfl) Try.underlying99 rfl (by kernel_rfl) ?_
    refine wpList_plain rfl fun K hK => ?_
    go_wp2_with fail
    refine (end6_any r0.s r0.e _).mono ?_
    rintro _ ya ⟨rfl, ga⟩
    refine hK _ _ ?_
    have hza := ga.blk HZ.out (by simp)
    have HFa := Lib.hid (HF.out.trans ga (by simp))
    clear hK K ga
    clear c0 c1 f0 f1 hl2_
    rw [show Rd.ends ⟨r0.s, r0.e⟩ = r0.ends from rfl]
    generalize r0.ends = E at *
    refine wpList_store_row rfl 59 _ _ rfl w.heap.size #[.int .i64 0, .int .u32 0, .slice none 0 0, .string ⟨#[]⟩] (by first | kernel_rfl | rfl) (by first | kernel_rfl | rfl) _ _ hza (by kernel_rfl) rfl (by kernel_rfl) ?_
    have HY := Lib.hid (setRow_heap _ _ _ #[.int .i64 0, .int .u32 0, .slice none 0 0, .string ⟨#[]⟩] _ _ hza)
    have FZ := Lib.hid (fr_row HFa.out (g := w.heap.size) (Or.inl (Nat.le_refl _)) #[.int .i64 0, .int .u32 0, .slice none 0 0, .string ⟨#[]⟩])
    go_wp2
    generalize World.setRow _ w.heap.size #[.int .i64 0, .int .u32 0, .slice none 0 0, .string ⟨#[]⟩] = W5 at *
    refine bodyPost_ret (res_cell2 Try.results29 _ _ w.heap.size [.int .i64 0, .int .u32 0, .slice none 0 0, .string ⟨#[]⟩] _ (.int .i64 E) (by first | kernel_rfl | rfl) (by first | kernel_rfl | rfl) (range_blk HY.out rfl) Try.underlying59 rfl (by kernel_rfl)) rfl ?_
    rw [HR2.out]
    exact ⟨_, rfl, View.nil _, FZ.out⟩
  have e0 : (r0.e != 0) = false := by simpa using he
  have hrr : saRest k s = (r0.s, ⟨[], 0⟩) := by rw [HS.out, raw_all _ he]
  rw [hrr] at HR
  dsimp only at HR
  clear hrr HS he
  obtain ⟨C, hC⟩ : ∃ C, r0.s = C := ⟨_, rfl⟩
  rw [hC] at HR hbg HC c0
  clear hC
  have HRY : Hid ((C.all fun c => mayC k c.toNat) = true → saParse k s = (⟨k, id, lp, C⟩, 0)) := Lib.hid (fun h => by
    rw [HR.out]
    have hm : saMay k (C, ⟨[], 0⟩) = ⟨[], 0⟩ := if_pos h
    rw [hm]; rfl)
  have HRN : Hid ((C.all fun c => mayC k c.toNat) = false → saParse k s = (noSa, 2)) := Lib.hid (fun h => by
    rw [HR.out]
    have hm : saMay k (C, ⟨[], 0⟩) = ⟨[], 2⟩ := by
      show (if (C.all fun c => mayC k c.toNat) = true then _ else _) = _
      rw [if_neg (by simp [h])]; rfl
    rw [hm]; rfl)
  have HALL : Hid (((C.take 0).all fun c => mayC k c.toNat) = true) := Lib.hid rfl
  clear HR
  go_wp2
  go_loopw [9] (fun i wr => ∃ j : Nat, i = .int .i64 j ∧ j ≤ C.length ∧ Hid (((C.take j).all fun c => mayC k c.toNat) = true) ∧ Fr [] y2 wr) (fun i _ => C.length - (intOf i).toNat)
  case atStart => exact ⟨0, rfl, by omega, HALL, Fr.refl _ _⟩
  case round =>
    clear HALL
    obtain ⟨j, rfl, hj, HA, hfr⟩ := hrel
    have HG := Lib.hid hfr
    have HCj := Lib.hid (hfr.blk HC.out (by simp))
    have HZj := Lib.hid (hfr.blk HZ.out (by simp))
    have HFj := Lib.hid (HF.out.trans hfr (by simp))
    clear hfr
    clear c0 c1 f0 f1 hl2_
    obtain ⟨c0, c1, f0, f1, hl2_⟩ := blk2_facts (HCj.out)
    by_cases hlt : j < C.length
    · obtain ⟨cj, hcj⟩ : ∃ cj : UInt8, C[j] = cj := ⟨_, rfl⟩
      have hx : ({ data := C.toArray } : ByteArray)[j]'(by show j < C.length; omega) = cj := by rw [← hcj]; rfl
      obtain ⟨cn, hcn⟩ : ∃ cn : Nat, cj.toNat = cn := ⟨_, rfl⟩
      have hcl : cn < 256 := by rw [← hcn]; exact cj.toNat_lt
      have hcl2 : (cn : Int) < 256 := by omega
      obtain ⟨m, hm⟩ : ∃ m, mayC k cn = m := ⟨_, rfl⟩
      have HMM : Hid (mayC k (C[j]).toNat = m) := Lib.hid (by rw [hcj, hcn]; exact hm)
      have HM := Lib.hid hm
      have hli : (j : Int) < (C.length : Int) := by omega
      clear hcj hm
      go_wp2_with fail
      refine (rmayr_any k cn hcl _).mono ?_
      rintro _ x1 ⟨rfl, g1⟩
      rw [HM.out]
      have HG1 := Lib.hid (HG.out.trans g1 (by simp))
      cases m
      · have HR2 := Lib.hid (HRN.out (all_not k C j hlt HMM.out))
        have hza := g1.blk HZj.out (by simp)
        have HFa := Lib.hid (HFj.out.trans g1 (by simp))
        clear g1 HMM HM HA hx hcn
        go_upto_region 10 with (fail)
        refine wp_region_lit ?_
        refine wpList_build rfl _ _ rfl (by kernel_rfl) ?_
        refine wpList_store_row rfl 59 _ _ rfl w.heap.size #[.int .i64 0, .int .u32 0, .slice none 0 0, .string ⟨#[]⟩] (by rfl) (by kernel_rfl) _ _ hza (by kernel_rfl) rfl (by kernel_rfl) ?_
        have HY := Lib.hid (setRow_heap _ _ _ #[.int .i64 0, .int .u32 0, .slice none 0 0, .string ⟨#[]⟩] _ _ hza)
        have FZ := Lib.hid (fr_row HFa.out (g := w.heap.size) (Or.inl (Nat.le_refl _)) #[.int .i64 0, .int .u32 0, .slice none 0 0, .string ⟨#[]⟩])
        go_wp2
        generalize World.setRow _ w.heap.size #[.int .i64 0, .int .u32 0, .slice none 0 0, .string ⟨#[]⟩] = W5 at *
        refine bodyPost_ret (res_cell2 Try.results29 _ _ w.heap.size [.int .i64 0, .int .u32 0, .slice none 0 0, .string ⟨#[]⟩] _ (.int .i64 2) (by first | kernel_rfl | rfl) (by first | kernel_rfl | rfl) (range_blk HY.out rfl) Try.underlying59 rfl (by kernel_rfl)) rfl ?_
        rw [HR2.out]
        exact ⟨_, rfl, View.nil _, FZ.out⟩
      · have HA2 := Lib.hid (all_step k C j hlt HA.out HMM.out)
        clear g1 HMM HM hx hcn
        go_wp2
        go_roundw
        case rel => exact ⟨j + 1, by go_num, by omega, HA2, HG1.out⟩
        case measure => simp [intOf]; omega
    · obtain rfl : j = C.length := by omega
      rw [List.take_length] at HA
      have HR2 := Lib.hid (HRY.out HA.out)
      have HVj := Lib.hid (HV.out.old HG.out (by simp))
      have hz := HZj.out
      obtain ⟨⟨d0, d1, d2, d3⟩, ⟨k0, k1, k2, k3⟩, _⟩ := blk4_facts hz
      have hZ := blk_set (blk_set (blk_set (blk_set hz 0 (.int .i64 k)) 1 (.int .u32 (id : Int))) 2 (.slice AP lp.length cp)) 3 (.string ⟨C.toArray⟩)
      have gS : Fr [w.heap.size] wr ((((wr.setCell ⟨w.heap.size, 0, none⟩ (.int .i64 k)).setCell ⟨w.heap.size, 1, none⟩ (.int .u32 (id : Int))).setCell ⟨w.heap.size, 2, none⟩ (.slice AP lp.length cp)).setCell ⟨w.heap.size, 3, none⟩ (.string ⟨C.toArray⟩)) := ((((Fr.refl _ _).setCell (Or.inr (by simp)) _).setCell (Or.inr (by simp)) _).setCell (Or.inr (by simp)) _).setCell (Or.inr (by simp)) _
      have hvn : View ((((wr.setCell ⟨w.heap.size, 0, none⟩ (.int .i64 k)).setCell ⟨w.heap.size, 1, none⟩ (.int .u32 (id : Int))).setCell ⟨w.heap.size, 2, none⟩ (.slice AP lp.length cp)).setCell ⟨w.heap.size, 3, none⟩ (.string ⟨C.toArray⟩)) (.slice AP lp.length cp) lp.length (lp.flatMap prE) := HVj.out.fr gS (by intro q hq e; have := hlow.out q hq; simp at e; omega)
      have HVn := Lib.hid hvn
      have HFn := Lib.hid (HFj.out.trans gS (by intro x hx e; simp at e; omega))
      have HZn := Lib.hid hZ
      clear hZ gS hvn hz
      go_wp2
      generalize (((wr.setCell ⟨w.heap.size, 0, none⟩ (.int .i64 k)).setCell ⟨w.heap.size, 1, none⟩ (.int .u32 (id : Int))).setCell ⟨w.heap.size, 2, none⟩ (.slice AP lp.length cp)).setCell ⟨w.heap.size, 3, none⟩ (.string ⟨C.toArray⟩) = W5 at *
      clear d0 d1 d2 d3 k0 k1 k2 k3
      refine bodyPost_ret (res_cell2 Try.results29 _ _ w.heap.size [.int .i64 k, .int .u32 (id : Int), .slice AP lp.length cp, .string ⟨C.toArray⟩] _ (.int .i64 0) (by first | kernel_rfl | rfl) (by first | kernel_rfl | rfl) (range_blk HZn.out rfl) Try.underlying59 rfl (by kernel_rfl)) rfl ?_
      rw [HR2.out]
      exact ⟨_, rfl, HVn.out, HFn.out⟩
end Go.Proofs.Ythioageiebchlaa
