/- What package subscribe reads as an answer. Conditions: strings that may be. -/
import Derived.Test.YthioageiebchlaaSuB
namespace Go.Proofs.Ythioageiebchlaa
open Go.RowKit
set_option linter.unusedVariables false
set_option linter.unusedSimpArgs false

def SaTo (R : Sa × Int) (w : World) (e : Ending) (w' : World) : Prop :=
  ∃ v, e = .returned (.tuple #[.agg (saC R.1 v).toArray, .int .i64 R.2]) ∧ View w' v R.1.props.length (R.1.props.flatMap prE) ∧ Fr [] w w'
theorem fail_twice (r : Rd) : (r.fail 2).fail 2 = r.fail 2 := by
  unfold Rd.fail
  split
  · rename_i h; rw [if_neg (by show ¬ (2 : Int) = 0; decide)]
  · rfl
theorem saMay_step (k : Int) (C : List UInt8) (r : Rd) (j : Nat) (h : j < C.length) : saMay k (C.take (j + 1), r) = if mayC k (C[j]).toNat = true then saMay k (C.take j, r) else (saMay k (C.take j, r)).fail 2 := by
  unfold saMay
  dsimp only
  rw [List.take_succ_eq_append_getElem h, List.all_append]
  by_cases ha : ((C.take j).all fun c => mayC k c.toNat) = true
  · by_cases hb : mayC k (C[j]).toNat = true <;> simp [ha, hb]
  · by_cases hb : mayC k (C[j]).toNat = true
    · simp [ha, hb]
    · rw [if_neg (by simp [hb]), if_neg hb, if_neg ha, fail_twice]
theorem sa_one4 (A : Option Addr) (n m : Nat) (k i : Int) (s : ByteArray) : ((#[.int .i64 k, .int .u32 i, .slice A n m, .string s] : Array Value).all fun x => x.oneCell') = true := by
  simp; exact ⟨rfl, rfl, rfl, rfl⟩
set_option maxRecDepth 100000 in
set_option maxHeartbeats 8000000 in
theorem saparse_any (k : Int) (s : List UInt8) (w : World) (hs : s.length ≤ 1000000) :
    Calls Try.prog 28 #[.int .i64 k, .string ⟨s.toArray⟩] w (SaTo (saParse k s) w) := by
  have F0 : Fr [] w (w.alloc (.cells #[.int .i64 0, .int .u32 0, .slice none 0 0, .string ⟨#[]⟩] 45)) := (Fr.refl _ _).alloc _
  have hb0 := blk_new w (.cells #[.int .i64 0, .int .u32 0, .slice none 0 0, .string ⟨#[]⟩] 45)
  by_cases hk : k ≠ 9 ∧ k ≠ 11
  · have HR : Hid (saParse k s = (noSa, 5)) := Lib.hid (if_pos hk)
    have k9 : (k != 9) = true := by simpa using hk.1
    have k11 : (k != 11) = true := by simpa using hk.2
    clear hk hb0
    go_enter Try.func28, Try.ntmps28
    go_wp2
    refine bodyPost_ret (v := .tuple #[.agg #[.int .i64 0, .int .u32 0, .slice none 0 0, .string ⟨#[]⟩], .int .i64 5]) (by simp [results, Try.results28, go_sem]) rfl ?_
    rw [HR.out]
    exact ⟨.slice none 0 0, rfl, View.nil _, F0⟩
  have HR : Hid (saParse k s = if (saMay k (saRest k s)).ends = 0 then (⟨k, (beginR k s).id, (beginR k s).props, (saRest k s).1⟩, 0) else (noSa, (saMay k (saRest k s)).ends)) := Lib.hid (if_neg hk)
  have HS : Hid (saRest k s = (beginR k s).r.raw (beginR k s).r.s.length) := Lib.hid rfl
  have hbg := begin_left k s
  obtain ⟨bt, hbt⟩ : ∃ bt : Bool, bt = decide (k ≠ 9) := ⟨_, rfl⟩
  have k9 : (k != 9) = bt := by rw [hbt]; by_cases h : k = 9 <;> simp [h]
  have k11 : bt = true → (k != 11) = false := by
    intro h; rw [hbt] at h
    have : k ≠ 9 := of_decide_eq_true h
    have : k = 11 := by omega
    simp [this]
  clear hk hbt
  go_enter Try.func28, Try.ntmps28
  go_upto_region 1 with (fail)
  obtain ⟨y, hy⟩ : ∃ y, w.alloc (.cells #[.int .i64 0, .int .u32 0, .slice none 0 0, .string ⟨#[]⟩] 45) = y := ⟨_, rfl⟩
  rw [hy] at hb0 F0 ⊢
  clear hy
  have HB0 := Lib.hid hb0
  have HF0 := Lib.hid F0
  have hyl := blk_lt hb0
  clear hb0 F0
  go_cut [18] (fun v18 wx => v18 = .bool false ∧ y = wx)
  case first =>
    cases bt
    · go_wp2
      go_meet
      exact ⟨rfl, rfl⟩
    · have k12 := k11 rfl
      clear k11
      go_wp2
      go_meet
      exact ⟨rfl, rfl⟩
  case rest =>
  obtain ⟨rfl, hwc⟩ := hcut
  rw [← hwc]
  clear hwc k9 k11
  clear wc
  go_wp2_with fail
  refine (pbegin_any k s _ hs).mono ?_
  rintro _ w1 ⟨v, b, rfl, h1, own1, hb1, g1⟩
  generalize beginR k s = BG at *
  obtain ⟨id, lp, r0⟩ := BG
  dsimp only at HR HS hbg h1 own1 ⊢
  obtain ⟨AP, cp, rfl⟩ := own_shape own1
  have hwb : w.heap.size < b := by omega
  have hz1 := g1.blk HB0.out (by simp)
  have F1 := HF0.out.trans g1 (by simp)
  clear g1 HB0 HF0
  go_wp2_with fail
  refine (rest_any b r0 _ h1 (by omega)).mono ?_
  rintro _ w2 ⟨rfl, h2, g2⟩
  have own2 := own_fr g2 own1 (by intro q hq e; simp at e; subst e; exact own_ne own1 h1 (by decide) hq)
  have hz2 := g2.blk hz1 (by simp; omega)
  have F2 := F1.trans g2 (by intro x hx e; simp at e; omega)
  have hcl : (saRest k s).1.length ≤ s.length := by rw [HS.out]; exact Nat.le_trans (Rd.raw_le _ _) hbg
  rw [← HS.out] at h2 ⊢
  generalize saRest k s = T at *
  obtain ⟨C, q2⟩ := T
  dsimp only at h2 hcl HR ⊢
  have hcv := fun (s : ByteArray) (W : World) => Lib.run_convert_string_bytes (P := Try.prog) W 9 31 5 s Try.underlying9 Try.underlying31 Try.underlying5
  have HZ := Lib.hid (blk_old hz2 (.cells #[.int .i64 k, .int .u32 (id : Int), .slice AP lp.length cp, .string ⟨C.toArray⟩] 45))
  have HA := Lib.hid (blk_new w2 (.cells #[.int .i64 k, .int .u32 (id : Int), .slice AP lp.length cp, .string ⟨C.toArray⟩] 45))
  have HI := Lib.hid (h2.fr (S := []) ((Fr.refl [] w2).alloc (.cells #[.int .i64 k, .int .u32 (id : Int), .slice AP lp.length cp, .string ⟨C.toArray⟩] 45)) (by simp))
  have HO := Lib.hid (own_fr ((Fr.refl [] w2).alloc (.cells #[.int .i64 k, .int .u32 (id : Int), .slice AP lp.length cp, .string ⟨C.toArray⟩] 45)) own2 (by simp))
  have HF := Lib.hid (F2.alloc (.cells #[.int .i64 k, .int .u32 (id : Int), .slice AP lp.length cp, .string ⟨C.toArray⟩] 45))
  have hbA := blk_lt h2
  have hwA := F2.size
  clear h1 own1 hb1 hz1 F1 h2 g2 own2 hz2 F2 HS
  go_upto_region 5 with (fail)
  obtain ⟨A, hA⟩ : ∃ A, w2.heap.size = A := ⟨_, rfl⟩
  obtain ⟨y2, hy2⟩ : ∃ y2, w2.alloc (.cells #[.int .i64 k, .int .u32 (id : Int), .slice AP lp.length cp, .string ⟨C.toArray⟩] 45) = y2 := ⟨_, rfl⟩
  rw [hA] at HA hbA hwA ⊢
  rw [hy2] at HZ HA HI HO HF ⊢
  clear hA hy2
  obtain ⟨⟨e0, e1, e2, e3⟩, _, hAl⟩ := blk4_facts HA.out
  go_wp2
  obtain ⟨y3, hy3⟩ : ∃ y3, Lib.bytesWorld y2 5 ⟨C.toArray⟩ = y3 := ⟨_, rfl⟩
  rw [hy3]
  have hc : ∀ j, j < C.length → y3.cell? ⟨y2.heap.size, j, none⟩ = some (.int .u8 ((C.getD j 0).toNat : Int)) := by
    intro j hj
    rw [← hy3]; exact Lib.bytesWorld_cell _ _ _ _ hj
  have HC := Lib.hid hc
  have g3 : Fr [] y2 y3 := by rw [← hy3]; exact ⟨rfl, rfl, rfl, by rw [Lib.bytesWorld_size]; omega, fun i hi _ => Lib.bytesWorld_at_old _ _ _ i hi⟩
  have hbs : b < y2.heap.size := by omega
  have hI3 := HI.out.fr g3 (by simp)
  have HZ3 := Lib.hid (g3.blk HZ.out (by simp))
  have HA3 := Lib.hid (g3.blk HA.out (by simp))
  have HO3 := Lib.hid (own_fr g3 HO.out (by simp))
  have HI3 := Lib.hid hI3
  have HF3 := Lib.hid (HF.out.trans g3 (by simp))
  have hM0 : saMay k (C.take 0, q2) = q2 := by rw [List.take_zero]; rfl
  have HM0 := Lib.hid hM0
  clear hc hy3 hcv g3 hI3 HZ HA HI HO HF e0 e1 e2 e3 hM0
  generalize y2.heap.size = D at *
  go_loopw [37] (fun i wr => ∃ j : Nat, i = .int .i64 j ∧ j ≤ C.length ∧ InAt wr b (saMay k (C.take j, q2)) ∧ Fr [b] y3 wr) (fun i _ => C.length - (intOf i).toNat)
  case atStart => exact ⟨0, rfl, by omega, by rw [HM0.out]; exact HI3.out, Fr.refl _ _⟩
  case round =>
    obtain ⟨j, rfl, hj, hi, g4⟩ := hrel
    have HI := Lib.hid hi
    have G4 := Lib.hid g4
    clear hi g4 HM0
    by_cases hlt : j < C.length
    · have hcj := G4.out.cell (HC.out j hlt) (by simp; omega)
      rw [show C.getD j 0 = C[j] from by simp [List.getD, List.getElem?_eq_getElem hlt]] at hcj
      have HST := Lib.hid (saMay_step k C q2 j hlt)
      generalize saMay k (C.take j, q2) = rj at *
      generalize (C[j]).toNat = c at *
      obtain ⟨m, hm⟩ : ∃ m, mayC k c = m := ⟨_, rfl⟩
      rw [hm] at HST
      have HM := Lib.hid hm
      clear hm
      go_wp2_with fail
      refine (pmayr_any k c _).mono ?_
      rintro _ _ ⟨rfl, rfl⟩
      rw [HM.out]
      cases m
      · rw [if_neg (by decide)] at HST
        go_wp2_with fail
        refine (fail_any _ _ 2 _ HI.out).mono ?_
        rintro _ y5 ⟨rfl, i5, g5⟩
        go_wp2
        go_roundw
        case rel => exact ⟨j + 1, by go_num, by omega, by rw [HST.out]; exact i5, G4.out.trans g5 (by simp)⟩
        case measure => simp [intOf]; omega
      · rw [if_pos rfl] at HST
        go_wp2
        go_roundw
        case rel => exact ⟨j + 1, by go_num, by omega, by rw [HST.out]; exact HI.out, G4.out⟩
        case measure => simp [intOf]; omega
    · obtain rfl : j = C.length := by omega
      rw [List.take_length] at HI
      have HZ := Lib.hid (G4.out.blk HZ3.out (by simp; omega))
      have HA := Lib.hid (G4.out.blk HA3.out (by simp; omega))
      have HO := Lib.hid (own_fr G4.out HO3.out (by intro q hq e; simp at e; subst e; exact own_ne HO3.out HI3.out (by decide) hq))
      have HF := Lib.hid (HF3.out.trans G4.out (by intro x hx e; simp at e; omega))
      generalize saMay k (C, q2) = re at *
      clear G4 HZ3 HA3 HO3 HF3 HC HI3
      go_wp2_with fail
      refine (end_any _ _ _ HI.out).mono ?_
      rintro _ _ ⟨rfl, rfl⟩
      generalize re.ends = E at *
      by_cases hE : E = 0
      · have E0 : (E != 0) = false := by simpa using hE
        rw [if_pos hE] at HR
        clear hE
        go_upto_region 14 with (fail)
        refine wp_region_lit ?_
        refine wpList_load_mid rfl 45 _ rfl A 0 (by rfl) [.int .i64 k, .int .u32 (id : Int), .slice AP lp.length cp, .string ⟨C.toArray⟩] _ (range_blk HA.out rfl) Try.underlying45 rfl (by kernel_rfl) ?_
        refine wpList_store_row rfl 45 _ _ rfl w.heap.size #[.int .i64 k, .int .u32 (id : Int), .slice AP lp.length cp, .string ⟨C.toArray⟩] (by rfl) (by rfl) _ _ HZ.out (by kernel_rfl) rfl (sa_one4 _ _ _ _ _ _) ?_
        have HY := Lib.hid (setRow_heap _ _ _ #[.int .i64 k, .int .u32 (id : Int), .slice AP lp.length cp, .string ⟨C.toArray⟩] _ _ HZ.out)
        have FZ := Lib.hid (fr_row HF.out (g := w.heap.size) (Or.inl (Nat.le_refl _)) #[.int .i64 k, .int .u32 (id : Int), .slice AP lp.length cp, .string ⟨C.toArray⟩])
        have VP := Lib.hid ((own_view HO.out).fr (fr_row (Fr.refl [w.heap.size] _) (g := w.heap.size) (Or.inr (by simp)) #[.int .i64 k, .int .u32 (id : Int), .slice AP lp.length cp, .string ⟨C.toArray⟩]) (by intro k hk e; simp at e; subst e; exact own_ne HO.out HZ.out (by decide) hk))
        go_wp2
        generalize World.setRow _ w.heap.size #[.int .i64 k, .int .u32 (id : Int), .slice AP lp.length cp, .string ⟨C.toArray⟩] = W5 at *
        refine bodyPost_ret (res_cell2 Try.results28 _ _ w.heap.size [.int .i64 k, .int .u32 (id : Int), .slice AP lp.length cp, .string ⟨C.toArray⟩] _ (.int .i64 0) (by first | kernel_rfl | rfl) (by first | kernel_rfl | rfl) (range_blk HY.out rfl) Try.underlying45 rfl (by kernel_rfl)) rfl ?_
        rw [HR.out]
        exact ⟨_, rfl, VP.out, FZ.out⟩
      · have E0 : (E != 0) = true := by simpa using hE
        rw [if_neg hE] at HR
        clear hE
        go_upto_region 13 with (fail)
        refine wp_region_lit ?_
        refine wpList_build rfl _ _ rfl (by kernel_rfl) ?_
        refine wpList_mv rfl _ rfl ?_
        refine wpList_store_row rfl 45 _ _ rfl w.heap.size #[.int .i64 0, .int .u32 0, .slice none 0 0, .string ⟨#[]⟩] (by rfl) (by kernel_rfl) _ _ HZ.out (by kernel_rfl) rfl (by kernel_rfl) ?_
        have HY := Lib.hid (setRow_heap _ _ _ #[.int .i64 0, .int .u32 0, .slice none 0 0, .string ⟨#[]⟩] _ _ HZ.out)
        have FZ := Lib.hid (fr_row HF.out (g := w.heap.size) (Or.inl (Nat.le_refl _)) #[.int .i64 0, .int .u32 0, .slice none 0 0, .string ⟨#[]⟩])
        go_wp2
        generalize World.setRow _ w.heap.size #[.int .i64 0, .int .u32 0, .slice none 0 0, .string ⟨#[]⟩] = W5 at *
        refine bodyPost_ret (res_cell2 Try.results28 _ _ w.heap.size [.int .i64 0, .int .u32 0, .slice none 0 0, .string ⟨#[]⟩] _ (.int .i64 E) (by first | kernel_rfl | rfl) (by first | kernel_rfl | rfl) (range_blk HY.out rfl) Try.underlying45 rfl (by kernel_rfl)) rfl ?_
        rw [HR.out]
        exact ⟨_, rfl, View.nil _, FZ.out⟩
end Go.Proofs.Ythioageiebchlaa
