/- The walk of the law ConnectReads; what the reference reads as a connack; Same of the reference (texts ConX and ConU pasted: a claim has at most 60 files). Conditions: as told at each. -/
import Derived.Test.YtlhkgalmiajinaaConE
import Derived.Test.YtlhkgalmiajinaaPlainE
import Derived.Test.YtlhkgalmiajinaaPubT
import Derived.Test.YtlhkgalmiajinaaDrawn
import Derived.Test.YtlhkgalmiajinaaStep
import Derived.Test.YtlhkgalmiajinaaRes
import Derived.Test.YtlhkgalmiajinaaConT
import Derived.Test.YtlhkgalmiajinaaConAwake
import Derived.Test.YtlhkgalmiajinaaConS
import Derived.Test.YtlhkgalmiajinaaLaw
namespace Go.Proofs.Ytlhkgalmiajinaa
open Go.RowKit
set_option linter.unusedVariables false
set_option linter.unusedSimpArgs false

def AkB (w : World) (p : Bool) (C : Nat) (b : Value) (y : World) : Prop :=
  ∃ B, b = .pointer (some ⟨B, 0, none⟩) ∧ y.heap[B]? = some (.cells #[.bool p, .int .u8 (C : Int), .slice none 0 0] 69 (0, 0)) ∧ y.heap[w.heap.size]? = some (.cells #[.bool false, .int .u8 0, .slice none 0 0] 69 (0, 0)) ∧ w.heap.size < B ∧ Fr [] w y
theorem rtakep6k_any (r : Rd) (kind : Int) (isWill : Bool) (w : World) (hs : r.s.length ≤ 1000000) :
    Calls Try.prog 81 #[.agg #[.string ⟨r.s.toArray⟩, .int .i64 r.e], .int .i64 kind, .bool isWill] w fun e w' => ∃ v', e = .returned (.tuple #[.agg #[.string ⟨(takeP r kind isWill).2.s.toArray⟩, .int .i64 (takeP r kind isWill).2.e], v']) ∧ View w' v' (takeP r kind isWill).1.length ((takeP r kind isWill).1.flatMap prE) ∧ (∀ k, v'.ownBlock = some k → w.heap.size ≤ k) ∧ Fr [] w w' := by
  refine (rprops_any r kind isWill w hs).mono ?_
  rintro _ w' ⟨v', rfl, own, g⟩
  exact ⟨v', rfl, own_view own, own_low own, g⟩
theorem str_at0 (f c : UInt8) (t : List UInt8) : ({ data := (f :: c :: t).toArray } : ByteArray).data.toList = f :: c :: t := rfl
set_option maxRecDepth 100000 in
set_option maxHeartbeats 4000000 in
theorem rckparse_any (s : List UInt8) (w : World) (hs : s.length ≤ 1000000) :
    Calls Try.prog 44 #[.string ⟨s.toArray⟩] w (CkTo (ckParse s) w) := by
  have F0 : Fr [] w (w.alloc (.cells #[.bool false, .int .u8 0, .slice none 0 0] 69)) := (Fr.refl _ _).alloc _
  have hb0 := blk_new w (.cells #[.bool false, .int .u8 0, .slice none 0 0] 69)
  by_cases hlen : s.length < 2
  · have HR := Lib.hid (ck_short s hlen)
    go_enter Try.func44, Try.ntmps44
    go_upto_region 2 with (fail)
    obtain ⟨y, hy⟩ : ∃ y, w.alloc (.cells #[.bool false, .int .u8 0, .slice none 0 0] 69) = y := ⟨_, rfl⟩
    rw [hy] at hb0 F0 ⊢
    clear hy
    refine wp_region_lit ?_
    refine wpList_build rfl _ _ rfl (by kernel_rfl) ?_
    refine wpList_store_row rfl 69 _ _ rfl w.heap.size #[.bool false, .int .u8 0, .slice none 0 0] (by rfl) (by kernel_rfl) _ _ hb0 (by kernel_rfl) rfl (by kernel_rfl) ?_
    have HZ := Lib.hid (setRow_heap _ _ _ #[.bool false, .int .u8 0, .slice none 0 0] _ _ hb0)
    have FZ := Lib.hid (fr_row F0 (g := w.heap.size) (Or.inl (Nat.le_refl _)) #[.bool false, .int .u8 0, .slice none 0 0])
    go_wp2
    generalize y.setRow w.heap.size #[.bool false, .int .u8 0, .slice none 0 0] = W5 at *
    refine bodyPost_ret (res_cell2 Try.results44 _ _ w.heap.size [.bool false, .int .u8 0, .slice none 0 0] _ (.int .i64 (2)) (by first | kernel_rfl | rfl) (by first | kernel_rfl | rfl) (range_blk HZ.out rfl) Try.underlying69 rfl (by kernel_rfl)) rfl ?_
    rw [HR.out]
    exact ⟨.slice none 0 0, rfl, View.nil _, FZ.out⟩
  · obtain ⟨f, c, t, hse⟩ : ∃ f c t, s = f :: c :: t := by
      match s, hlen with
      | [], h => exact absurd (by simp) h
      | [_], h => exact absurd (by simp) h
      | f :: c :: t, _ => exact ⟨f, c, t, rfl⟩
    have HR := ck_two f c t
    rw [← hse] at HR
    have x0 : ({ data := s.toArray } : ByteArray)[0]'(by show 0 < s.length; omega) = f := by subst hse; rfl
    have x1 : ({ data := s.toArray } : ByteArray)[1]'(by show 1 < s.length; omega) = c := by subst hse; rfl
    have xd : s.drop 2 = t := by subst hse; rfl
    have hf := f.toNat_lt
    have hc := c.toNat_lt
    replace HR := Lib.hid HR
    have l0 : decide ((s.length : Int) < 2) = false := by simp; omega
    have l1 : (0 : Int) < (s.length : Int) := by omega
    have l2 : (1 : Int) < (s.length : Int) := by omega
    have l3 : 0 < s.length := by omega
    have l4 : 1 < s.length := by omega
    have HX := Lib.hid xd
    clear hse xd
    obtain ⟨F, hF⟩ : ∃ F : Nat, f.toNat = F := ⟨_, rfl⟩
    obtain ⟨C, hC⟩ : ∃ C : Nat, c.toNat = C := ⟨_, rfl⟩
    rw [hF] at HR hf
    rw [hC] at HR hc
    obtain ⟨b1, fb⟩ : ∃ b, decide (1 < (F : Int)) = b := ⟨_, rfl⟩
    obtain ⟨m, fm⟩ : ∃ b, mayC 2 C = b := ⟨_, rfl⟩
    obtain ⟨bad, hbad⟩ : ∃ b, (b1 || !m) = b := ⟨_, rfl⟩
    go_enter Try.func44, Try.ntmps44
    go_upto_region 1 with (fail)
    obtain ⟨y, hy⟩ : ∃ y, w.alloc (.cells #[.bool false, .int .u8 0, .slice none 0 0] 69) = y := ⟨_, rfl⟩
    rw [hy] at hb0 F0 ⊢
    clear hy
    have HB0 := Lib.hid hb0
    have HF0 := Lib.hid F0
    have HBD := Lib.hid hbad
    have HFM := Lib.hid fm
    clear hb0 F0 hbad fm
    go_cut [21] (fun v21 wx => v21 = .bool bad ∧ Fr [] y wx)
    case first =>
      cases b1
      · go_wp2_with fail
        refine (rmayr_any 2 C (by omega) _).mono ?_
        rintro _ x5 ⟨rfl, g1⟩
        rw [HFM.out]
        go_wp2_with fail
        go_meet
        exact ⟨by rw [← HBD.out]; rfl, g1⟩
      · go_wp2_with fail
        go_meet
        exact ⟨by rw [← HBD.out]; rfl, Fr.refl _ _⟩
    case rest =>
      obtain ⟨rfl, G⟩ := hcut
      have HBz := Lib.hid (G.blk HB0.out (by simp))
      have HFz := Lib.hid (HF0.out.trans G (by simp))
      generalize wc = z at *
      clear HB0 HF0 G
      obtain ⟨p, fp⟩ : ∃ b, ((F : Int) == 1) = b := ⟨_, rfl⟩
      have HFP := Lib.hid (show decide (F = 1) = p by
        rw [← fp]
        by_cases h : F = 1
        · subst h; rfl
        · have : ¬ (F : Int) = 1 := by omega
          simp [h, this])
      have HB1 := Lib.hid (show bad = decide (1 < F ∨ mayC 2 C = false) by
        rw [← HBD.out, ← fb, HFM.out]
        have hn : (1 : Int) < F ↔ 1 < F := by omega
        cases m <;> simp [hn])
      clear fb HBD HFM
      cases bad
      case true =>
        have HR1 := Lib.hid (show ckParse s = (noCk, 2) by rw [HR.out, if_pos (by simpa using HB1.out.symm)])
        clear HR
        go_upto_region 2 with (fail)
        refine wp_region_lit ?_
        refine wpList_build rfl _ _ rfl (by kernel_rfl) ?_
        refine wpList_store_row rfl 69 _ _ rfl w.heap.size #[.bool false, .int .u8 0, .slice none 0 0] (by rfl) (by kernel_rfl) _ _ HBz.out (by kernel_rfl) rfl (by kernel_rfl) ?_
        have HZ := Lib.hid (setRow_heap _ _ _ #[.bool false, .int .u8 0, .slice none 0 0] _ _ HBz.out)
        have FZ := Lib.hid (fr_row HFz.out (g := w.heap.size) (Or.inl (Nat.le_refl _)) #[.bool false, .int .u8 0, .slice none 0 0])
        go_wp2
        generalize z.setRow w.heap.size #[.bool false, .int .u8 0, .slice none 0 0] = W5 at *
        refine bodyPost_ret (res_cell2 Try.results44 _ _ w.heap.size [.bool false, .int .u8 0, .slice none 0 0] _ (.int .i64 (2)) (by first | kernel_rfl | rfl) (by first | kernel_rfl | rfl) (range_blk HZ.out rfl) Try.underlying69 rfl (by kernel_rfl)) rfl ?_
        rw [HR1.out]
        exact ⟨.slice none 0 0, rfl, View.nil _, FZ.out⟩
      case false =>
        have hnb : ¬ (1 < F ∨ mayC 2 C = false) := by simpa using HB1.out.symm
        have HR1 := HR.out
        rw [if_neg hnb] at HR1
        replace HR1 := Lib.hid HR1
        clear HR HB1 hnb
        go_upto_region 3 with (fail)
        go_cut [4] (fun v4 wx => AkB w p C v4 wx)
        case first =>
          refine wp_region_late [] (S := fun _ => True) (by kernel_rfl) trivial (fun hHeld => ?_)
          have fd := (Fr.refl [] z).drew
          obtain ⟨wd, hwd⟩ : ∃ wd, z.drew = wd := ⟨_, rfl⟩
          rw [hwd] at fd ⊢
          clear hwd
          refine wpLate_take (i := 0) (oi := _) (v := ?_) rfl (by kernel_rfl) (by kernel_rfl) (by kernel_rfl) (by kernel_rfl) (fun _ _ _ h => h) (Gives.load (by rfl) ?_) hHeld ?_
          rotate_left
          · intro w hSw
            (try dsimp only at hSw)
            go_simp
            try with_reducible rfl
          try simp only [Act.put, List.getElem_toArray, List.getElem_cons_succ, List.getElem_cons_zero, List.setIfInBounds_toArray, List.set_cons_zero, List.set_cons_succ]
          refine wpLate_take (i := 1) (oi := _) (v := ?_) rfl (by kernel_rfl) (by kernel_rfl) (by kernel_rfl) (by kernel_rfl) (fun _ _ _ h => h) (Gives.load (by rfl) ?_) hHeld ?_
          rotate_left
          · intro w hSw
            (try dsimp only at hSw)
            go_simp
            try with_reducible rfl
          try simp only [Act.put, List.getElem_toArray, List.getElem_cons_succ, List.getElem_cons_zero, List.setIfInBounds_toArray, List.set_cons_zero, List.set_cons_succ]
          refine wpLate_take (i := 2) (oi := _) (v := ?_) rfl (by kernel_rfl) (by kernel_rfl) (by kernel_rfl) (by kernel_rfl) (fun _ _ _ h => h) (Gives.load (by rfl) ?_) hHeld ?_
          rotate_left
          · intro w hSw
            (try dsimp only at hSw)
            go_simp
            try with_reducible rfl
          try simp only [Act.put, List.getElem_toArray, List.getElem_cons_succ, List.getElem_cons_zero, List.setIfInBounds_toArray, List.set_cons_zero, List.set_cons_succ]
          refine wpLate_take (i := 3) (oi := _) (v := ?_) rfl (by kernel_rfl) (by kernel_rfl) (by kernel_rfl) (by kernel_rfl) (fun _ _ _ h => h) (Gives.load (by rfl) ?_) hHeld ?_
          rotate_left
          · intro w hSw
            (try dsimp only at hSw)
            go_simp
            try with_reducible rfl
          try simp only [Act.put, List.getElem_toArray, List.getElem_cons_succ, List.getElem_cons_zero, List.setIfInBounds_toArray, List.set_cons_zero, List.set_cons_succ]
          refine wpLate_take (i := 4) (oi := _) (v := ?_) rfl (by kernel_rfl) (by kernel_rfl) (by kernel_rfl) (by kernel_rfl) (fun _ _ _ h => h) (Gives.load (by rfl) ?_) hHeld ?_
          rotate_left
          · intro w hSw
            (try dsimp only at hSw)
            go_simp
            try with_reducible rfl
          try simp only [Act.put, List.getElem_toArray, List.getElem_cons_succ, List.getElem_cons_zero, List.setIfInBounds_toArray, List.set_cons_zero, List.set_cons_succ]
          refine wpLate_take (i := 5) (oi := _) (v := ?_) rfl (by kernel_rfl) (by kernel_rfl) (by kernel_rfl) (by kernel_rfl) (fun _ _ _ h => h) (Gives.load (by rfl) ?_) hHeld ?_
          rotate_left
          · intro w hSw
            (try dsimp only at hSw)
            go_simp
            try with_reducible rfl
          try simp only [Act.put, List.getElem_toArray, List.getElem_cons_succ, List.getElem_cons_zero, List.setIfInBounds_toArray, List.set_cons_zero, List.set_cons_succ]
          refine wpLate_ready (rs := [6]) (by kernel_rfl) (by simp) ?_
          refine AllLate.cons (o := _) rfl (fun K hK => ?_) (by exact AllLate.nil)
          go_simp
          refine hK.out _ _ (fun _ => trivial) (fun hHeld => ?_)
          replace hHeld := hHeld (by kernel_rfl)
          clear hK K
          try simp only [Act.put, List.getElem_toArray, List.getElem_cons_succ, List.getElem_cons_zero, List.setIfInBounds_toArray, List.set_cons_zero, List.set_cons_succ]
          refine wpLate_ready (rs := [7]) (by kernel_rfl) (by simp) ?_
          refine AllLate.cons (o := _) rfl (fun K hK => ?_) (by exact AllLate.nil)
          refine step_store_row rfl 69 _ _ rfl wd.heap.size #[.bool p, .int .u8 (C : Int), .slice none 0 0] (by rfl) (by rfl) _ _ (blk_new wd _) (by kernel_rfl) rfl (by simp; exact ⟨rfl, rfl, rfl⟩) ?_
          refine hK.out _ _ (fun _ => trivial) (fun hHeld => ?_)
          replace hHeld := hHeld (by kernel_rfl)
          clear hK K
          try simp only [Act.put, List.getElem_toArray, List.getElem_cons_succ, List.getElem_cons_zero, List.setIfInBounds_toArray, List.set_cons_zero, List.set_cons_succ]
          refine wpLate_done (by kernel_rfl) ?_ _
          go_wp2_with fail
          go_meet
          have hz := blk_lt HBz.out
          have hs1 := fd.size
          exact ⟨wd.heap.size, rfl, setRow_heap _ _ _ _ _ _ (blk_new wd _), (fr_row ((fd.alloc _)) (g := wd.heap.size) (Or.inl hs1) _).blk HBz.out (by simp), by omega, fr_row ((HFz.out.trans fd (by simp)).alloc _) (g := wd.heap.size) (Or.inl (by have := HFz.out.size; omega)) _⟩
        case rest =>
          obtain ⟨B, rfl, hB, hA, hBl, G⟩ := hcut
          generalize wc = z2 at *
          go_wp2_with fail
          have hxt : ({ data := s.toArray } : ByteArray).extract 2 s.length = ⟨t.toArray⟩ := by rw [ex_drop s 2 _ (Nat.le_refl _), HX.out]
          rw [hxt]
          have htl : t.length ≤ 1000000 := by rw [← HX.out, List.length_drop]; omega
          refine (rtakep6k_any ⟨t, 0⟩ 2 false _ htl).mono ?_
          rintro _ x6 ⟨v', rfl, vv, vk, g6⟩
          generalize takeP ⟨t, 0⟩ 2 false = T at *
          obtain ⟨l, rb⟩ := T
          dsimp only at vv HR1 ⊢
          obtain ⟨AV, cv, rfl⟩ := view_shape vv
          have hB1 := blk_old (g6.blk hB (by simp)) (.cells #[.string ⟨rb.s.toArray⟩, .int .i64 rb.e] 125)
          have hA1 := blk_old (g6.blk hA (by simp)) (.cells #[.string ⟨rb.s.toArray⟩, .int .i64 rb.e] 125)
          have hc1 := blk_new x6 (.cells #[.string ⟨rb.s.toArray⟩, .int .i64 rb.e] 125)
          have G1 := (G.trans g6 (by simp)).alloc (.cells #[.string ⟨rb.s.toArray⟩, .int .i64 rb.e] 125)
          have V1 := vv.old ((Fr.refl [] x6).alloc (.cells #[.string ⟨rb.s.toArray⟩, .int .i64 rb.e] 125)) (by simp)
          have hz2 := blk_lt hB
          have hx6 := g6.size
          have hlow := Lib.hid (fun k hk => Nat.lt_of_lt_of_le hz2 (vk k hk) : ∀ k, (Value.slice AV l.length cv).ownBlock = some k → B < k)
          clear hB hA G g6 vv
          go_upto_region 5 with (fail)
          obtain ⟨E, hE⟩ : ∃ E, x6.heap.size = E := ⟨_, rfl⟩
          obtain ⟨y5, hy5⟩ : ∃ y5, x6.alloc (.cells #[.string ⟨rb.s.toArray⟩, .int .i64 rb.e] 125) = y5 := ⟨_, rfl⟩
          rw [hE] at hc1 ⊢
          rw [hy5] at hB1 hA1 hc1 G1 V1 ⊢
          clear hy5
          have hBE : ¬ (B = E) := by omega
          have hEB : ¬ (E = B) := by omega
          obtain ⟨⟨e0, e1, e2⟩, ⟨k0, k1, k2⟩, _⟩ := blk3_facts hB1
          obtain ⟨c0, c1, _, _, _⟩ := blk2_facts hc1
          have gs : Fr [B] y5 (y5.setCell ⟨B, 2, none⟩ (.slice AV l.length cv)) := (Fr.refl _ _).setCell (Or.inr (by simp)) _
          have hB2 : (y5.setCell ⟨B, 2, none⟩ (.slice AV l.length cv)).heap[B]? = some (.cells #[.bool p, .int .u8 (C : Int), .slice AV l.length cv] 69 (0, 0)) := blk_set hB1 2 _
          have hA2 := gs.blk hA1 (by simp; omega)
          have hc2 := gs.blk hc1 (by simp; omega)
          have G2 := G1.trans gs (by intro x hx e; simp at e; omega)
          have V2 := V1.fr gs (fun k hk e => by have := vk k hk; simp at e; omega)
          clear hB1 hA1 hc1 G1 V1 gs
          go_upto_region 6 with (fail)
          obtain ⟨y6, hy6⟩ : ∃ y6, y5.setCell ⟨B, 2, none⟩ (.slice AV l.length cv) = y6 := ⟨_, rfl⟩
          rw [hy6] at hB2 hA2 hc2 G2 V2 ⊢
          clear hy6 e0 e1 e2 k0 k1 k2 c0 c1
          have HB2 := Lib.hid hB2
          have HA2 := Lib.hid hA2
          have HC2 := Lib.hid hc2
          have HG2 := Lib.hid G2
          have HV2 := Lib.hid V2
          obtain ⟨⟨e0, e1, e2⟩, _, _⟩ := blk3_facts hB2
          obtain ⟨c0, c1, _, _, _⟩ := blk2_facts hc2
          clear hB2 hA2 hc2 G2 V2 vk
          obtain ⟨be, fe⟩ : ∃ b, (rb.e == 0) = b := ⟨_, rfl⟩
          obtain ⟨cz, fc⟩ : ∃ b, ((C : Int) != 0) = b := ⟨_, rfl⟩
          obtain ⟨bp, hbp⟩ : ∃ b, ((be && p) && cz) = b := ⟨_, rfl⟩
          have HBP := Lib.hid hbp
          have HPP := Lib.hid (show (rb.e = 0 ∧ F = 1 ∧ C ≠ 0) ↔ bp = true by
            rw [← hbp, ← fe, ← fc, ← HFP.out]
            simp [and_assoc])
          clear hbp fp
          go_cut [49] (fun v49 wx => v49 = .bool bp ∧ y6 = wx)
          case first =>
            cases be <;> cases p <;> cases cz
            all_goals
              go_wp2
              go_meet
              exact ⟨by rw [← HBP.out]; rfl, rfl⟩
          case rest =>
            obtain ⟨rfl, rfl⟩ := hcut
            clear fe fc HBP
            cases bp
            case true =>
              have HR2 := Lib.hid (show ckParse s = (noCk, 3) by rw [HR1.out, if_pos (HPP.out.2 rfl)])
              clear HR1 HPP
              go_upto_region 7 with (fail)
              refine wp_region_lit ?_
              refine wpList_build rfl _ _ rfl (by kernel_rfl) ?_
              refine wpList_store_row rfl 69 _ _ rfl w.heap.size #[.bool false, .int .u8 0, .slice none 0 0] (by rfl) (by kernel_rfl) _ _ HA2.out (by kernel_rfl) rfl (by kernel_rfl) ?_
              clear e0 e1 e2 c0 c1
              have HZ := Lib.hid (setRow_heap _ _ _ #[.bool false, .int .u8 0, .slice none 0 0] _ _ HA2.out)
              have FZ := Lib.hid (fr_row HG2.out (g := w.heap.size) (Or.inl (Nat.le_refl _)) #[.bool false, .int .u8 0, .slice none 0 0])
              go_wp2
              generalize y6.setRow w.heap.size #[.bool false, .int .u8 0, .slice none 0 0] = W5 at *
              refine bodyPost_ret (res_cell2 Try.results44 _ _ w.heap.size [.bool false, .int .u8 0, .slice none 0 0] _ (.int .i64 (3)) (by first | kernel_rfl | rfl) (by first | kernel_rfl | rfl) (range_blk HZ.out rfl) Try.underlying69 rfl (by kernel_rfl)) rfl ?_
              rw [HR2.out]
              exact ⟨.slice none 0 0, rfl, View.nil _, FZ.out⟩
            case false =>
              have hnp : ¬ (rb.e = 0 ∧ F = 1 ∧ C ≠ 0) := fun q => by have := HPP.out.1 q; cases this
              have HR2 := HR1.out
              rw [if_neg hnp, HFP.out] at HR2
              replace HR2 := Lib.hid HR2
              clear HR1 HPP hnp
              go_wp2_with fail
              refine (end6_any rb.s rb.e _).mono ?_
              rintro _ x9 ⟨rfl, g9⟩
              rw [show Rd.ends ⟨rb.s, rb.e⟩ = rb.ends from rfl]
              have HB3 := Lib.hid (g9.blk HB2.out (by simp))
              have HA3 := Lib.hid (g9.blk HA2.out (by simp))
              have HC3 := Lib.hid (g9.blk HC2.out (by simp))
              have HG3 := Lib.hid (HG2.out.trans g9 (by simp))
              have HV3 := Lib.hid (HV2.out.old g9 (by simp))
              clear HB2 HA2 HC2 HG2 HV2 g9 e0 e1 e2 c0 c1
              obtain ⟨EE, hEE⟩ : ∃ EE, rb.ends = EE := ⟨_, rfl⟩
              rw [hEE] at HR2 ⊢
              by_cases hE0 : EE = 0
              · have E0 : (EE != 0) = false := by simpa using hE0
                rw [if_pos hE0] at HR2
                clear hE0 hEE
                have HZ := Lib.hid (setRow_heap _ _ _ #[.bool p, .int .u8 (C : Int), .slice AV l.length cv] _ _ HA3.out)
                have FZ := Lib.hid (fr_row HG3.out (g := w.heap.size) (Or.inl (Nat.le_refl _)) #[.bool p, .int .u8 (C : Int), .slice AV l.length cv])
                go_upto_region 10 with (fail)
                refine wp_region_lit ?_
                refine wpList_load_mid rfl 69 _ rfl B 0 (by rfl) [.bool p, .int .u8 (C : Int), .slice AV l.length cv] _ (range_blk HB3.out rfl) Try.underlying69 rfl (by kernel_rfl) ?_
                refine wpList_store_row rfl 69 _ _ rfl w.heap.size #[.bool p, .int .u8 (C : Int), .slice AV l.length cv] (by rfl) (by rfl) _ _ HA3.out (by kernel_rfl) rfl (by simp; exact ⟨rfl, rfl, rfl⟩) ?_
                have VZ := Lib.hid (HV3.out.fr (fr_row (Fr.refl [w.heap.size] x9) (g := w.heap.size) (Or.inr (by simp)) #[.bool p, .int .u8 (C : Int), .slice AV l.length cv]) (fun k hk e => by have := hlow.out k hk; simp at e; omega))
                go_wp2
                generalize x9.setRow w.heap.size #[.bool p, .int .u8 (C : Int), .slice AV l.length cv] = W5 at *
                refine bodyPost_ret (res_cell2 Try.results44 _ _ w.heap.size [.bool p, .int .u8 (C : Int), .slice AV l.length cv] _ (.int .i64 0) (by first | kernel_rfl | rfl) (by first | kernel_rfl | rfl) (range_blk HZ.out rfl) Try.underlying69 rfl (by kernel_rfl)) rfl ?_
                rw [HR2.out]
                exact ⟨_, rfl, VZ.out, FZ.out⟩
              · have E0 : (EE != 0) = true := by simpa using hE0
                rw [if_neg hE0] at HR2
                clear hE0
                go_upto_region 9 with (fail)
                refine wp_region_lit ?_
                refine wpList_build rfl _ _ rfl (by kernel_rfl) ?_
                refine wpList_load_mid rfl 125 _ rfl E 0 (by rfl) [.string ⟨rb.s.toArray⟩, .int .i64 rb.e] _ (range_blk HC3.out rfl) Try.underlying125 rfl (by kernel_rfl) ?_
                refine wpList_plain rfl fun K hK => ?_
                go_wp2_with fail
                refine (end6_any rb.s rb.e _).mono ?_
                rintro _ x10 ⟨rfl, g10⟩
                rw [show Rd.ends ⟨rb.s, rb.e⟩ = rb.ends from rfl, hEE]
                refine hK _ _ ?_
                have HA4 := Lib.hid (HA3.out)
                have hA5 := g10.blk HA3.out (by simp)
                refine wpList_store_row rfl 69 _ _ rfl w.heap.size #[.bool false, .int .u8 0, .slice none 0 0] (by rfl) (by rfl) _ _ hA5 (by kernel_rfl) rfl (by kernel_rfl) ?_
                have HZ := Lib.hid (setRow_heap _ _ _ #[.bool false, .int .u8 0, .slice none 0 0] _ _ hA5)
                have FZ := Lib.hid (fr_row (HG3.out.trans g10 (by simp)) (g := w.heap.size) (Or.inl (Nat.le_refl _)) #[.bool false, .int .u8 0, .slice none 0 0])
                go_wp2
                generalize x10.setRow w.heap.size #[.bool false, .int .u8 0, .slice none 0 0] = W5 at *
                refine bodyPost_ret (res_cell2 Try.results44 _ _ w.heap.size [.bool false, .int .u8 0, .slice none 0 0] _ (.int .i64 (EE)) (by first | kernel_rfl | rfl) (by first | kernel_rfl | rfl) (range_blk HZ.out rfl) Try.underlying69 rfl (by kernel_rfl)) rfl ?_
                rw [HR2.out]
                exact ⟨.slice none 0 0, rfl, View.nil _, FZ.out⟩
end Go.Proofs.Ytlhkgalmiajinaa
namespace Go.Proofs.Ytlhkgalmiajinaa
open Go.RowKit
set_option linter.unusedVariables false
set_option linter.unusedSimpArgs false

set_option maxRecDepth 100000 in
set_option maxHeartbeats 4000000 in
theorem rsame6_any (c : Cn) (v u v' u' : Value) (w : World) (hv : View w v c.props.length (c.props.flatMap prE)) (hu : View w u c.wp.length (c.wp.flatMap prE)) (hv' : View w v' c.props.length (c.props.flatMap prE)) (hu' : View w u' c.wp.length (c.wp.flatMap prE)) (hl : c.props.length ≤ 1000000) (hl2 : c.wp.length ≤ 1000000) :
    Calls Try.prog 29 #[.agg (cnC c v u).toArray, .agg (cnC c v' u').toArray] w fun e w' => e = .returned (.bool true) ∧ Fr [] w w' := by
  obtain ⟨clean, keep, props, id, hasWill, wp, topic, pay, qos, ret, hasUser, hasPass, user, pass⟩ := c
  dsimp only at hv hu hv' hu' hl hl2
  have HV := Lib.hid hv
  have HU := Lib.hid hu
  have HV' := Lib.hid hv'
  have HU' := Lib.hid hu'
  obtain ⟨A0, n0, rfl⟩ := view_shape hv
  obtain ⟨A1, n1, rfl⟩ := view_shape hu
  obtain ⟨A2, n2, rfl⟩ := view_shape hv'
  obtain ⟨A3, n3, rfl⟩ := view_shape hu'
  have ha0 := blk_old (blk_new w (.cells (cnC ⟨clean, keep, props, id, hasWill, wp, topic, pay, qos, ret, hasUser, hasPass, user, pass⟩ (.slice A0 props.length n0) (.slice A1 wp.length n1)).toArray 57)) (.cells (cnC ⟨clean, keep, props, id, hasWill, wp, topic, pay, qos, ret, hasUser, hasPass, user, pass⟩ (.slice A2 props.length n2) (.slice A3 wp.length n3)).toArray 57)
  have hb0 := blk_at1 w (.cells (cnC ⟨clean, keep, props, id, hasWill, wp, topic, pay, qos, ret, hasUser, hasPass, user, pass⟩ (.slice A0 props.length n0) (.slice A1 wp.length n1)).toArray 57) (.cells (cnC ⟨clean, keep, props, id, hasWill, wp, topic, pay, qos, ret, hasUser, hasPass, user, pass⟩ (.slice A2 props.length n2) (.slice A3 wp.length n3)).toArray 57)
  have F0 : Fr [] w ((w.alloc (.cells (cnC ⟨clean, keep, props, id, hasWill, wp, topic, pay, qos, ret, hasUser, hasPass, user, pass⟩ (.slice A0 props.length n0) (.slice A1 wp.length n1)).toArray 57)).alloc (.cells (cnC ⟨clean, keep, props, id, hasWill, wp, topic, pay, qos, ret, hasUser, hasPass, user, pass⟩ (.slice A2 props.length n2) (.slice A3 wp.length n3)).toArray 57)) := ((Fr.refl _ _).alloc _).alloc _
  unfold cnC at ha0 hb0 F0 ⊢
  clear hv hu hv' hu'
  go_enter Try.func29, Try.ntmps29
  go_wp2_with fail
  refine (same6_any _ _ props _ (HV.out.old F0 (by simp)) (HV'.out.old F0 (by simp)) (by omega)).mono ?_
  rintro _ x1 ⟨rfl, g1⟩
  have ha1 := g1.blk ha0 (by simp)
  have hb1 := g1.blk hb0 (by simp)
  have F1 := Lib.hid (F0.trans g1 (by simp))
  clear ha0 hb0 F0 g1
  have HA1 := Lib.hid ha1
  have HB1 := Lib.hid hb1
  obtain ⟨⟨e0, e1, e2, e3, e4, e5, e6, e7, e8, e9, e10, e11, e12, e13⟩, _, _⟩ := blk14n_facts ha1
  obtain ⟨⟨d0, d1, d2, d3, d4, d5, d6, d7, d8, d9, d10, d11, d12, d13⟩, ⟨g0_, g1_, g2_, g3_, g4_, g5_, g6_, g7_, g8_, g9_, g10_, g11_, g12_, g13_⟩, hdl_⟩ := blk14n_facts (hb1)
  clear ha1 hb1
  go_wp2_with fail
  refine (same6_any _ _ wp _ (HU.out.old F1.out (by simp)) (HU'.out.old F1.out (by simp)) (by omega)).mono ?_
  rintro _ x2 ⟨rfl, g2⟩
  have ha2 := g2.blk HA1.out (by simp)
  have hb2 := g2.blk HB1.out (by simp)
  have F2 := Lib.hid (F1.out.trans g2 (by simp))
  clear HA1 HB1 F1 g2
  clear e0 e1 e2 e3 e4 e5 e6 e7 e8 e9 e10 e11 e12 e13
  clear d0 d1 d2 d3 d4 d5 d6 d7 d8 d9 d10 d11 d12 d13 g0_ g1_ g2_ g3_ g4_ g5_ g6_ g7_ g8_ g9_ g10_ g11_ g12_ g13_ hdl_
  obtain ⟨⟨e0, e1, e2, e3, e4, e5, e6, e7, e8, e9, e10, e11, e12, e13⟩, _, _⟩ := blk14n_facts ha2
  obtain ⟨⟨d0, d1, d2, d3, d4, d5, d6, d7, d8, d9, d10, d11, d12, d13⟩, ⟨g0_, g1_, g2_, g3_, g4_, g5_, g6_, g7_, g8_, g9_, g10_, g11_, g12_, g13_⟩, hdl_⟩ := blk14n_facts (hb2)
  clear ha2 hb2
  go_wp2
  go_ret
  exact ⟨rfl, F2.out⟩
end Go.Proofs.Ytlhkgalmiajinaa
namespace Go.Proofs.Ytlhkgalmiajinaa
open Go.RowKit
set_option linter.unusedVariables false
set_option linter.unusedSimpArgs false

set_option maxRecDepth 100000 in
set_option maxHeartbeats 8000000 in
theorem connectReads_walk (a0 : ByteArray) (w0 : a0.size ≤ maxLen) (w : World) :
    Calls Try.prog 10 #[.string a0] w fun e w' => e = .returned (.bool true) ∧ Fr [] w w' := by
  obtain ⟨s, rfl, hs⟩ := str_list a0
  rw [← hs] at w0
  unfold maxLen at w0
  clear hs
  go_enter Try.func10, Try.ntmps10
  go_wp2_with fail
  refine (cut_any s 250 w (by omega) (by decide)).mono ?_
  rintro _ _ ⟨rfl, rfl⟩
  have hk : (s.take 250).length ≤ 250 := List.length_take_le _ _
  rw [show (250 : Int).toNat = 250 from rfl]
  generalize s.take 250 = s at *
  have HCB := Lib.hid (cnParse_b s (by omega))
  have HKB := Lib.hid (ckParse_b s (by omega))
  have hP1 := Lib.hid (cnparse_any s w (by omega))
  have hP2 := Lib.hid (fun y => rcnparse_any s y (by omega))
  have hP3 := Lib.hid (fun y => ckparse_any s y (by omega))
  have hP4 := Lib.hid (fun y => rckparse_any s y (by omega))
  obtain ⟨⟨⟨clean, keep, props, id, hasWill, wp, topic, pay, qos, ret, hasUser, hasPass, user, pass⟩, E1⟩, hP⟩ : ∃ x, cnParse s = x := ⟨_, rfl⟩
  rw [hP] at HCB hP1
  simp only [hP] at hP2
  clear hP
  obtain ⟨⟨⟨pr, cd, ll⟩, E2⟩, hP⟩ : ∃ x, ckParse s = x := ⟨_, rfl⟩
  rw [hP] at HKB
  simp only [hP] at hP3 hP4
  clear hP
  go_wp2_with fail
  refine hP1.out.mono ?_
  rintro _ y1 ⟨v1, u1, rfl, V1, U1, f1⟩
  obtain ⟨A1, n1, rfl⟩ := view_shape V1
  obtain ⟨A2, n2, rfl⟩ := view_shape U1
  dsimp only at V1 U1
  unfold cnC
  dsimp only
  have g1 : Fr [] y1 (y1.alloc (.cells #[.bool clean, .int .u32 (keep : Int), .slice A1 props.length n1, .string ⟨id.toArray⟩, .bool hasWill, .slice A2 wp.length n2, .string ⟨topic.toArray⟩, .string ⟨pay.toArray⟩, .int .u8 (qos : Int), .bool ret, .bool hasUser, .bool hasPass, .string ⟨user.toArray⟩, .string ⟨pass.toArray⟩] 48)) := (Fr.refl _ _).alloc _
  have hb1 := blk_new y1 (.cells #[.bool clean, .int .u32 (keep : Int), .slice A1 props.length n1, .string ⟨id.toArray⟩, .bool hasWill, .slice A2 wp.length n2, .string ⟨topic.toArray⟩, .string ⟨pay.toArray⟩, .int .u8 (qos : Int), .bool ret, .bool hasUser, .bool hasPass, .string ⟨user.toArray⟩, .string ⟨pass.toArray⟩] 48)
  go_wp2_with fail
  refine (hP2.out _).mono ?_
  rintro _ y2 ⟨v2, u2, rfl, V2, U2, f2⟩
  obtain ⟨A3, n3, rfl⟩ := view_shape V2
  obtain ⟨A4, n4, rfl⟩ := view_shape U2
  dsimp only at V2 U2
  unfold cnC
  dsimp only
  have g2 : Fr [] y2 (y2.alloc (.cells #[.bool clean, .int .u32 (keep : Int), .slice A3 props.length n3, .string ⟨id.toArray⟩, .bool hasWill, .slice A4 wp.length n4, .string ⟨topic.toArray⟩, .string ⟨pay.toArray⟩, .int .u8 (qos : Int), .bool ret, .bool hasUser, .bool hasPass, .string ⟨user.toArray⟩, .string ⟨pass.toArray⟩] 57)) := (Fr.refl _ _).alloc _
  have hb2 := blk_new y2 (.cells #[.bool clean, .int .u32 (keep : Int), .slice A3 props.length n3, .string ⟨id.toArray⟩, .bool hasWill, .slice A4 wp.length n4, .string ⟨topic.toArray⟩, .string ⟨pay.toArray⟩, .int .u8 (qos : Int), .bool ret, .bool hasUser, .bool hasPass, .string ⟨user.toArray⟩, .string ⟨pass.toArray⟩] 57)
  go_wp2_with fail
  refine (hP3.out _).mono ?_
  rintro _ y3 ⟨v3, rfl, V3, f3⟩
  obtain ⟨A5, n5, rfl⟩ := view_shape V3
  dsimp only at V3
  unfold ckC
  dsimp only
  have g3 : Fr [] y3 (y3.alloc (.cells #[.bool pr, .int .u8 (cd : Int), .slice A5 ll.length n5] 64)) := (Fr.refl _ _).alloc _
  have hb3 := blk_new y3 (.cells #[.bool pr, .int .u8 (cd : Int), .slice A5 ll.length n5] 64)
  go_wp2_with fail
  refine (hP4.out _).mono ?_
  rintro _ y4 ⟨v4, rfl, V4, f4⟩
  obtain ⟨A6, n6, rfl⟩ := view_shape V4
  dsimp only at V4
  unfold ckC
  dsimp only
  have g4 : Fr [] y4 (y4.alloc (.cells #[.bool pr, .int .u8 (cd : Int), .slice A6 ll.length n6] 69)) := (Fr.refl _ _).alloc _
  have hb4 := blk_new y4 (.cells #[.bool pr, .int .u8 (cd : Int), .slice A6 ll.length n6] 69)
  have h34 := f4.trans g4 (by simp)
  have h3 := g3.trans h34 (by simp)
  have h23 := f3.trans h3 (by simp)
  have h2 := g2.trans h23 (by simp)
  have h12 := f2.trans h2 (by simp)
  have h1 := g1.trans h12 (by simp)
  have hb1 := h12.blk hb1 (by simp)
  have hb2 := h23.blk hb2 (by simp)
  have hb3 := h34.blk hb3 (by simp)
  have V1 := V1.old h1 (by simp)
  have U1 := U1.old h1 (by simp)
  have V2 := V2.old h2 (by simp)
  have U2 := U2.old h2 (by simp)
  have V3 := V3.old h3 (by simp)
  have V4 := V4.old g4 (by simp)
  have FZ := f1.trans h1 (by simp)
  go_upto_region 6 with (fail)
  obtain ⟨b1, e1⟩ : ∃ b, y1.heap.size = b := ⟨_, rfl⟩
  obtain ⟨b2, e2⟩ : ∃ b, y2.heap.size = b := ⟨_, rfl⟩
  obtain ⟨b3, e3⟩ : ∃ b, y3.heap.size = b := ⟨_, rfl⟩
  obtain ⟨b4, e4⟩ : ∃ b, y4.heap.size = b := ⟨_, rfl⟩
  obtain ⟨z, hz⟩ : ∃ z, y4.alloc (.cells #[.bool pr, .int .u8 (cd : Int), .slice A6 ll.length n6] 69) = z := ⟨_, rfl⟩
  rw [hz] at hb1 hb2 hb3 hb4 V1 U1 V2 U2 V3 V4 FZ ⊢
  rw [e1] at hb1 ⊢
  rw [e2] at hb2 ⊢
  rw [e3] at hb3 ⊢
  rw [e4] at hb4 ⊢
  clear hz e1 e2 e3 e4 g1 g2 g3 g4 f1 f2 f3 f4 h34 h3 h23 h2 h12 h1 hP1 hP2 hP3 hP4
  have fd := (Fr.refl [] z).drew
  obtain ⟨wd, hwd⟩ : ∃ wd, z.drew = wd := ⟨_, rfl⟩
  have hS : (fun w' => (w'.cell? ⟨b1, 0, none⟩ = some (.bool clean) ∧ w'.cell? ⟨b1, 1, none⟩ = some (.int .u32 (keep : Int)) ∧ w'.cell? ⟨b1, 2, none⟩ = some (.slice A1 props.length n1) ∧ w'.cell? ⟨b1, 3, none⟩ = some (.string ⟨id.toArray⟩) ∧ w'.cell? ⟨b1, 4, none⟩ = some (.bool hasWill) ∧ w'.cell? ⟨b1, 5, none⟩ = some (.slice A2 wp.length n2) ∧ w'.cell? ⟨b1, 6, none⟩ = some (.string ⟨topic.toArray⟩) ∧ w'.cell? ⟨b1, 7, none⟩ = some (.string ⟨pay.toArray⟩) ∧ w'.cell? ⟨b1, 8, none⟩ = some (.int .u8 (qos : Int)) ∧ w'.cell? ⟨b1, 9, none⟩ = some (.bool ret) ∧ w'.cell? ⟨b1, 10, none⟩ = some (.bool hasUser) ∧ w'.cell? ⟨b1, 11, none⟩ = some (.bool hasPass) ∧ w'.cell? ⟨b1, 12, none⟩ = some (.string ⟨user.toArray⟩) ∧ w'.cell? ⟨b1, 13, none⟩ = some (.string ⟨pass.toArray⟩)) ∧ (w'.cell? ⟨b2, 0, none⟩ = some (.bool clean) ∧ w'.cell? ⟨b2, 1, none⟩ = some (.int .u32 (keep : Int)) ∧ w'.cell? ⟨b2, 2, none⟩ = some (.slice A3 props.length n3) ∧ w'.cell? ⟨b2, 3, none⟩ = some (.string ⟨id.toArray⟩) ∧ w'.cell? ⟨b2, 4, none⟩ = some (.bool hasWill) ∧ w'.cell? ⟨b2, 5, none⟩ = some (.slice A4 wp.length n4) ∧ w'.cell? ⟨b2, 6, none⟩ = some (.string ⟨topic.toArray⟩) ∧ w'.cell? ⟨b2, 7, none⟩ = some (.string ⟨pay.toArray⟩) ∧ w'.cell? ⟨b2, 8, none⟩ = some (.int .u8 (qos : Int)) ∧ w'.cell? ⟨b2, 9, none⟩ = some (.bool ret) ∧ w'.cell? ⟨b2, 10, none⟩ = some (.bool hasUser) ∧ w'.cell? ⟨b2, 11, none⟩ = some (.bool hasPass) ∧ w'.cell? ⟨b2, 12, none⟩ = some (.string ⟨user.toArray⟩) ∧ w'.cell? ⟨b2, 13, none⟩ = some (.string ⟨pass.toArray⟩)) ∧ (w'.cell? ⟨b3, 0, none⟩ = some (.bool pr) ∧ w'.cell? ⟨b3, 1, none⟩ = some (.int .u8 (cd : Int)) ∧ w'.cell? ⟨b3, 2, none⟩ = some (.slice A5 ll.length n5)) ∧ (w'.cell? ⟨b4, 0, none⟩ = some (.bool pr) ∧ w'.cell? ⟨b4, 1, none⟩ = some (.int .u8 (cd : Int)) ∧ w'.cell? ⟨b4, 2, none⟩ = some (.slice A6 ll.length n6))) z := ⟨(blk14n_facts hb1).1, (blk14n_facts hb2).1, (blk3_facts hb3).1, (blk3_facts hb4).1⟩
  refine wp_region_late [] (S := (fun w' => (w'.cell? ⟨b1, 0, none⟩ = some (.bool clean) ∧ w'.cell? ⟨b1, 1, none⟩ = some (.int .u32 (keep : Int)) ∧ w'.cell? ⟨b1, 2, none⟩ = some (.slice A1 props.length n1) ∧ w'.cell? ⟨b1, 3, none⟩ = some (.string ⟨id.toArray⟩) ∧ w'.cell? ⟨b1, 4, none⟩ = some (.bool hasWill) ∧ w'.cell? ⟨b1, 5, none⟩ = some (.slice A2 wp.length n2) ∧ w'.cell? ⟨b1, 6, none⟩ = some (.string ⟨topic.toArray⟩) ∧ w'.cell? ⟨b1, 7, none⟩ = some (.string ⟨pay.toArray⟩) ∧ w'.cell? ⟨b1, 8, none⟩ = some (.int .u8 (qos : Int)) ∧ w'.cell? ⟨b1, 9, none⟩ = some (.bool ret) ∧ w'.cell? ⟨b1, 10, none⟩ = some (.bool hasUser) ∧ w'.cell? ⟨b1, 11, none⟩ = some (.bool hasPass) ∧ w'.cell? ⟨b1, 12, none⟩ = some (.string ⟨user.toArray⟩) ∧ w'.cell? ⟨b1, 13, none⟩ = some (.string ⟨pass.toArray⟩)) ∧ (w'.cell? ⟨b2, 0, none⟩ = some (.bool clean) ∧ w'.cell? ⟨b2, 1, none⟩ = some (.int .u32 (keep : Int)) ∧ w'.cell? ⟨b2, 2, none⟩ = some (.slice A3 props.length n3) ∧ w'.cell? ⟨b2, 3, none⟩ = some (.string ⟨id.toArray⟩) ∧ w'.cell? ⟨b2, 4, none⟩ = some (.bool hasWill) ∧ w'.cell? ⟨b2, 5, none⟩ = some (.slice A4 wp.length n4) ∧ w'.cell? ⟨b2, 6, none⟩ = some (.string ⟨topic.toArray⟩) ∧ w'.cell? ⟨b2, 7, none⟩ = some (.string ⟨pay.toArray⟩) ∧ w'.cell? ⟨b2, 8, none⟩ = some (.int .u8 (qos : Int)) ∧ w'.cell? ⟨b2, 9, none⟩ = some (.bool ret) ∧ w'.cell? ⟨b2, 10, none⟩ = some (.bool hasUser) ∧ w'.cell? ⟨b2, 11, none⟩ = some (.bool hasPass) ∧ w'.cell? ⟨b2, 12, none⟩ = some (.string ⟨user.toArray⟩) ∧ w'.cell? ⟨b2, 13, none⟩ = some (.string ⟨pass.toArray⟩)) ∧ (w'.cell? ⟨b3, 0, none⟩ = some (.bool pr) ∧ w'.cell? ⟨b3, 1, none⟩ = some (.int .u8 (cd : Int)) ∧ w'.cell? ⟨b3, 2, none⟩ = some (.slice A5 ll.length n5)) ∧ (w'.cell? ⟨b4, 0, none⟩ = some (.bool pr) ∧ w'.cell? ⟨b4, 1, none⟩ = some (.int .u8 (cd : Int)) ∧ w'.cell? ⟨b4, 2, none⟩ = some (.slice A6 ll.length n6)))) (by kernel_rfl) hS (fun hHeld => ?_)
  rw [hwd] at hHeld fd ⊢
  have HB1 := Lib.hid (fd.blk hb1 (by simp))
  have HB2 := Lib.hid (fd.blk hb2 (by simp))
  have HB3 := Lib.hid (fd.blk hb3 (by simp))
  have HB4 := Lib.hid (fd.blk hb4 (by simp))
  have HV1 := Lib.hid (V1.old fd (by simp))
  have HU1 := Lib.hid (U1.old fd (by simp))
  have HV2 := Lib.hid (V2.old fd (by simp))
  have HU2 := Lib.hid (U2.old fd (by simp))
  have HV3 := Lib.hid (V3.old fd (by simp))
  have HV4 := Lib.hid (V4.old fd (by simp))
  have HFZ := Lib.hid (FZ.trans fd (by simp))
  have GG := Lib.hid (Fr.refl [] wd)
  clear hS hwd fd hb1 hb2 hb3 hb4 V1 U1 V2 U2 V3 V4 FZ
  refine wpLate_ready (rs := [0]) (by kernel_rfl) (by simp) ?_
  refine AllLate.cons (o := _) rfl (fun K hK => ?_) (by exact AllLate.nil)
  go_simp
  refine (awake6_any _).mono ?_
  rintro _ x0 ⟨rfl, f⟩
  go_wp2_with fail
  have G0 := Lib.hid (GG.out.trans f (by simp))
  clear f GG
  have GG := G0
  clear G0
  refine hK.out _ _ (fun _ => ⟨(blk14n_facts (GG.out.blk HB1.out (by simp))).1, (blk14n_facts (GG.out.blk HB2.out (by simp))).1, (blk3_facts (GG.out.blk HB3.out (by simp))).1, (blk3_facts (GG.out.blk HB4.out (by simp))).1⟩) (fun hHeld => ?_)
  replace hHeld := hHeld (by kernel_rfl)
  clear hK K
  try simp only [Act.put, List.getElem_toArray, List.getElem_cons_succ, List.getElem_cons_zero, List.setIfInBounds_toArray, List.set_cons_zero, List.set_cons_succ]
  refine wpLate_take (i := 1) (oi := _) (v := ?_) rfl (by kernel_rfl) (by kernel_rfl) (by kernel_rfl) (by kernel_rfl) (fun _ _ _ h => h) (Gives.load (by rfl) ?_) hHeld ?_
  rotate_left
  · intro w hSw
    (try dsimp only at hSw)
    go_simp
    try with_reducible rfl
  try simp only [Act.put, List.getElem_toArray, List.getElem_cons_succ, List.getElem_cons_zero, List.setIfInBounds_toArray, List.set_cons_zero, List.set_cons_succ]
  refine wpLate_take (i := 2) (oi := _) (v := ?_) rfl (by kernel_rfl) (by kernel_rfl) (by kernel_rfl) (by kernel_rfl) (fun _ _ _ h => h) (Gives.load (by rfl) ?_) hHeld ?_
  rotate_left
  · intro w hSw
    (try dsimp only at hSw)
    go_simp
    try with_reducible rfl
  try simp only [Act.put, List.getElem_toArray, List.getElem_cons_succ, List.getElem_cons_zero, List.setIfInBounds_toArray, List.set_cons_zero, List.set_cons_succ]
  refine wpLate_take (i := 3) (oi := _) (v := ?_) rfl (by kernel_rfl) (by kernel_rfl) (by kernel_rfl) (by kernel_rfl) (fun _ _ _ h => h) (Gives.load (by rfl) ?_) hHeld ?_
  rotate_left
  · intro w hSw
    (try dsimp only at hSw)
    go_simp
    try with_reducible rfl
  try simp only [Act.put, List.getElem_toArray, List.getElem_cons_succ, List.getElem_cons_zero, List.setIfInBounds_toArray, List.set_cons_zero, List.set_cons_succ]
  refine wpLate_take (i := 4) (oi := _) (v := ?_) rfl (by kernel_rfl) (by kernel_rfl) (by kernel_rfl) (by kernel_rfl) (fun _ _ _ h => h) (Gives.load (by rfl) ?_) hHeld ?_
  rotate_left
  · intro w hSw
    (try dsimp only at hSw)
    go_simp
    try with_reducible rfl
  try simp only [Act.put, List.getElem_toArray, List.getElem_cons_succ, List.getElem_cons_zero, List.setIfInBounds_toArray, List.set_cons_zero, List.set_cons_succ]
  refine wpLate_take (i := 5) (oi := _) (v := ?_) rfl (by kernel_rfl) (by kernel_rfl) (by kernel_rfl) (by kernel_rfl) (fun _ _ _ h => h) (Gives.load (by rfl) ?_) hHeld ?_
  rotate_left
  · intro w hSw
    (try dsimp only at hSw)
    go_simp
    try with_reducible rfl
  try simp only [Act.put, List.getElem_toArray, List.getElem_cons_succ, List.getElem_cons_zero, List.setIfInBounds_toArray, List.set_cons_zero, List.set_cons_succ]
  refine wpLate_take (i := 6) (oi := _) (v := ?_) rfl (by kernel_rfl) (by kernel_rfl) (by kernel_rfl) (by kernel_rfl) (fun _ _ _ h => h) (Gives.load (by rfl) ?_) hHeld ?_
  rotate_left
  · intro w hSw
    (try dsimp only at hSw)
    go_simp
    try with_reducible rfl
  try simp only [Act.put, List.getElem_toArray, List.getElem_cons_succ, List.getElem_cons_zero, List.setIfInBounds_toArray, List.set_cons_zero, List.set_cons_succ]
  refine wpLate_take (i := 7) (oi := _) (v := ?_) rfl (by kernel_rfl) (by kernel_rfl) (by kernel_rfl) (by kernel_rfl) (fun _ _ _ h => h) (Gives.load (by rfl) ?_) hHeld ?_
  rotate_left
  · intro w hSw
    (try dsimp only at hSw)
    go_simp
    try with_reducible rfl
  try simp only [Act.put, List.getElem_toArray, List.getElem_cons_succ, List.getElem_cons_zero, List.setIfInBounds_toArray, List.set_cons_zero, List.set_cons_succ]
  refine wpLate_take (i := 9) (oi := _) (v := ?_) rfl (by kernel_rfl) (by kernel_rfl) (by kernel_rfl) (by kernel_rfl) (fun _ _ _ h => h) (Gives.load (by rfl) ?_) hHeld ?_
  rotate_left
  · intro w hSw
    (try dsimp only at hSw)
    go_simp
    try with_reducible rfl
  try simp only [Act.put, List.getElem_toArray, List.getElem_cons_succ, List.getElem_cons_zero, List.setIfInBounds_toArray, List.set_cons_zero, List.set_cons_succ]
  refine wpLate_ready (rs := [8]) (by kernel_rfl) (by simp) ?_
  refine AllLate.cons (o := _) rfl (fun K hK => ?_) (by exact AllLate.nil)
  go_simp
  refine (told6_any ⟨clean, keep, props, id, hasWill, wp, topic, pay, qos, ret, hasUser, hasPass, user, pass⟩ _ _ _ (HV1.out.old GG.out (by simp)) (HU1.out.old GG.out (by simp)) (Nat.le_trans HCB.out.vl (by decide)) (Nat.le_trans HCB.out.ul (by decide))).mono ?_
  rintro _ x8 ⟨v5, u5, rfl, V5, U5, f, _, _⟩
  obtain ⟨A7, n7, rfl⟩ := view_shape V5
  obtain ⟨A8, n8, rfl⟩ := view_shape U5
  have HV5 := Lib.hid V5
  have HU5 := Lib.hid U5
  clear V5 U5
  unfold cnC
  dsimp only
  go_wp2_with fail
  have G8 := Lib.hid (GG.out.trans f (by simp))
  clear f GG
  have GG := G8
  clear G8
  refine hK.out _ _ (fun _ => ⟨(blk14n_facts (GG.out.blk HB1.out (by simp))).1, (blk14n_facts (GG.out.blk HB2.out (by simp))).1, (blk3_facts (GG.out.blk HB3.out (by simp))).1, (blk3_facts (GG.out.blk HB4.out (by simp))).1⟩) (fun hHeld => ?_)
  replace hHeld := hHeld (by kernel_rfl)
  clear hK K
  try simp only [Act.put, List.getElem_toArray, List.getElem_cons_succ, List.getElem_cons_zero, List.setIfInBounds_toArray, List.set_cons_zero, List.set_cons_succ]
  refine wpLate_ready (rs := [10]) (by kernel_rfl) (by simp) ?_
  refine AllLate.cons (o := _) rfl (fun K hK => ?_) (by exact AllLate.nil)
  go_simp
  refine (rsame6_any ⟨clean, keep, props, id, hasWill, wp, topic, pay, qos, ret, hasUser, hasPass, user, pass⟩ _ _ _ _ _ HV5.out HU5.out (HV2.out.old GG.out (by simp)) (HU2.out.old GG.out (by simp)) (Nat.le_trans HCB.out.vl (by decide)) (Nat.le_trans HCB.out.ul (by decide))).mono ?_
  rintro _ x10 ⟨rfl, f⟩
  go_wp2_with fail
  have G10 := Lib.hid (GG.out.trans f (by simp))
  clear f GG
  have GG := G10
  clear G10
  refine hK.out _ _ (fun _ => ⟨(blk14n_facts (GG.out.blk HB1.out (by simp))).1, (blk14n_facts (GG.out.blk HB2.out (by simp))).1, (blk3_facts (GG.out.blk HB3.out (by simp))).1, (blk3_facts (GG.out.blk HB4.out (by simp))).1⟩) (fun hHeld => ?_)
  replace hHeld := hHeld (by kernel_rfl)
  clear hK K
  try simp only [Act.put, List.getElem_toArray, List.getElem_cons_succ, List.getElem_cons_zero, List.setIfInBounds_toArray, List.set_cons_zero, List.set_cons_succ]
  refine wpLate_take (i := 11) (oi := _) (v := ?_) rfl (by kernel_rfl) (by kernel_rfl) (by kernel_rfl) (by kernel_rfl) (fun _ _ _ h => h) (Gives.load (by rfl) ?_) hHeld ?_
  rotate_left
  · intro w hSw
    (try dsimp only at hSw)
    go_simp
    try with_reducible rfl
  try simp only [Act.put, List.getElem_toArray, List.getElem_cons_succ, List.getElem_cons_zero, List.setIfInBounds_toArray, List.set_cons_zero, List.set_cons_succ]
  refine wpLate_take (i := 12) (oi := _) (v := ?_) rfl (by kernel_rfl) (by kernel_rfl) (by kernel_rfl) (by kernel_rfl) (fun _ _ _ h => h) (Gives.load (by rfl) ?_) hHeld ?_
  rotate_left
  · intro w hSw
    (try dsimp only at hSw)
    go_simp
    try with_reducible rfl
  try simp only [Act.put, List.getElem_toArray, List.getElem_cons_succ, List.getElem_cons_zero, List.setIfInBounds_toArray, List.set_cons_zero, List.set_cons_succ]
  refine wpLate_take (i := 13) (oi := _) (v := ?_) rfl (by kernel_rfl) (by kernel_rfl) (by kernel_rfl) (by kernel_rfl) (fun _ _ _ h => h) (Gives.load (by rfl) ?_) hHeld ?_
  rotate_left
  · intro w hSw
    (try dsimp only at hSw)
    go_simp
    try with_reducible rfl
  try simp only [Act.put, List.getElem_toArray, List.getElem_cons_succ, List.getElem_cons_zero, List.setIfInBounds_toArray, List.set_cons_zero, List.set_cons_succ]
  refine wpLate_take (i := 14) (oi := _) (v := ?_) rfl (by kernel_rfl) (by kernel_rfl) (by kernel_rfl) (by kernel_rfl) (fun _ _ _ h => h) (Gives.load (by rfl) ?_) hHeld ?_
  rotate_left
  · intro w hSw
    (try dsimp only at hSw)
    go_simp
    try with_reducible rfl
  try simp only [Act.put, List.getElem_toArray, List.getElem_cons_succ, List.getElem_cons_zero, List.setIfInBounds_toArray, List.set_cons_zero, List.set_cons_succ]
  refine wpLate_take (i := 15) (oi := _) (v := ?_) rfl (by kernel_rfl) (by kernel_rfl) (by kernel_rfl) (by kernel_rfl) (fun _ _ _ h => h) (Gives.load (by rfl) ?_) hHeld ?_
  rotate_left
  · intro w hSw
    (try dsimp only at hSw)
    go_simp
    try with_reducible rfl
  try simp only [Act.put, List.getElem_toArray, List.getElem_cons_succ, List.getElem_cons_zero, List.setIfInBounds_toArray, List.set_cons_zero, List.set_cons_succ]
  refine wpLate_take (i := 16) (oi := _) (v := ?_) rfl (by kernel_rfl) (by kernel_rfl) (by kernel_rfl) (by kernel_rfl) (fun _ _ _ h => h) (Gives.load (by rfl) ?_) hHeld ?_
  rotate_left
  · intro w hSw
    (try dsimp only at hSw)
    go_simp
    try with_reducible rfl
  try simp only [Act.put, List.getElem_toArray, List.getElem_cons_succ, List.getElem_cons_zero, List.setIfInBounds_toArray, List.set_cons_zero, List.set_cons_succ]
  refine wpLate_take (i := 17) (oi := _) (v := ?_) rfl (by kernel_rfl) (by kernel_rfl) (by kernel_rfl) (by kernel_rfl) (fun _ _ _ h => h) (Gives.load (by rfl) ?_) hHeld ?_
  rotate_left
  · intro w hSw
    (try dsimp only at hSw)
    go_simp
    try with_reducible rfl
  try simp only [Act.put, List.getElem_toArray, List.getElem_cons_succ, List.getElem_cons_zero, List.setIfInBounds_toArray, List.set_cons_zero, List.set_cons_succ]
  refine wpLate_take (i := 18) (oi := _) (v := ?_) rfl (by kernel_rfl) (by kernel_rfl) (by kernel_rfl) (by kernel_rfl) (fun _ _ _ h => h) (Gives.load (by rfl) ?_) hHeld ?_
  rotate_left
  · intro w hSw
    (try dsimp only at hSw)
    go_simp
    try with_reducible rfl
  try simp only [Act.put, List.getElem_toArray, List.getElem_cons_succ, List.getElem_cons_zero, List.setIfInBounds_toArray, List.set_cons_zero, List.set_cons_succ]
  refine wpLate_take (i := 19) (oi := _) (v := ?_) rfl (by kernel_rfl) (by kernel_rfl) (by kernel_rfl) (by kernel_rfl) (fun _ _ _ h => h) (Gives.load (by rfl) ?_) hHeld ?_
  rotate_left
  · intro w hSw
    (try dsimp only at hSw)
    go_simp
    try with_reducible rfl
  try simp only [Act.put, List.getElem_toArray, List.getElem_cons_succ, List.getElem_cons_zero, List.setIfInBounds_toArray, List.set_cons_zero, List.set_cons_succ]
  refine wpLate_take (i := 20) (oi := _) (v := ?_) rfl (by kernel_rfl) (by kernel_rfl) (by kernel_rfl) (by kernel_rfl) (fun _ _ _ h => h) (Gives.load (by rfl) ?_) hHeld ?_
  rotate_left
  · intro w hSw
    (try dsimp only at hSw)
    go_simp
    try with_reducible rfl
  try simp only [Act.put, List.getElem_toArray, List.getElem_cons_succ, List.getElem_cons_zero, List.setIfInBounds_toArray, List.set_cons_zero, List.set_cons_succ]
  refine wpLate_take (i := 21) (oi := _) (v := ?_) rfl (by kernel_rfl) (by kernel_rfl) (by kernel_rfl) (by kernel_rfl) (fun _ _ _ h => h) (Gives.load (by rfl) ?_) hHeld ?_
  rotate_left
  · intro w hSw
    (try dsimp only at hSw)
    go_simp
    try with_reducible rfl
  try simp only [Act.put, List.getElem_toArray, List.getElem_cons_succ, List.getElem_cons_zero, List.setIfInBounds_toArray, List.set_cons_zero, List.set_cons_succ]
  refine wpLate_take (i := 22) (oi := _) (v := ?_) rfl (by kernel_rfl) (by kernel_rfl) (by kernel_rfl) (by kernel_rfl) (fun _ _ _ h => h) (Gives.load (by rfl) ?_) hHeld ?_
  rotate_left
  · intro w hSw
    (try dsimp only at hSw)
    go_simp
    try with_reducible rfl
  try simp only [Act.put, List.getElem_toArray, List.getElem_cons_succ, List.getElem_cons_zero, List.setIfInBounds_toArray, List.set_cons_zero, List.set_cons_succ]
  refine wpLate_take (i := 23) (oi := _) (v := ?_) rfl (by kernel_rfl) (by kernel_rfl) (by kernel_rfl) (by kernel_rfl) (fun _ _ _ h => h) (Gives.load (by rfl) ?_) hHeld ?_
  rotate_left
  · intro w hSw
    (try dsimp only at hSw)
    go_simp
    try with_reducible rfl
  try simp only [Act.put, List.getElem_toArray, List.getElem_cons_succ, List.getElem_cons_zero, List.setIfInBounds_toArray, List.set_cons_zero, List.set_cons_succ]
  refine wpLate_take (i := 24) (oi := _) (v := ?_) rfl (by kernel_rfl) (by kernel_rfl) (by kernel_rfl) (by kernel_rfl) (fun _ _ _ h => h) (Gives.load (by rfl) ?_) hHeld ?_
  rotate_left
  · intro w hSw
    (try dsimp only at hSw)
    go_simp
    try with_reducible rfl
  try simp only [Act.put, List.getElem_toArray, List.getElem_cons_succ, List.getElem_cons_zero, List.setIfInBounds_toArray, List.set_cons_zero, List.set_cons_succ]
  refine wpLate_take (i := 25) (oi := _) (v := ?_) rfl (by kernel_rfl) (by kernel_rfl) (by kernel_rfl) (by kernel_rfl) (fun _ _ _ h => h) (Gives.load (by rfl) ?_) hHeld ?_
  rotate_left
  · intro w hSw
    (try dsimp only at hSw)
    go_simp
    try with_reducible rfl
  try simp only [Act.put, List.getElem_toArray, List.getElem_cons_succ, List.getElem_cons_zero, List.setIfInBounds_toArray, List.set_cons_zero, List.set_cons_succ]
  refine wpLate_take (i := 26) (oi := _) (v := ?_) rfl (by kernel_rfl) (by kernel_rfl) (by kernel_rfl) (by kernel_rfl) (fun _ _ _ h => h) (Gives.load (by rfl) ?_) hHeld ?_
  rotate_left
  · intro w hSw
    (try dsimp only at hSw)
    go_simp
    try with_reducible rfl
  try simp only [Act.put, List.getElem_toArray, List.getElem_cons_succ, List.getElem_cons_zero, List.setIfInBounds_toArray, List.set_cons_zero, List.set_cons_succ]
  refine wpLate_take (i := 27) (oi := _) (v := ?_) rfl (by kernel_rfl) (by kernel_rfl) (by kernel_rfl) (by kernel_rfl) (fun _ _ _ h => h) (Gives.load (by rfl) ?_) hHeld ?_
  rotate_left
  · intro w hSw
    (try dsimp only at hSw)
    go_simp
    try with_reducible rfl
  try simp only [Act.put, List.getElem_toArray, List.getElem_cons_succ, List.getElem_cons_zero, List.setIfInBounds_toArray, List.set_cons_zero, List.set_cons_succ]
  refine wpLate_take (i := 28) (oi := _) (v := ?_) rfl (by kernel_rfl) (by kernel_rfl) (by kernel_rfl) (by kernel_rfl) (fun _ _ _ h => h) (Gives.load (by rfl) ?_) hHeld ?_
  rotate_left
  · intro w hSw
    (try dsimp only at hSw)
    go_simp
    try with_reducible rfl
  try simp only [Act.put, List.getElem_toArray, List.getElem_cons_succ, List.getElem_cons_zero, List.setIfInBounds_toArray, List.set_cons_zero, List.set_cons_succ]
  refine wpLate_take (i := 29) (oi := _) (v := ?_) rfl (by kernel_rfl) (by kernel_rfl) (by kernel_rfl) (by kernel_rfl) (fun _ _ _ h => h) (Gives.load (by rfl) ?_) hHeld ?_
  rotate_left
  · intro w hSw
    (try dsimp only at hSw)
    go_simp
    try with_reducible rfl
  try simp only [Act.put, List.getElem_toArray, List.getElem_cons_succ, List.getElem_cons_zero, List.setIfInBounds_toArray, List.set_cons_zero, List.set_cons_succ]
  refine wpLate_take (i := 30) (oi := _) (v := ?_) rfl (by kernel_rfl) (by kernel_rfl) (by kernel_rfl) (by kernel_rfl) (fun _ _ _ h => h) (Gives.load (by rfl) ?_) hHeld ?_
  rotate_left
  · intro w hSw
    (try dsimp only at hSw)
    go_simp
    try with_reducible rfl
  try simp only [Act.put, List.getElem_toArray, List.getElem_cons_succ, List.getElem_cons_zero, List.setIfInBounds_toArray, List.set_cons_zero, List.set_cons_succ]
  refine wpLate_take (i := 31) (oi := _) (v := ?_) rfl (by kernel_rfl) (by kernel_rfl) (by kernel_rfl) (by kernel_rfl) (fun _ _ _ h => h) (Gives.load (by rfl) ?_) hHeld ?_
  rotate_left
  · intro w hSw
    (try dsimp only at hSw)
    go_simp
    try with_reducible rfl
  try simp only [Act.put, List.getElem_toArray, List.getElem_cons_succ, List.getElem_cons_zero, List.setIfInBounds_toArray, List.set_cons_zero, List.set_cons_succ]
  refine wpLate_take (i := 32) (oi := _) (v := ?_) rfl (by kernel_rfl) (by kernel_rfl) (by kernel_rfl) (by kernel_rfl) (fun _ _ _ h => h) (Gives.load (by rfl) ?_) hHeld ?_
  rotate_left
  · intro w hSw
    (try dsimp only at hSw)
    go_simp
    try with_reducible rfl
  try simp only [Act.put, List.getElem_toArray, List.getElem_cons_succ, List.getElem_cons_zero, List.setIfInBounds_toArray, List.set_cons_zero, List.set_cons_succ]
  refine wpLate_take (i := 33) (oi := _) (v := ?_) rfl (by kernel_rfl) (by kernel_rfl) (by kernel_rfl) (by kernel_rfl) (fun _ _ _ h => h) (Gives.load (by rfl) ?_) hHeld ?_
  rotate_left
  · intro w hSw
    (try dsimp only at hSw)
    go_simp
    try with_reducible rfl
  try simp only [Act.put, List.getElem_toArray, List.getElem_cons_succ, List.getElem_cons_zero, List.setIfInBounds_toArray, List.set_cons_zero, List.set_cons_succ]
  refine wpLate_take (i := 35) (oi := _) (v := ?_) rfl (by kernel_rfl) (by kernel_rfl) (by kernel_rfl) (by kernel_rfl) (fun _ _ _ h => h) (Gives.load (by rfl) ?_) hHeld ?_
  rotate_left
  · intro w hSw
    (try dsimp only at hSw)
    go_simp
    try with_reducible rfl
  try simp only [Act.put, List.getElem_toArray, List.getElem_cons_succ, List.getElem_cons_zero, List.setIfInBounds_toArray, List.set_cons_zero, List.set_cons_succ]
  refine wpLate_take (i := 36) (oi := _) (v := ?_) rfl (by kernel_rfl) (by kernel_rfl) (by kernel_rfl) (by kernel_rfl) (fun _ _ _ h => h) (Gives.load (by rfl) ?_) hHeld ?_
  rotate_left
  · intro w hSw
    (try dsimp only at hSw)
    go_simp
    try with_reducible rfl
  try simp only [Act.put, List.getElem_toArray, List.getElem_cons_succ, List.getElem_cons_zero, List.setIfInBounds_toArray, List.set_cons_zero, List.set_cons_succ]
  refine wpLate_ready (rs := [34]) (by kernel_rfl) (by simp) ?_
  refine AllLate.cons (o := _) rfl (fun K hK => ?_) (by exact AllLate.nil)
  go_simp
  refine (told_any _ ll _ (HV3.out.old GG.out (by simp)) (Nat.le_trans HKB.out.l (by decide))).mono ?_
  rintro _ x34 ⟨v7, rfl, own7, f⟩
  obtain ⟨A9, n9, rfl⟩ := own_shape own7
  have HV7 := Lib.hid (own_view own7)
  clear own7
  go_wp2_with fail
  have G34 := Lib.hid (GG.out.trans f (by simp))
  clear f GG
  have GG := G34
  clear G34
  refine hK.out _ _ (fun _ => ⟨(blk14n_facts (GG.out.blk HB1.out (by simp))).1, (blk14n_facts (GG.out.blk HB2.out (by simp))).1, (blk3_facts (GG.out.blk HB3.out (by simp))).1, (blk3_facts (GG.out.blk HB4.out (by simp))).1⟩) (fun hHeld => ?_)
  replace hHeld := hHeld (by kernel_rfl)
  clear hK K
  try simp only [Act.put, List.getElem_toArray, List.getElem_cons_succ, List.getElem_cons_zero, List.setIfInBounds_toArray, List.set_cons_zero, List.set_cons_succ]
  refine wpLate_ready (rs := [37]) (by kernel_rfl) (by simp) ?_
  refine AllLate.cons (o := _) rfl (fun K hK => ?_) (by exact AllLate.nil)
  go_simp
  refine (props6_any _ _ ll _ HV7.out (HV4.out.old GG.out (by simp)) (Nat.le_trans HKB.out.l (by decide))).mono ?_
  rintro _ x37 ⟨rfl, f⟩
  go_wp2_with fail
  have G37 := Lib.hid (GG.out.trans f (by simp))
  clear f GG
  have GG := G37
  clear G37
  refine hK.out _ _ (fun _ => ⟨(blk14n_facts (GG.out.blk HB1.out (by simp))).1, (blk14n_facts (GG.out.blk HB2.out (by simp))).1, (blk3_facts (GG.out.blk HB3.out (by simp))).1, (blk3_facts (GG.out.blk HB4.out (by simp))).1⟩) (fun hHeld => ?_)
  replace hHeld := hHeld (by kernel_rfl)
  clear hK K
  try simp only [Act.put, List.getElem_toArray, List.getElem_cons_succ, List.getElem_cons_zero, List.setIfInBounds_toArray, List.set_cons_zero, List.set_cons_succ]
  refine wpLate_take (i := 38) (oi := _) (v := ?_) rfl (by kernel_rfl) (by kernel_rfl) (by kernel_rfl) (by kernel_rfl) (fun _ _ _ h => h) (Gives.load (by rfl) ?_) hHeld ?_
  rotate_left
  · intro w hSw
    (try dsimp only at hSw)
    go_simp
    try with_reducible rfl
  try simp only [Act.put, List.getElem_toArray, List.getElem_cons_succ, List.getElem_cons_zero, List.setIfInBounds_toArray, List.set_cons_zero, List.set_cons_succ]
  refine wpLate_take (i := 39) (oi := _) (v := ?_) rfl (by kernel_rfl) (by kernel_rfl) (by kernel_rfl) (by kernel_rfl) (fun _ _ _ h => h) (Gives.load (by rfl) ?_) hHeld ?_
  rotate_left
  · intro w hSw
    (try dsimp only at hSw)
    go_simp
    try with_reducible rfl
  try simp only [Act.put, List.getElem_toArray, List.getElem_cons_succ, List.getElem_cons_zero, List.setIfInBounds_toArray, List.set_cons_zero, List.set_cons_succ]
  refine wpLate_done (by kernel_rfl) ?_ _
  go_wp2
  go_ret
  exact ⟨rfl, HFZ.out.trans GG.out (by simp)⟩
end Go.Proofs.Ytlhkgalmiajinaa
