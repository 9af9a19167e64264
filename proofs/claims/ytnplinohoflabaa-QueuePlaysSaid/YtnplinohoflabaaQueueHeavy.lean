/- The walk of the law QueueHeavy. -/
import Derived.Test.YtnplinohoflabaaQueH
import Derived.Test.YtnplinohoflabaaQueP
import Derived.Test.YtnplinohoflabaaMsOpen
namespace Go.Proofs.Ytnplinohoflabaa
open Go.RowKit
set_option linter.unusedVariables false
set_option linter.unusedSimpArgs false

/-- A message handed in, cut short. -/
def fewM (x : Ms) (ps : List Pr) (A : Option Addr) (c : Nat) : Ms := ⟨x.fr.take 10, tickN x.at_, x.q, x.rt, A, (fewR ps).length, c, x.tp.take 30, x.py.take 30⟩
theorem MsIn.at {w : World} {v : Value} {f : List (Ms × List Pr)} (h : MsIn w v f) (hl : 0 < f.length) :
    ∃ b off c, v = .slice (some ⟨b, off, none⟩) f.length c ∧ b < w.heap.size ∧ ∀ (i : Nat) (hi : i < f.length) j u, (msC f[i].1)[j]? = some u → w.cell? ⟨b, off + i * 7 + j, none⟩ = some u :=
  View.at (enc := fun p : Ms × List Pr => msC p.1) h.2.1 (fun p => msC_len p.1) (by decide) hl
set_option maxHeartbeats 4000000 in
set_option maxRecDepth 100000 in
theorem queueHeavy_walk (a0 : Int) (x1 : Option Addr) (y1 z1 : Nat) (f1 : List (Ms × List Pr)) (w0 : (Lit.int .i64 a0).wf = true) (W : World) (H1 : MsIn W (.slice x1 y1 z1) f1) :
    Calls Try.prog 3 #[.int .i64 a0, .slice x1 y1 z1] W fun e w' => e = .returned (.bool true) ∧ Fr [] W w' := by
  have hw0 := wf_i64 w0
  clear w0
  by_cases h0 : a0 < 0
  · have hd : decide (a0 < 0) = true := by simpa using h0
    clear h0
    go_enter Try.func3, Try.ntmps3
    go_wp2_with fail
    refine (awake16_any _).mono ?_
    rintro _ w1 ⟨rfl, F1⟩
    go_wp2_with fail
    refine (awake16_any _).mono ?_
    rintro _ w2 ⟨rfl, F2⟩
    go_wp2
    go_ret
    exact ⟨rfl, F1.trans F2 (by simp)⟩
  have hd : decide (a0 < 0) = false := by simpa using h0
  by_cases h20 : 20 < a0
  · have hd2 : decide (20 < a0) = true := by simpa using h20
    clear h0 h20
    go_enter Try.func3, Try.ntmps3
    go_wp2_with fail
    refine (awake16_any _).mono ?_
    rintro _ w1 ⟨rfl, F1⟩
    go_wp2_with fail
    refine (awake16_any _).mono ?_
    rintro _ w2 ⟨rfl, F2⟩
    go_wp2
    go_ret
    exact ⟨rfl, F1.trans F2 (by simp)⟩
  obtain ⟨m, rfl⟩ := Int.eq_ofNat_of_zero_le (show 0 ≤ a0 by omega)
  have hd2 : decide (20 < (m : Int)) = false := by simpa using h20
  have hm20 : m ≤ 20 := by omega
  have hyl : y1 = f1.length := by
    obtain ⟨_, ⟨_, _, he, _⟩, _⟩ := H1
    injection he
  subst hyl
  have hl1 := H1.1
  have HM := Lib.hid H1
  clear H1 hw0 h0 h20
  go_enter Try.func3, Try.ntmps3
  go_wp2_with fail
  refine (awake16_any _).mono ?_
  rintro _ w1 ⟨rfl, F1⟩
  go_wp2_with fail
  refine (qnew_any m w1).mono ?_
  rintro _ w2 ⟨rfl, rfl⟩
  rw [show max (m : Int) 0 = (m : Int) from by omega]
  have hQ : W.heap.size ≤ w1.heap.size := F1.size
  have hq0 : QAt (w1.alloc (.cells #[.slice none 0 0, .int .i64 (m : Int)] 100)) w1.heap.size w1.heap.size (.slice none 0 0) [] m := ⟨blk_new w1 _, World.ownsRow_nil _ _ _ _⟩
  have F2 : Fr [] W (w1.alloc (.cells #[.slice none 0 0, .int .i64 (m : Int)] 100)) := F1.alloc _
  generalize w1.heap.size = Q at *
  generalize w1.alloc (.cells #[.slice none 0 0, .int .i64 (m : Int)] 100) = w2 at *
  clear F1
  go_wp2
  go_loopw [6] (fun i wr => ∃ (k : Nat) (v : Value) (L : List Ms), i = .int .i64 k ∧ k ≤ f1.length ∧ k ≤ 40 ∧ QAt wr Q Q v L m ∧ L.length ≤ m ∧ Q ≤ wr.heap.size ∧ Fr [] W wr) (fun i _ => 40 - (intOf i).toNat)
  case atStart => exact ⟨0, _, [], rfl, by omega, by omega, hq0, by simp, by have := blk_lt hq0.1; omega, F2⟩
  case round =>
    clear hq0 F2
    obtain ⟨k, v, L, rfl, hk, hk40, hq, hL, hQr, hfr⟩ := hrel
    have HF := Lib.hid hfr
    have HQ := Lib.hid hq
    clear hfr hq
    by_cases hlt : k < f1.length
    · by_cases hlt4 : (k : Int) < 40
      · obtain ⟨bb, off, c', hsl, hbb, hc⟩ := HM.out.at (by omega)
        cases hsl
        have hcell := hc k hlt
        have hin := HM.out.2.2 f1[k] (List.getElem_mem hlt)
        generalize f1[k] = p at *
        obtain ⟨x, ps⟩ := p
        dsimp only at hcell hin
        obtain ⟨hv, hpl, hok, hqb, hab, hs1, hs2, hs3⟩ := hin
        have hfew := few12_any x ps wr (hv.fr HF.out (by simp)) hpl (fun y hy => (hok y hy).2) hs1 hs2 hs3
        unfold FewTo12 at hfew
        obtain ⟨fr, at_, qs, rt, A, n, c, tp, py⟩ := x
        have c0 : wr.cell? ⟨bb, off + k * 7, none⟩ = some (.string ⟨fr.toArray⟩) := HF.out.cell (hcell 0 _ rfl) (by simp)
        have c1 : wr.cell? ⟨bb, off + k * 7 + 1, none⟩ = some (.int .i64 at_) := HF.out.cell (hcell 1 _ rfl) (by simp)
        have c2 : wr.cell? ⟨bb, off + k * 7 + 2, none⟩ = some (.int .u8 qs) := HF.out.cell (hcell 2 _ rfl) (by simp)
        have c3 : wr.cell? ⟨bb, off + k * 7 + 3, none⟩ = some (.bool rt) := HF.out.cell (hcell 3 _ rfl) (by simp)
        have c4 : wr.cell? ⟨bb, off + k * 7 + 4, none⟩ = some (.slice A n c) := HF.out.cell (hcell 4 _ rfl) (by simp)
        have c5 : wr.cell? ⟨bb, off + k * 7 + 5, none⟩ = some (.string ⟨tp.toArray⟩) := HF.out.cell (hcell 5 _ rfl) (by simp)
        have c6 : wr.cell? ⟨bb, off + k * 7 + 6, none⟩ = some (.string ⟨py.toArray⟩) := HF.out.cell (hcell 6 _ rfl) (by simp)
        have HFew := Lib.hid hfew
        clear hcell hc hfew hv hok hqb hab hs1 hs2 hs3 hpl
        go_wp2_with fail
        refine HFew.out.mono ?_
        rintro _ w3 ⟨A3, d3, rfl, _, g3⟩
        clear c0 c1 c2 c3 c4 c5 c6 HFew
        obtain ⟨X, hX⟩ : ∃ X : Ms, (⟨fr.take 10, tickN at_, qs, rt, A3, (fewR ps).length, d3, tp.take 30, py.take 30⟩ : Ms) = X := ⟨_, rfl⟩
        dsimp only
        rw [hX]
        clear hX
        obtain ⟨fr, at_, qs, rt, A, n, c, tp, py⟩ := X
        dsimp only [msC]
        have FC := Lib.hid ((HF.out.trans g3 (by simp)).alloc (.cells #[.string ⟨fr.toArray⟩, .int .i64 at_, .int .u8 qs, .bool rt, .slice A n c, .string ⟨tp.toArray⟩, .string ⟨py.toArray⟩] 29))
        have HQ3 := Lib.hid ((HQ.out.fr0 g3).fr0 ((Fr.refl [] w3).alloc (.cells #[.string ⟨fr.toArray⟩, .int .i64 at_, .int .u8 qs, .bool rt, .slice A n c, .string ⟨tp.toArray⟩, .string ⟨py.toArray⟩] 29)))
        have hbm := blk_new w3 (.cells #[.string ⟨fr.toArray⟩, .int .i64 at_, .int .u8 qs, .bool rt, .slice A n c, .string ⟨tp.toArray⟩, .string ⟨py.toArray⟩] 29)
        have hQ3 := g3.size
        obtain ⟨y, hy⟩ : ∃ y, w3.alloc (.cells #[.string ⟨fr.toArray⟩, .int .i64 at_, .int .u8 qs, .bool rt, .slice A n c, .string ⟨tp.toArray⟩, .string ⟨py.toArray⟩] 29) = y := ⟨_, rfl⟩
        rw [hy] at FC HQ3 hbm
        have hhv : heavyN L < 64 := by have := weigh_sum L; omega
        have cv1 := fun W => run_convert_float_int (P := Try.prog) W 31 3 .f32 .i64 (f32n (heavyN L)) (heavyN L : Int) (by kernel_rfl) Try.underlying3 (f32_int ⟨heavyN L, hhv⟩)
        clear g3
        go_wp2_with fail
        clear hy
        refine (qweigh_any _ _ _ _ _ _ HQ3.out (by omega)).mono ?_
        rintro _ w4 ⟨rfl, g4⟩
        replace FC := Lib.hid (FC.out.trans g4 (by simp))
        replace HQ3 := Lib.hid (HQ3.out.fr0 g4)
        replace hbm := g4.blk hbm (by simp)
        have hy4 := g4.size
        obtain ⟨⟨e0, e1, e2, e3, e4, e5, e6⟩, _, _⟩ := blk7_facts hbm
        clear g4 hbm
        obtain ⟨L', d, hp⟩ : ∃ L' d, pushG ltMs L ⟨fr, at_, qs, rt, A, n, c, tp, py⟩ m = (L', d) := ⟨_, _, rfl⟩
        have hpl := pushG_len ltMs L ⟨fr, at_, qs, rt, A, n, c, tp, py⟩ m hL
        have hph := push_heavy L ⟨fr, at_, qs, rt, A, n, c, tp, py⟩ m
        have hpd := push_drop L ⟨fr, at_, qs, rt, A, n, c, tp, py⟩ 
        rw [hp] at hpl hph
        have hpd' : ∀ y, d = some y → ltMs y = false → m ≤ heavyN L := fun y hy hl => hpd y m (by rw [hp]; exact hy) hl
        have HPD := Lib.hid hpd'
        dsimp only at hpl hph
        clear hpd hpd'
        have hsum := weigh_sum L'
        have hL64 : L'.length < 64 := by omega
        have hln := hsum
        obtain ⟨a, ha⟩ : ∃ a, lightN L' = a := ⟨_, rfl⟩
        obtain ⟨b, hb⟩ : ∃ b, heavyN L' = b := ⟨_, rfl⟩
        have cv2 := fun W => run_convert_float_int (P := Try.prog) W 31 3 .f32 .i64 (f32n (heavyN L')) (heavyN L' : Int) (by kernel_rfl) Try.underlying3 (f32_int ⟨heavyN L', by omega⟩)
        have cv3 := fun W => run_convert_float_int (P := Try.prog) W 31 3 .f32 .i64 (f32n (lightN L')) (lightN L' : Int) (by kernel_rfl) Try.underlying3 (f32_int ⟨lightN L', by omega⟩)
        have hne : ((lightN L' : Int) + (heavyN L' : Int) != (L'.length : Int)) = false := by rw [bne_eq_false_iff_eq]; omega
        have hle1 : decide (m < L'.length) = false := by simp; omega
        have hle2 : decide (heavyN L' < heavyN L) = false := by simp; omega
        clear ha hb hln
        cases d with
        | none =>
          have HD := Lib.hid hp
          clear hp
          go_wp2_with fail
          refine (qpush_eq Q Q v L m ⟨fr, at_, qs, rt, A, n, c, tp, py⟩ _ HQ3.out (by omega) (by omega) (by omega) L' none ms0 false HD.out rfl rfl).mono ?_
          rintro _ w5 ⟨v5, rfl, H5, g5⟩
          dsimp only [msC, ms0]
          have F5 := FC.out.que g5 HQ3.out hQ hQ
          have hs5 := g5.size
          have H6 := Lib.hid (H5.fr0 ((Fr.refl [] w5).alloc (.cells #[.string ⟨#[]⟩, .int .i64 0, .int .u8 0, .bool false, .slice none 0 0, .string ⟨#[]⟩, .string ⟨#[]⟩] 29)))
          have F6 := Lib.hid (F5.alloc (.cells #[.string ⟨#[]⟩, .int .i64 0, .int .u8 0, .bool false, .slice none 0 0, .string ⟨#[]⟩, .string ⟨#[]⟩] 29))
          have hz5 : w5.heap.size ≤ (w5.alloc (.cells #[.string ⟨#[]⟩, .int .i64 0, .int .u8 0, .bool false, .slice none 0 0, .string ⟨#[]⟩, .string ⟨#[]⟩] 29)).heap.size := by simp
          clear g5 H5 F5 e0 e1 e2 e3 e4 e5 e6
          go_wp2_with fail
          refine (qlen_any _ _ _ _ _ _ H6.out).mono ?_
          rintro _ _ ⟨rfl, rfl⟩
          go_wp2_with fail
          refine (qweigh_any _ _ _ _ _ _ H6.out hL64).mono ?_
          rintro _ w7 ⟨rfl, g7⟩
          have H7 := Lib.hid (H6.out.fr0 g7)
          have F7 := Lib.hid (F6.out.trans g7 (by simp))
          have hs7 := g7.size
          clear g7 H6 F6
          go_wp2_with fail
          refine (qlen_any _ _ _ _ _ _ H7.out).mono ?_
          rintro _ _ ⟨rfl, rfl⟩
          go_wp2
          go_roundw
          case rel => exact ⟨k + 1, v5, L', by go_num, by omega, by omega, H7.out, by omega, by omega, F7.out⟩
          case measure => simp [intOf]; omega
        | some y =>
          obtain ⟨yfr, yat, yq, yrt, yA, yn, yc, ytp, ypy⟩ := y
          by_cases hyq : 0 < yq
          · have hq1 : decide (0 < yq) = true := by simpa using hyq
            have hq2 := HPD.out _ rfl (by show (yq == 0) = false; simp; omega)
            have hq3 : decide (heavyN L < m) = false := by simp; omega
            clear hyq hq2
            have HD := Lib.hid hp
            clear hp
            go_wp2_with fail
            refine (qpush_eq Q Q v L m ⟨fr, at_, qs, rt, A, n, c, tp, py⟩ _ HQ3.out (by omega) (by omega) (by omega) L' (some ⟨yfr, yat, yq, yrt, yA, yn, yc, ytp, ypy⟩) ⟨yfr, yat, yq, yrt, yA, yn, yc, ytp, ypy⟩ true HD.out rfl rfl).mono ?_
            rintro _ w5 ⟨v5, rfl, H5, g5⟩
            dsimp only [msC]
            have F5 := FC.out.que g5 HQ3.out hQ hQ
            have hs5 := g5.size
            have H6 := Lib.hid (H5.fr0 ((Fr.refl [] w5).alloc (.cells #[.string ⟨yfr.toArray⟩, .int .i64 yat, .int .u8 yq, .bool yrt, .slice yA yn yc, .string ⟨ytp.toArray⟩, .string ⟨ypy.toArray⟩] 29)))
            have F6 := Lib.hid (F5.alloc (.cells #[.string ⟨yfr.toArray⟩, .int .i64 yat, .int .u8 yq, .bool yrt, .slice yA yn yc, .string ⟨ytp.toArray⟩, .string ⟨ypy.toArray⟩] 29))
            have hz5 : w5.heap.size ≤ (w5.alloc (.cells #[.string ⟨yfr.toArray⟩, .int .i64 yat, .int .u8 yq, .bool yrt, .slice yA yn yc, .string ⟨ytp.toArray⟩, .string ⟨ypy.toArray⟩] 29)).heap.size := by simp
            clear g5 H5 F5 e0 e1 e2 e3 e4 e5 e6
            go_wp2_with fail
            refine (qlen_any _ _ _ _ _ _ H6.out).mono ?_
            rintro _ _ ⟨rfl, rfl⟩
            go_wp2_with fail
            refine (qweigh_any _ _ _ _ _ _ H6.out hL64).mono ?_
            rintro _ w7 ⟨rfl, g7⟩
            have H7 := Lib.hid (H6.out.fr0 g7)
            have F7 := Lib.hid (F6.out.trans g7 (by simp))
            have hs7 := g7.size
            clear g7 H6 F6
            go_wp2_with fail
            refine (qlen_any _ _ _ _ _ _ H7.out).mono ?_
            rintro _ _ ⟨rfl, rfl⟩
            go_wp2
            go_roundw
            case rel => exact ⟨k + 1, v5, L', by go_num, by omega, by omega, H7.out, by omega, by omega, F7.out⟩
            case measure => simp [intOf]; omega
          · have hq1 : decide (0 < yq) = false := by simpa using hyq
            clear hyq
            have HD := Lib.hid hp
            clear hp
            go_wp2_with fail
            refine (qpush_eq Q Q v L m ⟨fr, at_, qs, rt, A, n, c, tp, py⟩ _ HQ3.out (by omega) (by omega) (by omega) L' (some ⟨yfr, yat, yq, yrt, yA, yn, yc, ytp, ypy⟩) ⟨yfr, yat, yq, yrt, yA, yn, yc, ytp, ypy⟩ true HD.out rfl rfl).mono ?_
            rintro _ w5 ⟨v5, rfl, H5, g5⟩
            dsimp only [msC]
            have F5 := FC.out.que g5 HQ3.out hQ hQ
            have hs5 := g5.size
            have H6 := Lib.hid (H5.fr0 ((Fr.refl [] w5).alloc (.cells #[.string ⟨yfr.toArray⟩, .int .i64 yat, .int .u8 yq, .bool yrt, .slice yA yn yc, .string ⟨ytp.toArray⟩, .string ⟨ypy.toArray⟩] 29)))
            have F6 := Lib.hid (F5.alloc (.cells #[.string ⟨yfr.toArray⟩, .int .i64 yat, .int .u8 yq, .bool yrt, .slice yA yn yc, .string ⟨ytp.toArray⟩, .string ⟨ypy.toArray⟩] 29))
            have hz5 : w5.heap.size ≤ (w5.alloc (.cells #[.string ⟨yfr.toArray⟩, .int .i64 yat, .int .u8 yq, .bool yrt, .slice yA yn yc, .string ⟨ytp.toArray⟩, .string ⟨ypy.toArray⟩] 29)).heap.size := by simp
            clear g5 H5 F5 e0 e1 e2 e3 e4 e5 e6
            go_wp2_with fail
            refine (qlen_any _ _ _ _ _ _ H6.out).mono ?_
            rintro _ _ ⟨rfl, rfl⟩
            go_wp2_with fail
            refine (qweigh_any _ _ _ _ _ _ H6.out hL64).mono ?_
            rintro _ w7 ⟨rfl, g7⟩
            have H7 := Lib.hid (H6.out.fr0 g7)
            have F7 := Lib.hid (F6.out.trans g7 (by simp))
            have hs7 := g7.size
            clear g7 H6 F6
            go_wp2_with fail
            refine (qlen_any _ _ _ _ _ _ H7.out).mono ?_
            rintro _ _ ⟨rfl, rfl⟩
            go_wp2
            go_roundw
            case rel => exact ⟨k + 1, v5, L', by go_num, by omega, by omega, H7.out, by omega, by omega, F7.out⟩
            case measure => simp [intOf]; omega
      · have h40 : decide ((k : Int) < 40) = false := by simpa using hlt4
        go_wp2
        go_ret
        exact ⟨rfl, HF.out⟩
    · have hk1 : decide (k < f1.length) = false := by simpa using hlt
      go_wp2
      go_ret
      exact ⟨rfl, HF.out⟩
end Go.Proofs.Ytnplinohoflabaa
