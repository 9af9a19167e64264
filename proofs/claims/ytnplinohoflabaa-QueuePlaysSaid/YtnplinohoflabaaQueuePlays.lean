/- The walk of the law QueuePlays. -/
import Derived.Test.YtnplinohoflabaaQueL
namespace Go.Proofs.Ytnplinohoflabaa
open Go.RowKit
set_option linter.unusedSimpArgs false
set_option linter.unusedVariables false
attribute [local go_sem ↓] Go.wp_at_zero Go.wp_at_succ

theorem AcIn.at {w : World} {v : Value} {f : List Ac} (h : AcIn w v f) (hl : 0 < f.length) :
    ∃ b off c, v = .slice (some ⟨b, off, none⟩) f.length c ∧ b < w.heap.size ∧ ∀ (i : Nat) (hi : i < f.length) j u, (acC f[i])[j]? = some u → w.cell? ⟨b, off + i * 9 + j, none⟩ = some u :=
  View.at (enc := acC) h.2.1 acC_len (by decide) hl
set_option maxHeartbeats 16000000 in
set_option maxRecDepth 100000 in
theorem queuePlays_walk (a0 : Int) (x1 : Option Addr) (y1 z1 : Nat) (f1 : List Ac) (w0 : (Lit.int .i64 a0).wf = true) (W : World) (H1 : AcIn W (.slice x1 y1 z1) f1) :
    Calls Try.prog 7 #[.int .i64 a0, .slice x1 y1 z1] W fun e w' => e = .returned (.bool true) ∧ Fr [] W w' := by
  have hw0 := wf_i64 w0
  have hyl : y1 = f1.length := by
    obtain ⟨_, ⟨_, _, he, _⟩, _⟩ := H1
    injection he
  subst hyl
  have hl1 := H1.1
  have HM := Lib.hid H1
  obtain ⟨m, hm⟩ : ∃ m : Nat, max a0 0 = (m : Int) := ⟨(max a0 0).toNat, by omega⟩
  have hm63 : m ≤ 9223372036854775807 := by omega
  have HMX := Lib.hid hm
  have hn0 := Lib.hid (blk_new W (.cells #[.slice none 0 0, .int .i64 (m : Int)] 100))
  have hq0 : QAt (W.alloc (.cells #[.slice none 0 0, .int .i64 (m : Int)] 100)) W.heap.size W.heap.size (.slice none 0 0) (fsts []) m := ⟨hn0.out, World.ownsRow_nil _ _ _ _⟩
  have F0 : Fr [] W (W.alloc (.cells #[.slice none 0 0, .int .i64 (m : Int)] 100)) := (Fr.refl _ _).alloc _
  clear H1 w0 hw0 hm hn0
  go_enter Try.func7, Try.ntmps7
  go_wp2_with fail
  refine (qnew_any a0 W).mono ?_
  rintro _ w1 ⟨rfl, rfl⟩
  rw [HMX.out]
  generalize W.alloc (.cells #[.slice none 0 0, .int .i64 (m : Int)] 100) = w1 at *
  have hq1 := hq0.fr0 ((Fr.refl [] w1).alloc (.cells #[] 42))
  have F1 := F0.alloc (.cells #[] 42)
  have hr1 : RView (w1.alloc (.cells #[] 42)) (.slice (some ⟨w1.heap.size, 0, none⟩) 0 0) [] := RView.own (RR := []) (own_emp w1 42 7 w1.heap.size (Nat.le_refl _))
  clear hq0 F0
  go_wp2_with fail
  refine (awake16_any _).mono ?_
  rintro _ w2 ⟨rfl, g2⟩
  have hq2 := hq1.fr0 g2
  have hr2 := hr1.fr0 g2
  have F2 := F1.trans g2 (by simp)
  obtain ⟨Q, hQ⟩ : ∃ Q, Q = W.heap.size := ⟨_, rfl⟩
  rw [← hQ] at hq2 ⊢
  have hQ2 : W.heap.size ≤ Q := by omega
  have hQ3 : Q ≤ w2.heap.size := by have := F2.size; omega
  clear hq1 hr1 F1 g2 hQ
  go_wp2
  go_loopw [6, 7] (fun lv iv wr => ∃ (k : Nat) (v : Value) (LL RR : List (Ms × List Pr)), iv = .int .i64 k ∧ k ≤ f1.length ∧ k ≤ 40 ∧ QAt wr Q Q v (fsts LL) m ∧ RView wr lv RR ∧ Hid (∀ p ∈ LL, MOk 136 wr p) ∧ Hid (∀ p ∈ RR, MOk 139 wr p) ∧ Hid (LL.map lg = RR.map lg) ∧ LL.length ≤ k ∧ Q ≤ wr.heap.size ∧ Fr [] W wr) (fun _ iv _ => 40 - (intOf iv).toNat)
  case atStart => exact ⟨0, _, [], [], rfl, by omega, by omega, hq2, hr2, Lib.hid (by simp), Lib.hid (by simp), Lib.hid rfl, by simp, hQ3, F2⟩
  case round =>
    clear hq2 hr2 F2
    obtain ⟨k, v, LL, RR, rfl, hk, hk40, hq, hrv, HML, HMR, HE, hL, hQr, hfr⟩ := hrel
    have HF := Lib.hid hfr
    have HQ := Lib.hid hq
    have HRV := Lib.hid hrv
    have hlen : LL.length = RR.length := by have := congrArg List.length HE.out; simpa using this
    have HN := Lib.hid hlen
    have hR40 : RR.length ≤ k := by omega
    obtain ⟨_, Al, cl, rfl, hlc, hlc2⟩ := hrv
    clear hfr hq hlen
    by_cases hlt : k < f1.length
    · by_cases hlt4 : (k : Int) < 40
      · obtain ⟨bb, off, c', hsl, hbb, hc⟩ := HM.out.at (by omega)
        cases hsl
        have hcell := hc k hlt
        have hin := HM.out.2.2 f1[k] (List.getElem_mem hlt)
        generalize f1[k] = a at *
        obtain ⟨kind, nw, ⟨fr, at_, qs, rt, A, n, c, tp, py⟩, ps⟩ := a
        dsimp only at hin
        have c0 : wr.cell? ⟨bb, off + k * 9, none⟩ = some (.int .i64 kind) := HF.out.cell (hcell 0 _ rfl) (by simp)
        have c1 : wr.cell? ⟨bb, off + k * 9 + 1, none⟩ = some (.int .i64 nw) := HF.out.cell (hcell 1 _ rfl) (by simp)
        have c2 : wr.cell? ⟨bb, off + k * 9 + 2, none⟩ = some (.string ⟨fr.toArray⟩) := HF.out.cell (hcell 2 _ rfl) (by simp)
        have c3 : wr.cell? ⟨bb, off + k * 9 + 3, none⟩ = some (.int .i64 at_) := HF.out.cell (hcell 3 _ rfl) (by simp)
        have c4 : wr.cell? ⟨bb, off + k * 9 + 4, none⟩ = some (.int .u8 qs) := HF.out.cell (hcell 4 _ rfl) (by simp)
        have c5 : wr.cell? ⟨bb, off + k * 9 + 5, none⟩ = some (.bool rt) := HF.out.cell (hcell 5 _ rfl) (by simp)
        have c6 : wr.cell? ⟨bb, off + k * 9 + 6, none⟩ = some (.slice A n c) := HF.out.cell (hcell 6 _ rfl) (by simp)
        have c7 : wr.cell? ⟨bb, off + k * 9 + 7, none⟩ = some (.string ⟨tp.toArray⟩) := HF.out.cell (hcell 7 _ rfl) (by simp)
        have c8 : wr.cell? ⟨bb, off + k * 9 + 8, none⟩ = some (.string ⟨py.toArray⟩) := HF.out.cell (hcell 8 _ rfl) (by simp)
        have hb9 := blk_new wr (.cells #[.int .i64 kind, .int .i64 nw, .string ⟨fr.toArray⟩, .int .i64 at_, .int .u8 qs, .bool rt, .slice A n c, .string ⟨tp.toArray⟩, .string ⟨py.toArray⟩] 53)
        have FY := Lib.hid (HF.out.alloc (.cells #[.int .i64 kind, .int .i64 nw, .string ⟨fr.toArray⟩, .int .i64 at_, .int .u8 qs, .bool rt, .slice A n c, .string ⟨tp.toArray⟩, .string ⟨py.toArray⟩] 53))
        have fy : Fr [] wr (wr.alloc (.cells #[.int .i64 kind, .int .i64 nw, .string ⟨fr.toArray⟩, .int .i64 at_, .int .u8 qs, .bool rt, .slice A n c, .string ⟨tp.toArray⟩, .string ⟨py.toArray⟩] 53)) := (Fr.refl _ _).alloc _
        have HQY := Lib.hid (HQ.out.fr0 fy)
        have HRY := Lib.hid (HRV.out.fr0 fy)
        have HLY : Hid (∀ p ∈ LL, MOk 136 (wr.alloc (.cells #[.int .i64 kind, .int .i64 nw, .string ⟨fr.toArray⟩, .int .i64 at_, .int .u8 qs, .bool rt, .slice A n c, .string ⟨tp.toArray⟩, .string ⟨py.toArray⟩] 53)) p) := Lib.hid (fun p hp => (HML.out p hp).fr0 fy)
        have HRRY : Hid (∀ p ∈ RR, MOk 139 (wr.alloc (.cells #[.int .i64 kind, .int .i64 nw, .string ⟨fr.toArray⟩, .int .i64 at_, .int .u8 qs, .bool rt, .slice A n c, .string ⟨tp.toArray⟩, .string ⟨py.toArray⟩] 53)) p) := Lib.hid (fun p hp => (HMR.out p hp).fr0 fy)
        have hys0 : wr.heap.size < (wr.alloc (.cells #[.int .i64 kind, .int .i64 nw, .string ⟨fr.toArray⟩, .int .i64 at_, .int .u8 qs, .bool rt, .slice A n c, .string ⟨tp.toArray⟩, .string ⟨py.toArray⟩] 53)).heap.size := by simp
        have HIN := Lib.hid hin
        clear hcell hc hin fy
        go_upto_region 9 with (fail)
        obtain ⟨y, hy⟩ : ∃ y, wr.alloc (.cells #[.int .i64 kind, .int .i64 nw, .string ⟨fr.toArray⟩, .int .i64 at_, .int .u8 qs, .bool rt, .slice A n c, .string ⟨tp.toArray⟩, .string ⟨py.toArray⟩] 53) = y := ⟨_, rfl⟩
        rw [hy] at hb9 FY HQY HRY HLY HRRY hys0 ⊢
        have HB9 := Lib.hid hb9
        obtain ⟨b0, b1, b2, b3, b4, b5, b6, b7, b8⟩ := blk9_facts hb9
        clear hy hb9 c0 c1 c2 c3 c4 c5 c6 c7 c8 HF HQ HRV HML HMR hQr
        have hQy : Q ≤ y.heap.size := by have := FY.out.size; have := blk_lt HQY.out.1; omega
        by_cases hkd : kind = 1
        · obtain ⟨hv, hpl, hok, hqb, hab, hs1, hs2, hs3⟩ := HIN.out
          have hfew := few12_any ⟨fr, at_, qs, rt, A, n, c, tp, py⟩ ps y (hv.fr FY.out (by simp)) hpl (fun y hy => (hok y hy).2) hs1 hs2 hs3
          have hfok := fewR_ok ps hok
          have htick := tickN_le at_
          unfold FewTo12 at hfew
          have HFew := Lib.hid hfew
          have HFK := Lib.hid hfok
          clear hfew hfok hv hok hqb hab hs1 hs2 hs3 hpl
          have hk1 : (kind == 1) = true := by simpa using hkd
          clear hkd
          go_wp2_with fail
          refine HFew.out.mono ?_
          rintro _ w3 ⟨A3, d3, rfl, tv3, g3⟩
          clear b0 b1 b2 b3 b4 b5 b6 b7 b8 HFew
          try dsimp only at tv3
          have hok3 : MOk 136 w3 ((⟨fr.take 10, tickN at_, qs, rt, A3, (fewR ps).length, d3, tp.take 30, py.take 30⟩ : Ms), fewR ps) := ⟨tv3, HFK.out.1, fun x hx => (HFK.out.2 x hx).1, by dsimp only; omega, by dsimp only; omega⟩
          clear HFK tv3 htick
          try dsimp only
          generalize fewR ps = ps' at *
          generalize fr.take 10 = fr at *
          generalize tickN at_ = at_ at *
          generalize tp.take 30 = tp at *
          generalize py.take 30 = py at *
          try dsimp only [msC]
          have fy3 := g3.trans ((Fr.refl [] w3).alloc (.cells #[.string ⟨fr.toArray⟩, .int .i64 at_, .int .u8 qs, .bool rt, .slice A3 ps'.length d3, .string ⟨tp.toArray⟩, .string ⟨py.toArray⟩] 29)) (by simp)
          have HK3 := Lib.hid (hok3.fr0 ((Fr.refl [] w3).alloc (.cells #[.string ⟨fr.toArray⟩, .int .i64 at_, .int .u8 qs, .bool rt, .slice A3 ps'.length d3, .string ⟨tp.toArray⟩, .string ⟨py.toArray⟩] 29)))
          have HQ3 := Lib.hid (HQY.out.fr0 fy3)
          have HR3 := Lib.hid (HRY.out.fr0 fy3)
          have HL3 : Hid (∀ p ∈ LL, MOk 136 (w3.alloc (.cells #[.string ⟨fr.toArray⟩, .int .i64 at_, .int .u8 qs, .bool rt, .slice A3 ps'.length d3, .string ⟨tp.toArray⟩, .string ⟨py.toArray⟩] 29)) p) := Lib.hid (fun p hp => (HLY.out p hp).fr0 fy3)
          have HRR3 : Hid (∀ p ∈ RR, MOk 139 (w3.alloc (.cells #[.string ⟨fr.toArray⟩, .int .i64 at_, .int .u8 qs, .bool rt, .slice A3 ps'.length d3, .string ⟨tp.toArray⟩, .string ⟨py.toArray⟩] 29)) p) := Lib.hid (fun p hp => (HRRY.out p hp).fr0 fy3)
          have F3 := Lib.hid (FY.out.trans fy3 (by simp))
          have hbm := blk_new w3 (.cells #[.string ⟨fr.toArray⟩, .int .i64 at_, .int .u8 qs, .bool rt, .slice A3 ps'.length d3, .string ⟨tp.toArray⟩, .string ⟨py.toArray⟩] 29)
          have h93 := fy3.blk HB9.out (by simp)
          have hs3 : y.heap.size ≤ w3.heap.size := g3.size
          go_upto_region 12 with (fail)
          obtain ⟨z, hz⟩ : ∃ z, w3.alloc (.cells #[.string ⟨fr.toArray⟩, .int .i64 at_, .int .u8 qs, .bool rt, .slice A3 ps'.length d3, .string ⟨tp.toArray⟩, .string ⟨py.toArray⟩] 29) = z := ⟨_, rfl⟩
          have hzs : z.heap.size = w3.heap.size + 1 := by rw [← hz]; simp
          rw [hz] at HK3 HQ3 HR3 HL3 HRR3 F3 hbm h93 ⊢
          have HBM := Lib.hid hbm
          have H93 := Lib.hid h93
          obtain ⟨⟨e0, e1, e2, e3, e4, e5, e6⟩, _, _⟩ := blk7_facts hbm
          clear hz g3 fy3 hok3 hbm h93
          obtain ⟨L', d, hp⟩ : ∃ L' d, pushG ltP LL ((⟨fr, at_, qs, rt, A3, ps'.length, d3, tp, py⟩ : Ms), ps') m = (L', d) := ⟨_, _, rfl⟩
          have hpm := pushG_mem ltP LL ((⟨fr, at_, qs, rt, A3, ps'.length, d3, tp, py⟩ : Ms), ps') m
          have hpl2 := pushG_le ltP LL ((⟨fr, at_, qs, rt, A3, ps'.length, d3, tp, py⟩ : Ms), ps') m
          rw [hp] at hpm hpl2
          have hpf : pushG ltMs (fsts LL) (⟨fr, at_, qs, rt, A3, ps'.length, d3, tp, py⟩ : Ms) m = (fsts L', d.map Prod.fst) := by
            have := push_fsts LL ((⟨fr, at_, qs, rt, A3, ps'.length, d3, tp, py⟩ : Ms), ps') m
            rw [hp] at this; exact this
          have HPF := Lib.hid hpf
          have HPM := Lib.hid hpm
          have HP := Lib.hid hp
          have hL'41 : L'.length ≤ k + 1 := by dsimp only at hpl2; omega
          obtain ⟨zx, hzx⟩ : ∃ zx : Ms × List Pr, d.getD (ms0, []) = zx := ⟨_, rfl⟩
          have hzo : (d.map Prod.fst).getD ms0 = zx.1 := by rw [← hzx]; cases d <;> rfl
          have hzs2 : (d.map Prod.fst).isSome = d.isSome := by cases d <;> rfl
          have HZX := Lib.hid hzx
          clear hp hpm hpf hpl2 hzx
          go_wp2_with fail
          refine (qpush_eq Q Q v (fsts LL) m ⟨fr, at_, qs, rt, A3, ps'.length, d3, tp, py⟩ _ HQ3.out (by omega) (by rw [fsts_len]; omega) hm63 (fsts L') (d.map Prod.fst) zx.1 d.isSome HPF.out hzo hzs2).mono ?_
          rintro _ w5 ⟨v5, rfl, H5, g5⟩
          have F5 := Lib.hid (F3.out.que g5 HQ3.out hQ2 hQ2)
          have hNT := HQ3.out.nots
          have hNR : ∀ b ∈ Q :: v.ownBlock.toList, NotT 139 z b := by
            intro b hb
            rcases List.mem_cons.1 hb with rfl | hb
            · exact NotT.blk HQ3.out.1 (by decide)
            · exact NotT.own HQ3.out.2 (by decide) b (by simpa using hb)
          have hNM : ∀ b ∈ Q :: v.ownBlock.toList, NotT 42 z b := by
            intro b hb
            rcases List.mem_cons.1 hb with rfl | hb
            · exact NotT.blk HQ3.out.1 (by decide)
            · exact NotT.own HQ3.out.2 (by decide) b (by simpa using hb)
          have hnew : ∀ b, y.heap.size ≤ b → b ∉ Q :: v.ownBlock.toList := by
            intro b hb h
            rcases List.mem_cons.1 h with h | h
            · have := blk_lt HQY.out.1; omega
            · have := (HQY.out.2.lt b (by simpa using h)).2; omega
          have hbm5 := g5.blk HBM.out (hnew _ (by omega))
          have h95 := g5.blk H93.out (by
            intro h
            rcases List.mem_cons.1 h with h | h
            · have h1 := HQ3.out.1; have h2 := H93.out; rw [← h] at h1; rw [h1] at h2; cases h2
            · have h1 := NotT.own HQ3.out.2 (T := 53) (by decide) _ (by simpa using h)
              exact h1 _ _ H93.out)
          have HK5 := Lib.hid (HK3.out.fr g5 hNT)
          have HL5 : Hid (∀ p ∈ LL, MOk 136 w5 p) := Lib.hid (fun p hp => (HL3.out p hp).fr g5 hNT)
          have HRR5 : Hid (∀ p ∈ RR, MOk 139 w5 p) := Lib.hid (fun p hp => (HRR3.out p hp).fr g5 hNR)
          have HR5 := Lib.hid (HR3.out.fr g5 hNM)
          have hs5 := g5.size
          clear hNT hNR hNM hnew g5 e0 e1 e2 e3 e4 e5 e6
          have hzok : MOk 136 w5 zx := by
            have hz := HZX.out
            cases hd : d with
            | none => rw [hd] at hz; rw [← hz]; exact mok0 _ _
            | some u =>
              rw [hd] at hz
              have hz : u = zx := hz
              rcases HPM.out.2 u hd with h | h
              · rw [← hz]; exact HL5.out u h
              · rw [← hz, h]; exact HK5.out
          have HLP : Hid (∀ p ∈ L', MOk 136 w5 p) := Lib.hid (fun p hp => by
            rcases HPM.out.1 p hp with h | h
            · exact HL5.out p h
            · rw [h]; exact HK5.out)
          obtain ⟨⟨zf, za, zq, zr, zA, zn, zc, zt, zp⟩, zps⟩ := zx
          dsimp only [msC]
          have f6 : Fr [] w5 (w5.alloc (.cells #[.string ⟨zf.toArray⟩, .int .i64 za, .int .u8 zq, .bool zr, .slice zA zn zc, .string ⟨zt.toArray⟩, .string ⟨zp.toArray⟩] 29)) := (Fr.refl _ _).alloc _
          have hbm6 := blk_old hbm5 (.cells #[.string ⟨zf.toArray⟩, .int .i64 za, .int .u8 zq, .bool zr, .slice zA zn zc, .string ⟨zt.toArray⟩, .string ⟨zp.toArray⟩] 29)
          have h96 := blk_old h95 (.cells #[.string ⟨zf.toArray⟩, .int .i64 za, .int .u8 zq, .bool zr, .slice zA zn zc, .string ⟨zt.toArray⟩, .string ⟨zp.toArray⟩] 29)
          have hbx6 := blk_new w5 (.cells #[.string ⟨zf.toArray⟩, .int .i64 za, .int .u8 zq, .bool zr, .slice zA zn zc, .string ⟨zt.toArray⟩, .string ⟨zp.toArray⟩] 29)
          have HK6 := Lib.hid (HK5.out.fr0 f6)
          have HLP6 : Hid (∀ p ∈ L', MOk 136 (w5.alloc (.cells #[.string ⟨zf.toArray⟩, .int .i64 za, .int .u8 zq, .bool zr, .slice zA zn zc, .string ⟨zt.toArray⟩, .string ⟨zp.toArray⟩] 29)) p) := Lib.hid (fun p hp => (HLP.out p hp).fr0 f6)
          have HRR6 : Hid (∀ p ∈ RR, MOk 139 (w5.alloc (.cells #[.string ⟨zf.toArray⟩, .int .i64 za, .int .u8 zq, .bool zr, .slice zA zn zc, .string ⟨zt.toArray⟩, .string ⟨zp.toArray⟩] 29)) p) := Lib.hid (fun p hp => (HRR5.out p hp).fr0 f6)
          have HR6 := Lib.hid (HR5.out.fr0 f6)
          have HZ6 := Lib.hid (hzok.fr0 f6)
          have H6 := Lib.hid (H5.fr0 f6)
          have F6 := Lib.hid (F5.out.trans f6 (by simp))
          go_upto_region 13 with (fail)
          obtain ⟨u6, hu⟩ : ∃ u, w5.alloc (.cells #[.string ⟨zf.toArray⟩, .int .i64 za, .int .u8 zq, .bool zr, .slice zA zn zc, .string ⟨zt.toArray⟩, .string ⟨zp.toArray⟩] 29) = u := ⟨_, rfl⟩
          have hus : u6.heap.size = w5.heap.size + 1 := by rw [← hu]; simp
          rw [hu] at hbm6 h96 hbx6 HK6 HLP6 HRR6 HR6 HZ6 H6 F6 ⊢
          have HBX6 := Lib.hid hbx6
          have H96 := Lib.hid h96
          obtain ⟨⟨e0, e1, e2, e3, e4, e5, e6⟩, _, _⟩ := blk7_facts hbm6
          clear hu f6 hbm5 h95 hbm6 hbx6 h96 hzok H5
          go_wp2_with fail
          refine (told12_any ⟨fr, at_, qs, rt, A3, ps'.length, d3, tp, py⟩ ps' _ HK6.out.1.1 (by have := HK6.out.2.1; dsimp only at this; omega)).mono ?_
          rintro _ w6 ⟨A6, d6, rfl, tv6, g6⟩
          dsimp only [msC]
          have hok6 : MOk 139 w6 ((⟨fr, at_, qs, rt, A6, ps'.length, d6, tp, py⟩ : Ms), ps') := ⟨tv6, HK6.out.2⟩
          have HRR7 : Hid (∀ p ∈ RR, MOk 139 w6 p) := Lib.hid (fun p hp => (HRR6.out p hp).fr0 g6)
          have HLP7 : Hid (∀ p ∈ L', MOk 136 w6 p) := Lib.hid (fun p hp => (HLP6.out p hp).fr0 g6)
          have HR7 := Lib.hid (HR6.out.fr0 g6)
          have HZ7 := Lib.hid (HZ6.out.fr0 g6)
          have H7 := Lib.hid (H6.out.fr0 g6)
          have F7 := Lib.hid (F6.out.trans g6 (by simp))
          have hbx7 := Lib.hid (g6.blk HBX6.out (by simp))
          have h97 := Lib.hid (g6.blk H96.out (by simp))
          have hs6 := g6.size
          have HOK6 := Lib.hid hok6
          clear g6 tv6 hok6 e0 e1 e2 e3 e4 e5 e6
          obtain ⟨R', d', hp'⟩ : ∃ R' d', pushG ltP RR ((⟨fr, at_, qs, rt, A6, ps'.length, d6, tp, py⟩ : Ms), ps') m = (R', d') := ⟨_, _, rfl⟩
          have hpb := push_both LL RR ((⟨fr, at_, qs, rt, A3, ps'.length, d3, tp, py⟩ : Ms), ps') ((⟨fr, at_, qs, rt, A6, ps'.length, d6, tp, py⟩ : Ms), ps') m HE.out rfl
          rw [HP.out, hp'] at hpb
          have hpm' := pushG_mem ltP RR ((⟨fr, at_, qs, rt, A6, ps'.length, d6, tp, py⟩ : Ms), ps') m
          rw [hp'] at hpm'
          have HP' := Lib.hid hp'
          have HPM' := Lib.hid hpm'
          have HE' := Lib.hid hpb.1
          have hdd : Hid (d.map lg = d'.map lg) := Lib.hid hpb.2
          clear hp' hpb hpm'
          have HM6 := HMX
          go_wp2_with fail
          all_goals
            refine (rpush_eq _ RR ⟨fr, at_, qs, rt, A6, ps'.length, d6, tp, py⟩ ps' m _ HR7.out (by omega) hm63 _ (by have := HM6.out; omega) R' d' HP'.out).mono ?_
            rintro _ w7 ⟨lv, rfl, hR7, g7⟩
            have hlv := hR7.2
            obtain ⟨Alv, clv, rfl, _, _⟩ := hlv
            obtain ⟨zy, hzy⟩ : ∃ zy : Ms × List Pr, d'.getD (ms0, []) = zy := ⟨_, rfl⟩
            have HZY := Lib.hid hzy
            have hgb := get_both hdd.out
            rw [HZX.out, hzy] at hgb
            rw [hzy, ← hgb.2]
            have hlg := hgb.1
            clear hgb hzy
            have hzyok : MOk 139 w6 zy := by
              have hz := HZY.out
              cases hd : d' with
              | none => rw [hd] at hz; rw [← hz]; exact mok0 _ _
              | some u =>
                rw [hd] at hz
                have hz : u = zy := hz
                rcases HPM'.out.2 u hd with h | h
                · rw [← hz]; exact HRR7.out u h
                · rw [← hz, h]; exact HOK6.out
            have HRP : Hid (∀ p ∈ R', MOk 139 w7 p) := Lib.hid (fun p hp => by
              rcases HPM'.out.1 p hp with h | h
              · exact (HRR7.out p h).fr0 g7
              · rw [h]; exact HOK6.out.fr0 g7)
            obtain ⟨⟨uf, ua, uq, ur, uA, un, uc, ut, up⟩, ups⟩ := zy
            simp only [lg, Mg.mk.injEq] at hlg
            obtain ⟨rfl, rfl, rfl, rfl, rfl, rfl, rfl⟩ := hlg
            dsimp only [msC]
            generalize d.isSome = bd at *
            have f8 : Fr [] w7 (w7.alloc (.cells #[.string ⟨zf.toArray⟩, .int .i64 za, .int .u8 zq, .bool zr, .slice uA un uc, .string ⟨zt.toArray⟩, .string ⟨zp.toArray⟩] 42)) := (Fr.refl _ _).alloc _
            have hbx8 := blk_old (g7.blk hbx7.out (by simp)) (.cells #[.string ⟨zf.toArray⟩, .int .i64 za, .int .u8 zq, .bool zr, .slice uA un uc, .string ⟨zt.toArray⟩, .string ⟨zp.toArray⟩] 42)
            have h98 := blk_old (g7.blk h97.out (by simp)) (.cells #[.string ⟨zf.toArray⟩, .int .i64 za, .int .u8 zq, .bool zr, .slice uA un uc, .string ⟨zt.toArray⟩, .string ⟨zp.toArray⟩] 42)
            have hbu8 := blk_new w7 (.cells #[.string ⟨zf.toArray⟩, .int .i64 za, .int .u8 zq, .bool zr, .slice uA un uc, .string ⟨zt.toArray⟩, .string ⟨zp.toArray⟩] 42)
            have HLP8 : Hid (∀ p ∈ L', MOk 136 (w7.alloc (.cells #[.string ⟨zf.toArray⟩, .int .i64 za, .int .u8 zq, .bool zr, .slice uA un uc, .string ⟨zt.toArray⟩, .string ⟨zp.toArray⟩] 42)) p) := Lib.hid (fun p hp => ((HLP7.out p hp).fr0 g7).fr0 f8)
            have HRP8 : Hid (∀ p ∈ R', MOk 139 (w7.alloc (.cells #[.string ⟨zf.toArray⟩, .int .i64 za, .int .u8 zq, .bool zr, .slice uA un uc, .string ⟨zt.toArray⟩, .string ⟨zp.toArray⟩] 42)) p) := Lib.hid (fun p hp => (HRP.out p hp).fr0 f8)
            have HR8 := Lib.hid (hR7.fr0 f8)
            have HZ8 := Lib.hid ((HZ7.out.fr0 g7).fr0 f8)
            have HU8 := Lib.hid ((hzyok.fr0 g7).fr0 f8)
            have H8' := Lib.hid ((H7.out.fr0 g7).fr0 f8)
            have F8' := Lib.hid ((F7.out.trans g7 (by simp)).trans f8 (by simp))
            have hs7 := g7.size
            have hR'41 : R'.length ≤ k + 1 := by
              have := congrArg List.length HE'.out
              simp only [List.length_map] at this; omega
            go_upto_region 15 with (fail)
            obtain ⟨u9, hu9⟩ : ∃ u, w7.alloc (.cells #[.string ⟨zf.toArray⟩, .int .i64 za, .int .u8 zq, .bool zr, .slice uA un uc, .string ⟨zt.toArray⟩, .string ⟨zp.toArray⟩] 42) = u := ⟨_, rfl⟩
            have hus9 : u9.heap.size = w7.heap.size + 1 := by rw [← hu9]; simp
            rw [hu9] at hbx8 h98 hbu8 HLP8 HRP8 HR8 HZ8 HU8 H8' F8' ⊢
            obtain ⟨⟨p0, p1, p2, p3, p4, p5, p6⟩, _, _⟩ := blk7_facts hbx8
            obtain ⟨⟨r0, r1, r2, r3, r4, r5, r6⟩, _, _⟩ := blk7_facts hbu8
            have hpz : zps.length ≤ 1000000 := by have := HZ8.out.2.1; dsimp only at this; omega
            have HVZ := Lib.hid (show View u9 (.slice zA zn zc) zps.length (zps.flatMap prE) from HZ8.out.1.1)
            have HVU := Lib.hid (show View u9 (.slice uA un uc) zps.length (zps.flatMap prE) from HU8.out.1.1)
            have hbb : (bd != bd) = false := by simp
            clear hu9 f8 hbx8 hbu8 g7 hzyok hR7
            go_region_held3 (fun w' => w'.cell? ⟨w5.heap.size, 0, none⟩ = some (.string ⟨zf.toArray⟩) ∧ w'.cell? ⟨w5.heap.size, 1, none⟩ = some (.int .i64 za) ∧ w'.cell? ⟨w5.heap.size, 2, none⟩ = some (.int .u8 zq) ∧ w'.cell? ⟨w5.heap.size, 3, none⟩ = some (.bool zr) ∧ w'.cell? ⟨w5.heap.size, 4, none⟩ = some (.slice zA zn zc) ∧ w'.cell? ⟨w5.heap.size, 5, none⟩ = some (.string ⟨zt.toArray⟩) ∧ w'.cell? ⟨w5.heap.size, 6, none⟩ = some (.string ⟨zp.toArray⟩) ∧ w'.cell? ⟨w7.heap.size, 0, none⟩ = some (.string ⟨zf.toArray⟩) ∧ w'.cell? ⟨w7.heap.size, 1, none⟩ = some (.int .i64 za) ∧ w'.cell? ⟨w7.heap.size, 2, none⟩ = some (.int .u8 zq) ∧ w'.cell? ⟨w7.heap.size, 3, none⟩ = some (.bool zr) ∧ w'.cell? ⟨w7.heap.size, 4, none⟩ = some (.slice uA un uc) ∧ w'.cell? ⟨w7.heap.size, 5, none⟩ = some (.string ⟨zt.toArray⟩) ∧ w'.cell? ⟨w7.heap.size, 6, none⟩ = some (.string ⟨zp.toArray⟩)) (first | go_keep | exact kk) (first | (go_at_call 21; refine (told12_any ⟨zf, za, zq, zr, zA, zn, zc, zt, zp⟩ zps _ (HVZ.out.fr (S := []) ((Fr.refl [] u9).drew) (by simp)) hpz).mono ?_; rintro _ y1 ⟨A8, c8, rfl, tv8, g8⟩; dsimp only [msC]; have kk := (show (fun w' : World => w'.cell? ⟨w5.heap.size, 0, none⟩ = some (.string ⟨zf.toArray⟩) ∧ w'.cell? ⟨w5.heap.size, 1, none⟩ = some (.int .i64 za) ∧ w'.cell? ⟨w5.heap.size, 2, none⟩ = some (.int .u8 zq) ∧ w'.cell? ⟨w5.heap.size, 3, none⟩ = some (.bool zr) ∧ w'.cell? ⟨w5.heap.size, 4, none⟩ = some (.slice zA zn zc) ∧ w'.cell? ⟨w5.heap.size, 5, none⟩ = some (.string ⟨zt.toArray⟩) ∧ w'.cell? ⟨w5.heap.size, 6, none⟩ = some (.string ⟨zp.toArray⟩) ∧ w'.cell? ⟨w7.heap.size, 0, none⟩ = some (.string ⟨zf.toArray⟩) ∧ w'.cell? ⟨w7.heap.size, 1, none⟩ = some (.int .i64 za) ∧ w'.cell? ⟨w7.heap.size, 2, none⟩ = some (.int .u8 zq) ∧ w'.cell? ⟨w7.heap.size, 3, none⟩ = some (.bool zr) ∧ w'.cell? ⟨w7.heap.size, 4, none⟩ = some (.slice uA un uc) ∧ w'.cell? ⟨w7.heap.size, 5, none⟩ = some (.string ⟨zt.toArray⟩) ∧ w'.cell? ⟨w7.heap.size, 6, none⟩ = some (.string ⟨zp.toArray⟩)) y1 from ⟨(((Fr.refl [] u9).drew).trans g8 (by simp)).cell p0 (by simp), (((Fr.refl [] u9).drew).trans g8 (by simp)).cell p1 (by simp), (((Fr.refl [] u9).drew).trans g8 (by simp)).cell p2 (by simp), (((Fr.refl [] u9).drew).trans g8 (by simp)).cell p3 (by simp), (((Fr.refl [] u9).drew).trans g8 (by simp)).cell p4 (by simp), (((Fr.refl [] u9).drew).trans g8 (by simp)).cell p5 (by simp), (((Fr.refl [] u9).drew).trans g8 (by simp)).cell p6 (by simp), (((Fr.refl [] u9).drew).trans g8 (by simp)).cell r0 (by simp), (((Fr.refl [] u9).drew).trans g8 (by simp)).cell r1 (by simp), (((Fr.refl [] u9).drew).trans g8 (by simp)).cell r2 (by simp), (((Fr.refl [] u9).drew).trans g8 (by simp)).cell r3 (by simp), (((Fr.refl [] u9).drew).trans g8 (by simp)).cell r4 (by simp), (((Fr.refl [] u9).drew).trans g8 (by simp)).cell r5 (by simp), (((Fr.refl [] u9).drew).trans g8 (by simp)).cell r6 (by simp)⟩)) | (go_at_call 20; refine (same12_any ⟨zf, za, zq, zr, A8, zps.length, c8, zt, zp⟩ ⟨zf, za, zq, zr, uA, un, uc, zt, zp⟩ zps _ tv8.1 (HVU.out.fr (S := []) (((Fr.refl [] u9).drew).trans g8 (by simp)) (by simp)) hpz rfl).mono ?_; rintro _ y3 ⟨rfl, g10⟩; have kk := (show (fun w' : World => w'.cell? ⟨w5.heap.size, 0, none⟩ = some (.string ⟨zf.toArray⟩) ∧ w'.cell? ⟨w5.heap.size, 1, none⟩ = some (.int .i64 za) ∧ w'.cell? ⟨w5.heap.size, 2, none⟩ = some (.int .u8 zq) ∧ w'.cell? ⟨w5.heap.size, 3, none⟩ = some (.bool zr) ∧ w'.cell? ⟨w5.heap.size, 4, none⟩ = some (.slice zA zn zc) ∧ w'.cell? ⟨w5.heap.size, 5, none⟩ = some (.string ⟨zt.toArray⟩) ∧ w'.cell? ⟨w5.heap.size, 6, none⟩ = some (.string ⟨zp.toArray⟩) ∧ w'.cell? ⟨w7.heap.size, 0, none⟩ = some (.string ⟨zf.toArray⟩) ∧ w'.cell? ⟨w7.heap.size, 1, none⟩ = some (.int .i64 za) ∧ w'.cell? ⟨w7.heap.size, 2, none⟩ = some (.int .u8 zq) ∧ w'.cell? ⟨w7.heap.size, 3, none⟩ = some (.bool zr) ∧ w'.cell? ⟨w7.heap.size, 4, none⟩ = some (.slice uA un uc) ∧ w'.cell? ⟨w7.heap.size, 5, none⟩ = some (.string ⟨zt.toArray⟩) ∧ w'.cell? ⟨w7.heap.size, 6, none⟩ = some (.string ⟨zp.toArray⟩)) y3 from ⟨((((Fr.refl [] u9).drew).trans g8 (by simp)).trans g10 (by simp)).cell p0 (by simp), ((((Fr.refl [] u9).drew).trans g8 (by simp)).trans g10 (by simp)).cell p1 (by simp), ((((Fr.refl [] u9).drew).trans g8 (by simp)).trans g10 (by simp)).cell p2 (by simp), ((((Fr.refl [] u9).drew).trans g8 (by simp)).trans g10 (by simp)).cell p3 (by simp), ((((Fr.refl [] u9).drew).trans g8 (by simp)).trans g10 (by simp)).cell p4 (by simp), ((((Fr.refl [] u9).drew).trans g8 (by simp)).trans g10 (by simp)).cell p5 (by simp), ((((Fr.refl [] u9).drew).trans g8 (by simp)).trans g10 (by simp)).cell p6 (by simp), ((((Fr.refl [] u9).drew).trans g8 (by simp)).trans g10 (by simp)).cell r0 (by simp), ((((Fr.refl [] u9).drew).trans g8 (by simp)).trans g10 (by simp)).cell r1 (by simp), ((((Fr.refl [] u9).drew).trans g8 (by simp)).trans g10 (by simp)).cell r2 (by simp), ((((Fr.refl [] u9).drew).trans g8 (by simp)).trans g10 (by simp)).cell r3 (by simp), ((((Fr.refl [] u9).drew).trans g8 (by simp)).trans g10 (by simp)).cell r4 (by simp), ((((Fr.refl [] u9).drew).trans g8 (by simp)).trans g10 (by simp)).cell r5 (by simp), ((((Fr.refl [] u9).drew).trans g8 (by simp)).trans g10 (by simp)).cell r6 (by simp)⟩)))
            have G3 := Lib.hid ((((Fr.refl [] u9).drew).trans g8 (by simp)).trans g10 (by simp))
            clear kk g8 g10 tv8 p0 p1 p2 p3 p4 p5 p6 r0 r1 r2 r3 r4 r5 r6
          
            have HA := Lib.hid (H8'.out.fr0 G3.out)
            have RA := Lib.hid (HR8.out.fr0 G3.out)
            have LA : Hid (∀ p ∈ L', MOk 136 y3 p) := Lib.hid (fun p hp => (HLP8.out p hp).fr0 G3.out)
            have NA : Hid (∀ p ∈ R', MOk 139 y3 p) := Lib.hid (fun p hp => (HRP8.out p hp).fr0 G3.out)
            have FA := Lib.hid (F8'.out.trans G3.out (by simp))
            obtain ⟨b0, b1, b2, b3, b4, b5, b6, b7, b8⟩ := blk9_facts (G3.out.blk h98 (by simp))
            have hsA := G3.out.size
            clear h98
            have hle' : (L').length = (R').length := by have := congrArg List.length HE'.out; simpa using this
            have hne' : (((L').length : Int) != ((R').length : Int)) = false := by rw [hle']; simp
            have HLE := Lib.hid hle'
            clear hle'
            go_wp2_with fail
            refine (qlen_any _ _ _ _ _ _ HA.out).mono ?_
            rintro _ _ ⟨rfl, rfl⟩
            try rw [fsts_len]
            go_wp2_with fail
            refine (qlist_any _ _ _ _ _ _ HA.out (by first | (rw [fsts_len]; omega) | simp)).mono ?_
            rintro _ wl ⟨vl, rfl, ol, gl⟩
            have HV1 : Hid (View wl vl (L').length ((L').flatMap fun p => msC p.1)) := Lib.hid (by rw [← fsts_flat, ← fsts_len]; exact own_view ol)
            have HV2 := Lib.hid (RA.out.fr0 gl)
            have HL1 : Hid (∀ p ∈ L', MOk 136 wl p) := Lib.hid (fun p hp => (LA.out p hp).fr0 gl)
            have HL2 : Hid (∀ p ∈ R', MOk 139 wl p) := Lib.hid (fun p hp => (NA.out p hp).fr0 gl)
            have H8 := Lib.hid (HA.out.fr0 gl)
            have F8 := Lib.hid (FA.out.trans gl (by simp))
            have hs8 := gl.size
            obtain ⟨Avl, cvl, rfl⟩ := own_shape ol
            clear gl ol
            go_wp2_with fail
            refine (is12_any _ _ (L') (R') _ HV1.out HV2.out.1.1 (by omega) HE'.out HL1.out HL2.out).mono ?_
            rintro _ wz ⟨rfl, gz⟩
            have H9 := Lib.hid (H8.out.fr0 gz)
            have F9 := Lib.hid (F8.out.trans gz (by simp))
            have R9 := Lib.hid (HV2.out.fr0 gz)
            have M9 : Hid (∀ p ∈ L', MOk 136 wz p) := Lib.hid (fun p hp => (HL1.out p hp).fr0 gz)
            have N9 : Hid (∀ p ∈ R', MOk 139 wz p) := Lib.hid (fun p hp => (HL2.out p hp).fr0 gz)
            have hs9 := gz.size
            clear gz
            go_wp2
            go_roundw
            case rel => exact ⟨k + 1, v5, L', R', by go_num, by omega, by omega, H9.out, R9.out, M9, N9, HE', by omega, by omega, F9.out⟩
            case measure => simp [intOf]; omega
        · by_cases hk2 : kind = 2
          · cases LL with
            | nil =>
              obtain rfl : RR = [] := by have := HE.out; simpa [eq_comm] using this
              have hkn1 : (kind == 1) = false := by simpa using hkd
              have hkn2 : (kind == 2) = true := by simpa using hk2
              clear hkd hk2
              have hQF := HQY.out
              dsimp only [fsts, List.map] at hQF
              go_wp2_with fail
              refine (qfirst_any _ _ _ _ _ _ hQF).mono ?_
              rintro _ w3 ⟨rfl, g3⟩
              dsimp only [List.headD, List.isEmpty, Bool.not, msC, ms0]
              have fy3 := g3.trans ((Fr.refl [] w3).alloc (.cells #[.string ⟨#[]⟩, .int .i64 0, .int .u8 0, .bool false, .slice none 0 0, .string ⟨#[]⟩, .string ⟨#[]⟩] 29)) (by simp)
              have hs3 : y.heap.size ≤ w3.heap.size := g3.size
              have HQ3 := HQY.out.fr0 fy3
              have HR3 := Lib.hid (HRY.out.fr0 fy3)
              have HL3 : Hid (∀ p ∈ ([] : List (Ms × List Pr)), MOk 136 (w3.alloc (.cells #[.string ⟨#[]⟩, .int .i64 0, .int .u8 0, .bool false, .slice none 0 0, .string ⟨#[]⟩, .string ⟨#[]⟩] 29)) p) := Lib.hid (fun p hp => (HLY.out p hp).fr0 fy3)
              have HRR3 : Hid (∀ p ∈ ([] : List (Ms × List Pr)), MOk 139 (w3.alloc (.cells #[.string ⟨#[]⟩, .int .i64 0, .int .u8 0, .bool false, .slice none 0 0, .string ⟨#[]⟩, .string ⟨#[]⟩] 29)) p) := Lib.hid (fun p hp => (HRRY.out p hp).fr0 fy3)
              have F3 := Lib.hid (FY.out.trans fy3 (by simp))
              have hbx := blk_new w3 (.cells #[.string ⟨#[]⟩, .int .i64 0, .int .u8 0, .bool false, .slice none 0 0, .string ⟨#[]⟩, .string ⟨#[]⟩] 29)
              have h93 := fy3.blk HB9.out (by simp)
              have hvl3 : ∀ b, v.ownBlock = some b → b < w3.heap.size := fun b hb => by have := (HQY.out.2.lt b hb).2; omega
              have HVL := Lib.hid hvl3
              clear g3 fy3 hvl3 hQF
              go_upto_region 20 with (fail)
              obtain ⟨u3, hu3⟩ : ∃ u, w3.alloc (.cells #[.string ⟨#[]⟩, .int .i64 0, .int .u8 0, .bool false, .slice none 0 0, .string ⟨#[]⟩, .string ⟨#[]⟩] 29) = u := ⟨_, rfl⟩
              have hus : u3.heap.size = w3.heap.size + 1 := by rw [← hu3]; simp
              rw [hu3] at HQ3 HR3 HL3 HRR3 F3 hbx h93 ⊢
              have HQ4 := Lib.hid HQ3
              have HBX := Lib.hid hbx
              have H93 := Lib.hid h93
              clear b0 b1 b2 b3 b4 b5 b6 b7 b8 hu3 hbx HQ3
              obtain ⟨b0, b1, b2, b3, b4, b5, b6, b7, b8⟩ := blk9_facts h93
              clear h93
              have hQP := HQ4.out
              dsimp only [fsts, List.map] at hQP
              go_wp2_with fail
              refine (qpop_any2 Q Q v _ m _ hQP (by omega) (by have h9 := hL; simp only [List.length_cons, List.length_map, List.length_nil] at h9 ⊢; omega)).mono ?_
              rintro _ w5 ⟨rfl, v5, H5, g5, hfr5⟩
              dsimp only [List.headD, List.isEmpty, Bool.not, msC, ms0, List.tail] at H5 ⊢
              have hnt : ∀ b ∈ [Q], NotT 136 u3 b := fun b hb => by simp at hb; subst hb; exact NotT.blk HQ4.out.1 (by decide)
              have hnr : ∀ b ∈ [Q], NotT 139 u3 b := fun b hb => by simp at hb; subst hb; exact NotT.blk HQ4.out.1 (by decide)
              have hnm : ∀ b ∈ [Q], NotT 42 u3 b := fun b hb => by simp at hb; subst hb; exact NotT.blk HQ4.out.1 (by decide)
              have hQb : Q ≠ w3.heap.size := by have := blk_lt HQY.out.1; omega
              have hbx5 := g5.blk HBX.out (by simp; omega)
              have h95 := g5.blk H93.out (by
                simp only [List.mem_singleton]
                intro h
                have h1 := HQ4.out.1; have h2 := H93.out; rw [← h] at h1; rw [h1] at h2; cases h2)
              have hw9 : wr.heap.size < w3.heap.size := by omega
              obtain ⟨⟨d0, d1, d2, d3, d4, d5, d6⟩, ⟨k0, k1, k2, k3, k4, k5, k6⟩, _⟩ := blk7_facts hbx5
              have gs := set7_fr w5 w3.heap.size (.string ⟨#[]⟩) (.int .i64 0) (.int .u8 0) (.bool false) (.slice none 0 0) (.string ⟨#[]⟩) (.string ⟨#[]⟩)
              have hnt2 : ∀ b ∈ [w3.heap.size], NotT 136 w5 b := fun b hb => by simp at hb; subst hb; exact NotT.blk hbx5 (by decide)
              have hnr2 : ∀ b ∈ [w3.heap.size], NotT 139 w5 b := fun b hb => by simp at hb; subst hb; exact NotT.blk hbx5 (by decide)
              have hnm2 : ∀ b ∈ [w3.heap.size], NotT 42 w5 b := fun b hb => by simp at hb; subst hb; exact NotT.blk hbx5 (by decide)
              have hx6 := Lib.hid (blk7_set hbx5 (.string ⟨#[]⟩) (.int .i64 0) (.int .u8 0) (.bool false) (.slice none 0 0) (.string ⟨#[]⟩) (.string ⟨#[]⟩))
              have h96 := Lib.hid (gs.blk h95 (by simp; omega))
              have H6 := Lib.hid (H5.fr gs (by simp; omega) (fun b hb => by
                simp only [List.mem_singleton]
                intro e
                rcases hfr5 b hb with h | h
                · omega
                · have := HVL.out b h; omega))
              have HR6 := Lib.hid ((HR3.out.fr g5 hnm).fr gs hnm2)
              have HL6 : Hid (∀ p ∈ ([] : List (Ms × List Pr)), MOk 136 (set7 w5 w3.heap.size (.string ⟨#[]⟩) (.int .i64 0) (.int .u8 0) (.bool false) (.slice none 0 0) (.string ⟨#[]⟩) (.string ⟨#[]⟩)) p) := Lib.hid (fun p hp => ((HL3.out p hp).fr g5 hnt).fr gs hnt2)
              have HRR6 : Hid (∀ p ∈ ([] : List (Ms × List Pr)), MOk 139 (set7 w5 w3.heap.size (.string ⟨#[]⟩) (.int .i64 0) (.int .u8 0) (.bool false) (.slice none 0 0) (.string ⟨#[]⟩) (.string ⟨#[]⟩)) p) := Lib.hid (fun p hp => ((HRR3.out p hp).fr g5 hnr).fr gs hnr2)
              have F6 := Lib.hid ((F3.out.trans g5 (by intro x hx h; simp at h; omega)).trans gs (by intro x hx h; simp at h; have := FY.out.size; omega))
              have hs5 := g5.size
              have hs6 := gs.size
              have H5' := Lib.hid H5
              clear H5 hnt hnr hnm hnt2 hnr2 hnm2 g5 gs hfr5 h95 hQP b0 b1 b2 b3 b4 b5 b6 b7 b8
              go_upto_region 22 with (fail)
              change Code.wp _ _ _ _ (set7 w5 w3.heap.size (.string ⟨#[]⟩) (.int .i64 0) (.int .u8 0) (.bool false) (.slice none 0 0) (.string ⟨#[]⟩) (.string ⟨#[]⟩))
              generalize set7 w5 w3.heap.size (.string ⟨#[]⟩) (.int .i64 0) (.int .u8 0) (.bool false) (.slice none 0 0) (.string ⟨#[]⟩) (.string ⟨#[]⟩) = u6 at *
              clear d0 d1 d2 d3 d4 d5 d6 k0 k1 k2 k3 k4 k5 k6 hbx5
              obtain ⟨b0, b1, b2, b3, b4, b5, b6, b7, b8⟩ := blk9_facts h96.out
              obtain ⟨p0, p1, p2, p3, p4, p5, p6⟩ := (blk7_facts hx6.out).1
              try simp only [List.length_nil]
              go_cut [109] (fun v109 wx => v109 = .bool false ∧ Fr [] u6 wx)
              case first =>
                refine wp_region_late [] (S := fun _ => True) (by kernel_rfl) trivial (fun hHeld => ?_)
                refine wpLate_pure (i := 0) (oi := _) (v := ?_) rfl (by kernel_rfl) (by kernel_rfl) (by kernel_rfl) (by kernel_rfl) (fun _ _ _ h => h) (Gives.load (by rfl) ?_) (fun _ => hHeld) ?_
                rotate_left
                · intro w hSw
                  clear hSw
                  go_simp
                  try with_reducible rfl
                try simp only [Act.put, List.getElem_toArray, List.getElem_cons_succ, List.getElem_cons_zero, List.setIfInBounds_toArray, List.set_cons_zero, List.set_cons_succ]
                refine wpLate_pure (i := 1) (oi := _) (v := ?_) rfl (by kernel_rfl) (by kernel_rfl) (by kernel_rfl) (by kernel_rfl) (fun _ _ _ h => h) (Gives.load (by rfl) ?_) (fun _ => hHeld) ?_
                rotate_left
                · intro w hSw
                  clear hSw
                  go_simp
                  try with_reducible rfl
                try simp only [Act.put, List.getElem_toArray, List.getElem_cons_succ, List.getElem_cons_zero, List.setIfInBounds_toArray, List.set_cons_zero, List.set_cons_succ]
                refine wpLate_pure (i := 2) (oi := _) (v := ?_) rfl (by kernel_rfl) (by kernel_rfl) (by kernel_rfl) (by kernel_rfl) (fun _ _ _ h => h) (Gives.load (by rfl) ?_) (fun _ => hHeld) ?_
                rotate_left
                · intro w hSw
                  clear hSw
                  go_simp
                  try with_reducible rfl
                try simp only [Act.put, List.getElem_toArray, List.getElem_cons_succ, List.getElem_cons_zero, List.setIfInBounds_toArray, List.set_cons_zero, List.set_cons_succ]
                refine wpLate_pure (i := 3) (oi := _) (v := ?_) rfl (by kernel_rfl) (by kernel_rfl) (by kernel_rfl) (by kernel_rfl) (fun _ _ _ h => h) (Gives.load (by rfl) ?_) (fun _ => hHeld) ?_
                rotate_left
                · intro w hSw
                  clear hSw
                  go_simp
                  try with_reducible rfl
                try simp only [Act.put, List.getElem_toArray, List.getElem_cons_succ, List.getElem_cons_zero, List.setIfInBounds_toArray, List.set_cons_zero, List.set_cons_succ]
                refine wpLate_pure (i := 4) (oi := _) (v := ?_) rfl (by kernel_rfl) (by kernel_rfl) (by kernel_rfl) (by kernel_rfl) (fun _ _ _ h => h) (Gives.load (by rfl) ?_) (fun _ => hHeld) ?_
                rotate_left
                · intro w hSw
                  clear hSw
                  go_simp
                  try with_reducible rfl
                try simp only [Act.put, List.getElem_toArray, List.getElem_cons_succ, List.getElem_cons_zero, List.setIfInBounds_toArray, List.set_cons_zero, List.set_cons_succ]
                refine wpLate_pure (i := 5) (oi := _) (v := ?_) rfl (by kernel_rfl) (by kernel_rfl) (by kernel_rfl) (by kernel_rfl) (fun _ _ _ h => h) (Gives.load (by rfl) ?_) (fun _ => hHeld) ?_
                rotate_left
                · intro w hSw
                  clear hSw
                  go_simp
                  try with_reducible rfl
                try simp only [Act.put, List.getElem_toArray, List.getElem_cons_succ, List.getElem_cons_zero, List.setIfInBounds_toArray, List.set_cons_zero, List.set_cons_succ]
                refine wpLate_pure (i := 6) (oi := _) (v := ?_) rfl (by kernel_rfl) (by kernel_rfl) (by kernel_rfl) (by kernel_rfl) (fun _ _ _ h => h) (Gives.load (by rfl) ?_) (fun _ => hHeld) ?_
                rotate_left
                · intro w hSw
                  clear hSw
                  go_simp
                  try with_reducible rfl
                try simp only [Act.put, List.getElem_toArray, List.getElem_cons_succ, List.getElem_cons_zero, List.setIfInBounds_toArray, List.set_cons_zero, List.set_cons_succ]
                refine wpLate_pure (i := 7) (oi := _) (v := ?_) rfl (by kernel_rfl) (by kernel_rfl) (by kernel_rfl) (by kernel_rfl) (fun _ _ _ h => h) (Gives.load (by rfl) ?_) (fun _ => hHeld) ?_
                rotate_left
                · intro w hSw
                  clear hSw
                  go_simp
                  try with_reducible rfl
                try simp only [Act.put, List.getElem_toArray, List.getElem_cons_succ, List.getElem_cons_zero, List.setIfInBounds_toArray, List.set_cons_zero, List.set_cons_succ]
                refine wpLate_pure (i := 8) (oi := _) (v := undef) rfl (by kernel_rfl) (by kernel_rfl) (by kernel_rfl) (by kernel_rfl) (fun _ _ _ h => h) (Or.inr ⟨by rfl, rfl⟩) (fun _ => hHeld) ?_
                try simp only [Act.put, List.getElem_toArray, List.getElem_cons_succ, List.getElem_cons_zero, List.setIfInBounds_toArray, List.set_cons_zero, List.set_cons_succ]
                refine wpLate_pure (i := 9) (oi := _) (v := undef) rfl (by kernel_rfl) (by kernel_rfl) (by kernel_rfl) (by kernel_rfl) (fun _ _ _ h => h) (Or.inr ⟨by rfl, rfl⟩) (fun _ => hHeld) ?_
                try simp only [Act.put, List.getElem_toArray, List.getElem_cons_succ, List.getElem_cons_zero, List.setIfInBounds_toArray, List.set_cons_zero, List.set_cons_succ]
                refine wpLate_pure (i := 10) (oi := _) (v := undef) rfl (by kernel_rfl) (by kernel_rfl) (by kernel_rfl) (by kernel_rfl) (fun _ _ _ h => h) (Or.inr ⟨by rfl, rfl⟩) (fun _ => hHeld) ?_
                try simp only [Act.put, List.getElem_toArray, List.getElem_cons_succ, List.getElem_cons_zero, List.setIfInBounds_toArray, List.set_cons_zero, List.set_cons_succ]
                refine wpLate_pure (i := 11) (oi := _) (v := undef) rfl (by kernel_rfl) (by kernel_rfl) (by kernel_rfl) (by kernel_rfl) (fun _ _ _ h => h) (Or.inr ⟨by rfl, rfl⟩) (fun _ => hHeld) ?_
                try simp only [Act.put, List.getElem_toArray, List.getElem_cons_succ, List.getElem_cons_zero, List.setIfInBounds_toArray, List.set_cons_zero, List.set_cons_succ]
                refine wpLate_pure (i := 12) (oi := _) (v := undef) rfl (by kernel_rfl) (by kernel_rfl) (by kernel_rfl) (by kernel_rfl) (fun _ _ _ h => h) (Or.inr ⟨by rfl, rfl⟩) (fun _ => hHeld) ?_
                try simp only [Act.put, List.getElem_toArray, List.getElem_cons_succ, List.getElem_cons_zero, List.setIfInBounds_toArray, List.set_cons_zero, List.set_cons_succ]
                refine wpLate_pure (i := 13) (oi := _) (v := undef) rfl (by kernel_rfl) (by kernel_rfl) (by kernel_rfl) (by kernel_rfl) (fun _ _ _ h => h) (Or.inr ⟨by rfl, rfl⟩) (fun _ => hHeld) ?_
                try simp only [Act.put, List.getElem_toArray, List.getElem_cons_succ, List.getElem_cons_zero, List.setIfInBounds_toArray, List.set_cons_zero, List.set_cons_succ]
                refine wpLate_pure (i := 14) (oi := _) (v := undef) rfl (by kernel_rfl) (by kernel_rfl) (by kernel_rfl) (by kernel_rfl) (fun _ _ _ h => h) (Or.inr ⟨by rfl, rfl⟩) (fun _ => hHeld) ?_
                try simp only [Act.put, List.getElem_toArray, List.getElem_cons_succ, List.getElem_cons_zero, List.setIfInBounds_toArray, List.set_cons_zero, List.set_cons_succ]
                refine wpLate_pure (i := 15) (oi := _) (v := ?_) rfl (by kernel_rfl) (by kernel_rfl) (by kernel_rfl) (by kernel_rfl) (fun _ _ _ h => h) (Gives.load (by rfl) ?_) (fun _ => hHeld) ?_
                rotate_left
                · intro w hSw
                  clear hSw
                  go_simp
                  try with_reducible rfl
                try simp only [Act.put, List.getElem_toArray, List.getElem_cons_succ, List.getElem_cons_zero, List.setIfInBounds_toArray, List.set_cons_zero, List.set_cons_succ]
                refine wpLate_pure (i := 16) (oi := _) (v := ?_) rfl (by kernel_rfl) (by kernel_rfl) (by kernel_rfl) (by kernel_rfl) (fun _ _ _ h => h) (Gives.load (by rfl) ?_) (fun _ => hHeld) ?_
                rotate_left
                · intro w hSw
                  clear hSw
                  go_simp
                  try with_reducible rfl
                try simp only [Act.put, List.getElem_toArray, List.getElem_cons_succ, List.getElem_cons_zero, List.setIfInBounds_toArray, List.set_cons_zero, List.set_cons_succ]
                refine wpLate_done (by kernel_rfl) ?_ _
                go_wp2_with fail
                go_meet
                exact ⟨rfl, (Fr.refl [] u6).drew⟩
              case rest =>
                obtain ⟨rfl, gc⟩ := hcut
                have HA := Lib.hid (H6.out.fr0 gc)
                have RA := Lib.hid (HR6.out.fr0 gc)
                have LA : Hid (∀ p ∈ ([] : List (Ms × List Pr)), MOk 136 wc p) := Lib.hid (by simp)
                have NA : Hid (∀ p ∈ ([] : List (Ms × List Pr)), MOk 139 wc p) := Lib.hid (by simp)
                have FA := Lib.hid (F6.out.trans gc (by simp))
                have hsA := gc.size
                clear b0 b1 b2 b3 b4 b5 b6 b7 b8 p0 p1 p2 p3 p4 p5 p6
                obtain ⟨b0, b1, b2, b3, b4, b5, b6, b7, b8⟩ := blk9_facts (gc.blk h96.out (by simp))
                clear gc
                have hle' : (([] : List (Ms × List Pr))).length = (([] : List (Ms × List Pr))).length := rfl
                have hne' : (((([] : List (Ms × List Pr))).length : Int) != ((([] : List (Ms × List Pr))).length : Int)) = false := by rw [hle']; simp
                have HLE := Lib.hid hle'
                clear hle'
                go_wp2_with fail
                refine (qlen_any _ _ _ _ _ _ HA.out).mono ?_
                rintro _ _ ⟨rfl, rfl⟩
                try rw [fsts_len]
                go_wp2_with fail
                refine (qlist_any _ _ _ _ _ _ HA.out (by first | (rw [fsts_len]; omega) | simp)).mono ?_
                rintro _ wl ⟨vl, rfl, ol, gl⟩
                have HV1 : Hid (View wl vl (([] : List (Ms × List Pr))).length ((([] : List (Ms × List Pr))).flatMap fun p => msC p.1)) := Lib.hid (by rw [← fsts_flat, ← fsts_len]; exact own_view ol)
                have HV2 := Lib.hid (RA.out.fr0 gl)
                have HL1 : Hid (∀ p ∈ ([] : List (Ms × List Pr)), MOk 136 wl p) := Lib.hid (fun p hp => (LA.out p hp).fr0 gl)
                have HL2 : Hid (∀ p ∈ ([] : List (Ms × List Pr)), MOk 139 wl p) := Lib.hid (fun p hp => (NA.out p hp).fr0 gl)
                have H8 := Lib.hid (HA.out.fr0 gl)
                have F8 := Lib.hid (FA.out.trans gl (by simp))
                have hs8 := gl.size
                obtain ⟨Avl, cvl, rfl⟩ := own_shape ol
                clear gl ol
                go_wp2_with fail
                refine (is12_any _ _ (([] : List (Ms × List Pr))) (([] : List (Ms × List Pr))) _ HV1.out HV2.out.1.1 (by omega) (Lib.hid rfl : Hid (([] : List (Ms × List Pr)).map lg = ([] : List (Ms × List Pr)).map lg)).out HL1.out HL2.out).mono ?_
                rintro _ wz ⟨rfl, gz⟩
                have H9 := Lib.hid (H8.out.fr0 gz)
                have F9 := Lib.hid (F8.out.trans gz (by simp))
                have R9 := Lib.hid (HV2.out.fr0 gz)
                have M9 : Hid (∀ p ∈ ([] : List (Ms × List Pr)), MOk 136 wz p) := Lib.hid (fun p hp => (HL1.out p hp).fr0 gz)
                have N9 : Hid (∀ p ∈ ([] : List (Ms × List Pr)), MOk 139 wz p) := Lib.hid (fun p hp => (HL2.out p hp).fr0 gz)
                have hs9 := gz.size
                clear gz
                go_wp2
                go_roundw
                case rel => exact ⟨k + 1, v5, ([] : List (Ms × List Pr)), ([] : List (Ms × List Pr)), by go_num, by omega, by omega, H9.out, R9.out, M9, N9, (Lib.hid rfl : Hid (([] : List (Ms × List Pr)).map lg = ([] : List (Ms × List Pr)).map lg)), by omega, by omega, F9.out⟩
                case measure => simp [intOf]; omega
            | cons zx LT =>
              cases RR with
              | nil => exact absurd HE.out (by simp)
              | cons zy RT =>
                have hlg : lg zx = lg zy := by have := HE.out; simp only [List.map_cons, List.cons.injEq] at this; exact this.1
                obtain ⟨⟨zf, za, zq, zr, zA, zn, zc, zt, zp⟩, zps⟩ := zx
                obtain ⟨⟨uf, ua, uq, ur, uA, un, uc, ut, up⟩, ups⟩ := zy
                simp only [lg, Mg.mk.injEq] at hlg
                obtain ⟨rfl, rfl, rfl, rfl, rfl, rfl, rfl⟩ := hlg
                have hkn1 : (kind == 1) = false := by simpa using hkd
                have hkn2 : (kind == 2) = true := by simpa using hk2
                clear hkd hk2
                have hQF := HQY.out
                dsimp only [fsts, List.map] at hQF
                go_wp2_with fail
                refine (qfirst_any _ _ _ _ _ _ hQF).mono ?_
                rintro _ w3 ⟨rfl, g3⟩
                dsimp only [List.headD, List.isEmpty, Bool.not, msC, ms0]
                have fy3 := g3.trans ((Fr.refl [] w3).alloc (.cells #[.string ⟨zf.toArray⟩, .int .i64 za, .int .u8 zq, .bool zr, .slice zA zn zc, .string ⟨zt.toArray⟩, .string ⟨zp.toArray⟩] 29)) (by simp)
                have hs3 : y.heap.size ≤ w3.heap.size := g3.size
                have HQ3 := HQY.out.fr0 fy3
                have HR3 := Lib.hid (HRY.out.fr0 fy3)
                have HL3 : Hid (∀ p ∈ ((⟨zf, za, zq, zr, zA, zn, zc, zt, zp⟩, zps) :: LT), MOk 136 (w3.alloc (.cells #[.string ⟨zf.toArray⟩, .int .i64 za, .int .u8 zq, .bool zr, .slice zA zn zc, .string ⟨zt.toArray⟩, .string ⟨zp.toArray⟩] 29)) p) := Lib.hid (fun p hp => (HLY.out p hp).fr0 fy3)
                have HRR3 : Hid (∀ p ∈ ((⟨zf, za, zq, zr, uA, un, uc, zt, zp⟩, zps) :: RT), MOk 139 (w3.alloc (.cells #[.string ⟨zf.toArray⟩, .int .i64 za, .int .u8 zq, .bool zr, .slice zA zn zc, .string ⟨zt.toArray⟩, .string ⟨zp.toArray⟩] 29)) p) := Lib.hid (fun p hp => (HRRY.out p hp).fr0 fy3)
                have F3 := Lib.hid (FY.out.trans fy3 (by simp))
                have hbx := blk_new w3 (.cells #[.string ⟨zf.toArray⟩, .int .i64 za, .int .u8 zq, .bool zr, .slice zA zn zc, .string ⟨zt.toArray⟩, .string ⟨zp.toArray⟩] 29)
                have h93 := fy3.blk HB9.out (by simp)
                have hvl3 : ∀ b, v.ownBlock = some b → b < w3.heap.size := fun b hb => by have := (HQY.out.2.lt b hb).2; omega
                have HVL := Lib.hid hvl3
                clear g3 fy3 hvl3 hQF
                go_upto_region 20 with (fail)
                obtain ⟨u3, hu3⟩ : ∃ u, w3.alloc (.cells #[.string ⟨zf.toArray⟩, .int .i64 za, .int .u8 zq, .bool zr, .slice zA zn zc, .string ⟨zt.toArray⟩, .string ⟨zp.toArray⟩] 29) = u := ⟨_, rfl⟩
                have hus : u3.heap.size = w3.heap.size + 1 := by rw [← hu3]; simp
                rw [hu3] at HQ3 HR3 HL3 HRR3 F3 hbx h93 ⊢
                have HQ4 := Lib.hid HQ3
                have HBX := Lib.hid hbx
                have H93 := Lib.hid h93
                clear b0 b1 b2 b3 b4 b5 b6 b7 b8 hu3 hbx HQ3
                obtain ⟨b0, b1, b2, b3, b4, b5, b6, b7, b8⟩ := blk9_facts h93
                clear h93
                have hQP := HQ4.out
                dsimp only [fsts, List.map] at hQP
                go_wp2_with fail
                refine (qpop_any2 Q Q v _ m _ hQP (by omega) (by have h9 := hL; simp only [List.length_cons, List.length_map, List.length_nil] at h9 ⊢; omega)).mono ?_
                rintro _ w5 ⟨rfl, v5, H5, g5, hfr5⟩
                dsimp only [List.headD, List.isEmpty, Bool.not, msC, ms0, List.tail] at H5 ⊢
                have hnt : ∀ b ∈ [Q], NotT 136 u3 b := fun b hb => by simp at hb; subst hb; exact NotT.blk HQ4.out.1 (by decide)
                have hnr : ∀ b ∈ [Q], NotT 139 u3 b := fun b hb => by simp at hb; subst hb; exact NotT.blk HQ4.out.1 (by decide)
                have hnm : ∀ b ∈ [Q], NotT 42 u3 b := fun b hb => by simp at hb; subst hb; exact NotT.blk HQ4.out.1 (by decide)
                have hQb : Q ≠ w3.heap.size := by have := blk_lt HQY.out.1; omega
                have hbx5 := g5.blk HBX.out (by simp; omega)
                have h95 := g5.blk H93.out (by
                  simp only [List.mem_singleton]
                  intro h
                  have h1 := HQ4.out.1; have h2 := H93.out; rw [← h] at h1; rw [h1] at h2; cases h2)
                have hw9 : wr.heap.size < w3.heap.size := by omega
                obtain ⟨⟨d0, d1, d2, d3, d4, d5, d6⟩, ⟨k0, k1, k2, k3, k4, k5, k6⟩, _⟩ := blk7_facts hbx5
                have gs := set7_fr w5 w3.heap.size (.string ⟨zf.toArray⟩) (.int .i64 za) (.int .u8 zq) (.bool zr) (.slice zA zn zc) (.string ⟨zt.toArray⟩) (.string ⟨zp.toArray⟩)
                have hnt2 : ∀ b ∈ [w3.heap.size], NotT 136 w5 b := fun b hb => by simp at hb; subst hb; exact NotT.blk hbx5 (by decide)
                have hnr2 : ∀ b ∈ [w3.heap.size], NotT 139 w5 b := fun b hb => by simp at hb; subst hb; exact NotT.blk hbx5 (by decide)
                have hnm2 : ∀ b ∈ [w3.heap.size], NotT 42 w5 b := fun b hb => by simp at hb; subst hb; exact NotT.blk hbx5 (by decide)
                have hx6 := Lib.hid (blk7_set hbx5 (.string ⟨zf.toArray⟩) (.int .i64 za) (.int .u8 zq) (.bool zr) (.slice zA zn zc) (.string ⟨zt.toArray⟩) (.string ⟨zp.toArray⟩))
                have h96 := Lib.hid (gs.blk h95 (by simp; omega))
                have H6 := Lib.hid (H5.fr gs (by simp; omega) (fun b hb => by
                  simp only [List.mem_singleton]
                  intro e
                  rcases hfr5 b hb with h | h
                  · omega
                  · have := HVL.out b h; omega))
                have HR6 := Lib.hid ((HR3.out.fr g5 hnm).fr gs hnm2)
                have HL6 : Hid (∀ p ∈ ((⟨zf, za, zq, zr, zA, zn, zc, zt, zp⟩, zps) :: LT), MOk 136 (set7 w5 w3.heap.size (.string ⟨zf.toArray⟩) (.int .i64 za) (.int .u8 zq) (.bool zr) (.slice zA zn zc) (.string ⟨zt.toArray⟩) (.string ⟨zp.toArray⟩)) p) := Lib.hid (fun p hp => ((HL3.out p hp).fr g5 hnt).fr gs hnt2)
                have HRR6 : Hid (∀ p ∈ ((⟨zf, za, zq, zr, uA, un, uc, zt, zp⟩, zps) :: RT), MOk 139 (set7 w5 w3.heap.size (.string ⟨zf.toArray⟩) (.int .i64 za) (.int .u8 zq) (.bool zr) (.slice zA zn zc) (.string ⟨zt.toArray⟩) (.string ⟨zp.toArray⟩)) p) := Lib.hid (fun p hp => ((HRR3.out p hp).fr g5 hnr).fr gs hnr2)
                have F6 := Lib.hid ((F3.out.trans g5 (by intro x hx h; simp at h; omega)).trans gs (by intro x hx h; simp at h; have := FY.out.size; omega))
                have hs5 := g5.size
                have hs6 := gs.size
                have H5' := Lib.hid H5
                clear H5 hnt hnr hnm hnt2 hnr2 hnm2 g5 gs hfr5 h95 hQP b0 b1 b2 b3 b4 b5 b6 b7 b8
                go_upto_region 22 with (fail)
                change Code.wp _ _ _ _ (set7 w5 w3.heap.size (.string ⟨zf.toArray⟩) (.int .i64 za) (.int .u8 zq) (.bool zr) (.slice zA zn zc) (.string ⟨zt.toArray⟩) (.string ⟨zp.toArray⟩))
                generalize set7 w5 w3.heap.size (.string ⟨zf.toArray⟩) (.int .i64 za) (.int .u8 zq) (.bool zr) (.slice zA zn zc) (.string ⟨zt.toArray⟩) (.string ⟨zp.toArray⟩) = u6 at *
                clear d0 d1 d2 d3 d4 d5 d6 k0 k1 k2 k3 k4 k5 k6 hbx5
                obtain ⟨b0, b1, b2, b3, b4, b5, b6, b7, b8⟩ := blk9_facts h96.out
                have hpz : zps.length ≤ 1000000 := by have := (HL6.out _ List.mem_cons_self).2.1; dsimp only at this; omega
                have HVZ := Lib.hid (show View u6 (.slice zA zn zc) zps.length (zps.flatMap prE) from (HL6.out _ List.mem_cons_self).1.1)
                have HVU := Lib.hid (show View u6 (.slice uA un uc) zps.length (zps.flatMap prE) from (HRR6.out _ List.mem_cons_self).1.1)
                obtain ⟨bl, offl, cl', hel, hbl, hcl⟩ := View.at (enc := fun p : Ms × List Pr => msC p.1) HR6.out.1.1 (fun p => msC_len p.1) (by decide) (by simp)
                cases hel
                have hcl0 := hcl 0 (by simp)
                rw [List.getElem_cons_zero] at hcl0
                simp only [Nat.zero_mul, Nat.add_zero] at hcl0
                have r0 : u6.cell? ⟨bl, offl, none⟩ = some (.string ⟨zf.toArray⟩) := hcl0 0 _ rfl
                have r1 : u6.cell? ⟨bl, offl + 1, none⟩ = some (.int .i64 za) := hcl0 1 _ rfl
                have r2 : u6.cell? ⟨bl, offl + 2, none⟩ = some (.int .u8 zq) := hcl0 2 _ rfl
                have r3 : u6.cell? ⟨bl, offl + 3, none⟩ = some (.bool zr) := hcl0 3 _ rfl
                have r4 : u6.cell? ⟨bl, offl + 4, none⟩ = some (.slice uA un uc) := hcl0 4 _ rfl
                have r5 : u6.cell? ⟨bl, offl + 5, none⟩ = some (.string ⟨zt.toArray⟩) := hcl0 5 _ rfl
                have r6 : u6.cell? ⟨bl, offl + 6, none⟩ = some (.string ⟨zp.toArray⟩) := hcl0 6 _ rfl
                obtain ⟨p0, p1, p2, p3, p4, p5, p6⟩ := (blk7_facts hx6.out).1
                have hgt : decide ((0 : Int) < ((RT.length + 1 : Nat) : Int)) = true := by simp <;> omega
                have hl0 : (0 : Int) < ((RT.length + 1 : Nat) : Int) := by omega
                have hl1 : (1 : Int) ≤ ((RT.length + 1 : Nat) : Int) := by omega
                have hlc0 : RT.length + 1 ≤ cl := by simpa using hlc
                simp only [List.length_cons]
                clear hcl hcl0
                go_region_held3 (fun w' => w'.cell? ⟨w3.heap.size, 0, none⟩ = some (.string ⟨zf.toArray⟩) ∧ w'.cell? ⟨w3.heap.size, 1, none⟩ = some (.int .i64 za) ∧ w'.cell? ⟨w3.heap.size, 2, none⟩ = some (.int .u8 zq) ∧ w'.cell? ⟨w3.heap.size, 3, none⟩ = some (.bool zr) ∧ w'.cell? ⟨w3.heap.size, 4, none⟩ = some (.slice zA zn zc) ∧ w'.cell? ⟨w3.heap.size, 5, none⟩ = some (.string ⟨zt.toArray⟩) ∧ w'.cell? ⟨w3.heap.size, 6, none⟩ = some (.string ⟨zp.toArray⟩) ∧ w'.cell? ⟨bl, offl, none⟩ = some (.string ⟨zf.toArray⟩) ∧ w'.cell? ⟨bl, offl + 1, none⟩ = some (.int .i64 za) ∧ w'.cell? ⟨bl, offl + 2, none⟩ = some (.int .u8 zq) ∧ w'.cell? ⟨bl, offl + 3, none⟩ = some (.bool zr) ∧ w'.cell? ⟨bl, offl + 4, none⟩ = some (.slice uA un uc) ∧ w'.cell? ⟨bl, offl + 5, none⟩ = some (.string ⟨zt.toArray⟩) ∧ w'.cell? ⟨bl, offl + 6, none⟩ = some (.string ⟨zp.toArray⟩)) (first | go_keep | exact kk) (first | (go_at_call 21; refine (told12_any ⟨zf, za, zq, zr, zA, zn, zc, zt, zp⟩ zps _ (HVZ.out.fr (S := []) ((Fr.refl [] u6).drew) (by simp)) hpz).mono ?_; rintro _ y1 ⟨A8, c8, rfl, tv8, g8⟩; dsimp only [msC]; have kk := (show (fun w' : World => w'.cell? ⟨w3.heap.size, 0, none⟩ = some (.string ⟨zf.toArray⟩) ∧ w'.cell? ⟨w3.heap.size, 1, none⟩ = some (.int .i64 za) ∧ w'.cell? ⟨w3.heap.size, 2, none⟩ = some (.int .u8 zq) ∧ w'.cell? ⟨w3.heap.size, 3, none⟩ = some (.bool zr) ∧ w'.cell? ⟨w3.heap.size, 4, none⟩ = some (.slice zA zn zc) ∧ w'.cell? ⟨w3.heap.size, 5, none⟩ = some (.string ⟨zt.toArray⟩) ∧ w'.cell? ⟨w3.heap.size, 6, none⟩ = some (.string ⟨zp.toArray⟩) ∧ w'.cell? ⟨bl, offl, none⟩ = some (.string ⟨zf.toArray⟩) ∧ w'.cell? ⟨bl, offl + 1, none⟩ = some (.int .i64 za) ∧ w'.cell? ⟨bl, offl + 2, none⟩ = some (.int .u8 zq) ∧ w'.cell? ⟨bl, offl + 3, none⟩ = some (.bool zr) ∧ w'.cell? ⟨bl, offl + 4, none⟩ = some (.slice uA un uc) ∧ w'.cell? ⟨bl, offl + 5, none⟩ = some (.string ⟨zt.toArray⟩) ∧ w'.cell? ⟨bl, offl + 6, none⟩ = some (.string ⟨zp.toArray⟩)) y1 from ⟨(((Fr.refl [] u6).drew).trans g8 (by simp)).cell p0 (by simp), (((Fr.refl [] u6).drew).trans g8 (by simp)).cell p1 (by simp), (((Fr.refl [] u6).drew).trans g8 (by simp)).cell p2 (by simp), (((Fr.refl [] u6).drew).trans g8 (by simp)).cell p3 (by simp), (((Fr.refl [] u6).drew).trans g8 (by simp)).cell p4 (by simp), (((Fr.refl [] u6).drew).trans g8 (by simp)).cell p5 (by simp), (((Fr.refl [] u6).drew).trans g8 (by simp)).cell p6 (by simp), (((Fr.refl [] u6).drew).trans g8 (by simp)).cell r0 (by simp), (((Fr.refl [] u6).drew).trans g8 (by simp)).cell r1 (by simp), (((Fr.refl [] u6).drew).trans g8 (by simp)).cell r2 (by simp), (((Fr.refl [] u6).drew).trans g8 (by simp)).cell r3 (by simp), (((Fr.refl [] u6).drew).trans g8 (by simp)).cell r4 (by simp), (((Fr.refl [] u6).drew).trans g8 (by simp)).cell r5 (by simp), (((Fr.refl [] u6).drew).trans g8 (by simp)).cell r6 (by simp)⟩)) | (go_at_call 20; refine (same12_any ⟨zf, za, zq, zr, A8, zps.length, c8, zt, zp⟩ ⟨zf, za, zq, zr, uA, un, uc, zt, zp⟩ zps _ tv8.1 (HVU.out.fr (S := []) (((Fr.refl [] u6).drew).trans g8 (by simp)) (by simp)) hpz rfl).mono ?_; rintro _ y3 ⟨rfl, g10⟩; have kk := (show (fun w' : World => w'.cell? ⟨w3.heap.size, 0, none⟩ = some (.string ⟨zf.toArray⟩) ∧ w'.cell? ⟨w3.heap.size, 1, none⟩ = some (.int .i64 za) ∧ w'.cell? ⟨w3.heap.size, 2, none⟩ = some (.int .u8 zq) ∧ w'.cell? ⟨w3.heap.size, 3, none⟩ = some (.bool zr) ∧ w'.cell? ⟨w3.heap.size, 4, none⟩ = some (.slice zA zn zc) ∧ w'.cell? ⟨w3.heap.size, 5, none⟩ = some (.string ⟨zt.toArray⟩) ∧ w'.cell? ⟨w3.heap.size, 6, none⟩ = some (.string ⟨zp.toArray⟩) ∧ w'.cell? ⟨bl, offl, none⟩ = some (.string ⟨zf.toArray⟩) ∧ w'.cell? ⟨bl, offl + 1, none⟩ = some (.int .i64 za) ∧ w'.cell? ⟨bl, offl + 2, none⟩ = some (.int .u8 zq) ∧ w'.cell? ⟨bl, offl + 3, none⟩ = some (.bool zr) ∧ w'.cell? ⟨bl, offl + 4, none⟩ = some (.slice uA un uc) ∧ w'.cell? ⟨bl, offl + 5, none⟩ = some (.string ⟨zt.toArray⟩) ∧ w'.cell? ⟨bl, offl + 6, none⟩ = some (.string ⟨zp.toArray⟩)) y3 from ⟨((((Fr.refl [] u6).drew).trans g8 (by simp)).trans g10 (by simp)).cell p0 (by simp), ((((Fr.refl [] u6).drew).trans g8 (by simp)).trans g10 (by simp)).cell p1 (by simp), ((((Fr.refl [] u6).drew).trans g8 (by simp)).trans g10 (by simp)).cell p2 (by simp), ((((Fr.refl [] u6).drew).trans g8 (by simp)).trans g10 (by simp)).cell p3 (by simp), ((((Fr.refl [] u6).drew).trans g8 (by simp)).trans g10 (by simp)).cell p4 (by simp), ((((Fr.refl [] u6).drew).trans g8 (by simp)).trans g10 (by simp)).cell p5 (by simp), ((((Fr.refl [] u6).drew).trans g8 (by simp)).trans g10 (by simp)).cell p6 (by simp), ((((Fr.refl [] u6).drew).trans g8 (by simp)).trans g10 (by simp)).cell r0 (by simp), ((((Fr.refl [] u6).drew).trans g8 (by simp)).trans g10 (by simp)).cell r1 (by simp), ((((Fr.refl [] u6).drew).trans g8 (by simp)).trans g10 (by simp)).cell r2 (by simp), ((((Fr.refl [] u6).drew).trans g8 (by simp)).trans g10 (by simp)).cell r3 (by simp), ((((Fr.refl [] u6).drew).trans g8 (by simp)).trans g10 (by simp)).cell r4 (by simp), ((((Fr.refl [] u6).drew).trans g8 (by simp)).trans g10 (by simp)).cell r5 (by simp), ((((Fr.refl [] u6).drew).trans g8 (by simp)).trans g10 (by simp)).cell r6 (by simp)⟩)))
                have G3 := Lib.hid ((((Fr.refl [] u6).drew).trans g8 (by simp)).trans g10 (by simp))
                clear kk g8 g10 tv8 p0 p1 p2 p3 p4 p5 p6 r0 r1 r2 r3 r4 r5 r6
                have HA := Lib.hid (H6.out.fr0 G3.out)
                have RA := Lib.hid (HR6.out.fr0 G3.out)
                have LA : Hid (∀ p ∈ ((⟨zf, za, zq, zr, zA, zn, zc, zt, zp⟩, zps) :: LT), MOk 136 y3 p) := Lib.hid (fun p hp => (HL6.out p hp).fr0 G3.out)
                have NA : Hid (∀ p ∈ ((⟨zf, za, zq, zr, uA, un, uc, zt, zp⟩, zps) :: RT), MOk 139 y3 p) := Lib.hid (fun p hp => (HRR6.out p hp).fr0 G3.out)
                have FA := Lib.hid (F6.out.trans G3.out (by simp))
                have hsA := G3.out.size
                clear b0 b1 b2 b3 b4 b5 b6 b7 b8
                obtain ⟨b0, b1, b2, b3, b4, b5, b6, b7, b8⟩ := blk9_facts (G3.out.blk h96.out (by simp))
                obtain ⟨At, hAt, RT1⟩ : ∃ At : Option Addr, (if cl = 1 then some (⟨bl, offl, none⟩ : Addr) else some ⟨bl, offl + 7, none⟩) = At ∧ Hid (RView y3 (.slice At RT.length (cl - 1)) RT) := ⟨_, rfl, Lib.hid (RView.tail RA.out)⟩
                have LT1 := Lib.hid (fun p (hp : p ∈ LT) => LA.out p (List.mem_cons_of_mem _ hp))
                have NT1 := Lib.hid (fun p (hp : p ∈ RT) => NA.out p (List.mem_cons_of_mem _ hp))
                have HE1 : Hid (LT.map lg = RT.map lg) := Lib.hid (by have := HE.out; simp only [List.map_cons, List.cons.injEq] at this; exact this.2)
                have HAT : Hid (QAt y3 Q Q v5 (fsts LT) m) := HA
                simp only [List.length_cons] at hL hR40
                have hle' : (LT).length = (RT).length := by have := congrArg List.length HE1.out; simpa using this
                have hne' : (((LT).length : Int) != ((RT).length : Int)) = false := by rw [hle']; simp
                have HLE := Lib.hid hle'
                clear hle'
                go_wp2_with fail
                refine (qlen_any _ _ _ _ _ _ HAT.out).mono ?_
                rintro _ _ ⟨rfl, rfl⟩
                try rw [fsts_len]
                go_wp2_with fail
                refine (qlist_any _ _ _ _ _ _ HAT.out (by first | (rw [fsts_len]; omega) | simp)).mono ?_
                rintro _ wl ⟨vl, rfl, ol, gl⟩
                have HV1 : Hid (View wl vl (LT).length ((LT).flatMap fun p => msC p.1)) := Lib.hid (by rw [← fsts_flat, ← fsts_len]; exact own_view ol)
                have HV2 := Lib.hid (RT1.out.fr0 gl)
                have HL1 : Hid (∀ p ∈ LT, MOk 136 wl p) := Lib.hid (fun p hp => (LT1.out p hp).fr0 gl)
                have HL2 : Hid (∀ p ∈ RT, MOk 139 wl p) := Lib.hid (fun p hp => (NT1.out p hp).fr0 gl)
                have H8 := Lib.hid (HAT.out.fr0 gl)
                have F8 := Lib.hid (FA.out.trans gl (by simp))
                have hs8 := gl.size
                obtain ⟨Avl, cvl, rfl⟩ := own_shape ol
                clear gl ol
                go_wp2_with fail
                refine (is12_any _ _ (LT) (RT) _ HV1.out HV2.out.1.1 (by omega) HE1.out HL1.out HL2.out).mono ?_
                rintro _ wz ⟨rfl, gz⟩
                have H9 := Lib.hid (H8.out.fr0 gz)
                have F9 := Lib.hid (F8.out.trans gz (by simp))
                have R9 := Lib.hid (HV2.out.fr0 gz)
                have M9 : Hid (∀ p ∈ LT, MOk 136 wz p) := Lib.hid (fun p hp => (HL1.out p hp).fr0 gz)
                have N9 : Hid (∀ p ∈ RT, MOk 139 wz p) := Lib.hid (fun p hp => (HL2.out p hp).fr0 gz)
                have hs9 := gz.size
                clear gz
                go_wp2
                go_roundw
                case rel => exact ⟨k + 1, v5, LT, RT, by go_num, by omega, by omega, H9.out, R9.out, M9, N9, HE1, by omega, by omega, F9.out⟩
                case measure => simp [intOf]; omega
          · by_cases hk4 : kind = 4
            · cases LL with
              | nil =>
                obtain rfl : RR = [] := by have := HE.out; simpa [eq_comm] using this
                have hkn1 : (kind == 1) = false := by simpa using hkd
                have hkn2 : (kind == 2) = false := by simpa using hk2
                have hkn4 : (kind == 4) = true := by simpa using hk4
                clear hk4
                clear hkd hk2
                have hQF := HQY.out
                dsimp only [fsts, List.map] at hQF
                go_wp2_with fail
                refine (qfirst_any _ _ _ _ _ _ hQF).mono ?_
                rintro _ w3 ⟨rfl, g3⟩
                dsimp only [List.headD, List.isEmpty, Bool.not, msC, ms0]
                have fy3 := g3.trans ((Fr.refl [] w3).alloc (.cells #[.string ⟨#[]⟩, .int .i64 0, .int .u8 0, .bool false, .slice none 0 0, .string ⟨#[]⟩, .string ⟨#[]⟩] 29)) (by simp)
                have hs3 : y.heap.size ≤ w3.heap.size := g3.size
                have HQ3 := HQY.out.fr0 fy3
                have HR3 := Lib.hid (HRY.out.fr0 fy3)
                have HL3 : Hid (∀ p ∈ ([] : List (Ms × List Pr)), MOk 136 (w3.alloc (.cells #[.string ⟨#[]⟩, .int .i64 0, .int .u8 0, .bool false, .slice none 0 0, .string ⟨#[]⟩, .string ⟨#[]⟩] 29)) p) := Lib.hid (fun p hp => (HLY.out p hp).fr0 fy3)
                have HRR3 : Hid (∀ p ∈ ([] : List (Ms × List Pr)), MOk 139 (w3.alloc (.cells #[.string ⟨#[]⟩, .int .i64 0, .int .u8 0, .bool false, .slice none 0 0, .string ⟨#[]⟩, .string ⟨#[]⟩] 29)) p) := Lib.hid (fun p hp => (HRRY.out p hp).fr0 fy3)
                have F3 := Lib.hid (FY.out.trans fy3 (by simp))
                have hbx := blk_new w3 (.cells #[.string ⟨#[]⟩, .int .i64 0, .int .u8 0, .bool false, .slice none 0 0, .string ⟨#[]⟩, .string ⟨#[]⟩] 29)
                have h93 := fy3.blk HB9.out (by simp)
                have hvl3 : ∀ b, v.ownBlock = some b → b < w3.heap.size := fun b hb => by have := (HQY.out.2.lt b hb).2; omega
                have HVL := Lib.hid hvl3
                clear g3 fy3 hvl3 hQF
                go_upto_region 20 with (fail)
                obtain ⟨u3, hu3⟩ : ∃ u, w3.alloc (.cells #[.string ⟨#[]⟩, .int .i64 0, .int .u8 0, .bool false, .slice none 0 0, .string ⟨#[]⟩, .string ⟨#[]⟩] 29) = u := ⟨_, rfl⟩
                have hus : u3.heap.size = w3.heap.size + 1 := by rw [← hu3]; simp
                rw [hu3] at HQ3 HR3 HL3 HRR3 F3 hbx h93 ⊢
                have HQ4 := Lib.hid HQ3
                have HBX := Lib.hid hbx
                have H93 := Lib.hid h93
                clear b0 b1 b2 b3 b4 b5 b6 b7 b8 hu3 hbx HQ3
                obtain ⟨b0, b1, b2, b3, b4, b5, b6, b7, b8⟩ := blk9_facts h93
                clear h93
                go_upto_region 22 with (fail)
                obtain ⟨p0, p1, p2, p3, p4, p5, p6⟩ := (blk7_facts HBX.out).1
                try simp only [List.length_nil]
                go_cut [109] (fun v109 wx => v109 = .bool false ∧ Fr [] u3 wx)
                case first =>
                  refine wp_region_late [] (S := fun _ => True) (by kernel_rfl) trivial (fun hHeld => ?_)
                  refine wpLate_pure (i := 0) (oi := _) (v := ?_) rfl (by kernel_rfl) (by kernel_rfl) (by kernel_rfl) (by kernel_rfl) (fun _ _ _ h => h) (Gives.load (by rfl) ?_) (fun _ => hHeld) ?_
                  rotate_left
                  · intro w hSw
                    clear hSw
                    go_simp
                    try with_reducible rfl
                  try simp only [Act.put, List.getElem_toArray, List.getElem_cons_succ, List.getElem_cons_zero, List.setIfInBounds_toArray, List.set_cons_zero, List.set_cons_succ]
                  refine wpLate_pure (i := 1) (oi := _) (v := ?_) rfl (by kernel_rfl) (by kernel_rfl) (by kernel_rfl) (by kernel_rfl) (fun _ _ _ h => h) (Gives.load (by rfl) ?_) (fun _ => hHeld) ?_
                  rotate_left
                  · intro w hSw
                    clear hSw
                    go_simp
                    try with_reducible rfl
                  try simp only [Act.put, List.getElem_toArray, List.getElem_cons_succ, List.getElem_cons_zero, List.setIfInBounds_toArray, List.set_cons_zero, List.set_cons_succ]
                  refine wpLate_pure (i := 2) (oi := _) (v := ?_) rfl (by kernel_rfl) (by kernel_rfl) (by kernel_rfl) (by kernel_rfl) (fun _ _ _ h => h) (Gives.load (by rfl) ?_) (fun _ => hHeld) ?_
                  rotate_left
                  · intro w hSw
                    clear hSw
                    go_simp
                    try with_reducible rfl
                  try simp only [Act.put, List.getElem_toArray, List.getElem_cons_succ, List.getElem_cons_zero, List.setIfInBounds_toArray, List.set_cons_zero, List.set_cons_succ]
                  refine wpLate_pure (i := 3) (oi := _) (v := ?_) rfl (by kernel_rfl) (by kernel_rfl) (by kernel_rfl) (by kernel_rfl) (fun _ _ _ h => h) (Gives.load (by rfl) ?_) (fun _ => hHeld) ?_
                  rotate_left
                  · intro w hSw
                    clear hSw
                    go_simp
                    try with_reducible rfl
                  try simp only [Act.put, List.getElem_toArray, List.getElem_cons_succ, List.getElem_cons_zero, List.setIfInBounds_toArray, List.set_cons_zero, List.set_cons_succ]
                  refine wpLate_pure (i := 4) (oi := _) (v := ?_) rfl (by kernel_rfl) (by kernel_rfl) (by kernel_rfl) (by kernel_rfl) (fun _ _ _ h => h) (Gives.load (by rfl) ?_) (fun _ => hHeld) ?_
                  rotate_left
                  · intro w hSw
                    clear hSw
                    go_simp
                    try with_reducible rfl
                  try simp only [Act.put, List.getElem_toArray, List.getElem_cons_succ, List.getElem_cons_zero, List.setIfInBounds_toArray, List.set_cons_zero, List.set_cons_succ]
                  refine wpLate_pure (i := 5) (oi := _) (v := ?_) rfl (by kernel_rfl) (by kernel_rfl) (by kernel_rfl) (by kernel_rfl) (fun _ _ _ h => h) (Gives.load (by rfl) ?_) (fun _ => hHeld) ?_
                  rotate_left
                  · intro w hSw
                    clear hSw
                    go_simp
                    try with_reducible rfl
                  try simp only [Act.put, List.getElem_toArray, List.getElem_cons_succ, List.getElem_cons_zero, List.setIfInBounds_toArray, List.set_cons_zero, List.set_cons_succ]
                  refine wpLate_pure (i := 6) (oi := _) (v := ?_) rfl (by kernel_rfl) (by kernel_rfl) (by kernel_rfl) (by kernel_rfl) (fun _ _ _ h => h) (Gives.load (by rfl) ?_) (fun _ => hHeld) ?_
                  rotate_left
                  · intro w hSw
                    clear hSw
                    go_simp
                    try with_reducible rfl
                  try simp only [Act.put, List.getElem_toArray, List.getElem_cons_succ, List.getElem_cons_zero, List.setIfInBounds_toArray, List.set_cons_zero, List.set_cons_succ]
                  refine wpLate_pure (i := 7) (oi := _) (v := ?_) rfl (by kernel_rfl) (by kernel_rfl) (by kernel_rfl) (by kernel_rfl) (fun _ _ _ h => h) (Gives.load (by rfl) ?_) (fun _ => hHeld) ?_
                  rotate_left
                  · intro w hSw
                    clear hSw
                    go_simp
                    try with_reducible rfl
                  try simp only [Act.put, List.getElem_toArray, List.getElem_cons_succ, List.getElem_cons_zero, List.setIfInBounds_toArray, List.set_cons_zero, List.set_cons_succ]
                  refine wpLate_pure (i := 8) (oi := _) (v := undef) rfl (by kernel_rfl) (by kernel_rfl) (by kernel_rfl) (by kernel_rfl) (fun _ _ _ h => h) (Or.inr ⟨by rfl, rfl⟩) (fun _ => hHeld) ?_
                  try simp only [Act.put, List.getElem_toArray, List.getElem_cons_succ, List.getElem_cons_zero, List.setIfInBounds_toArray, List.set_cons_zero, List.set_cons_succ]
                  refine wpLate_pure (i := 9) (oi := _) (v := undef) rfl (by kernel_rfl) (by kernel_rfl) (by kernel_rfl) (by kernel_rfl) (fun _ _ _ h => h) (Or.inr ⟨by rfl, rfl⟩) (fun _ => hHeld) ?_
                  try simp only [Act.put, List.getElem_toArray, List.getElem_cons_succ, List.getElem_cons_zero, List.setIfInBounds_toArray, List.set_cons_zero, List.set_cons_succ]
                  refine wpLate_pure (i := 10) (oi := _) (v := undef) rfl (by kernel_rfl) (by kernel_rfl) (by kernel_rfl) (by kernel_rfl) (fun _ _ _ h => h) (Or.inr ⟨by rfl, rfl⟩) (fun _ => hHeld) ?_
                  try simp only [Act.put, List.getElem_toArray, List.getElem_cons_succ, List.getElem_cons_zero, List.setIfInBounds_toArray, List.set_cons_zero, List.set_cons_succ]
                  refine wpLate_pure (i := 11) (oi := _) (v := undef) rfl (by kernel_rfl) (by kernel_rfl) (by kernel_rfl) (by kernel_rfl) (fun _ _ _ h => h) (Or.inr ⟨by rfl, rfl⟩) (fun _ => hHeld) ?_
                  try simp only [Act.put, List.getElem_toArray, List.getElem_cons_succ, List.getElem_cons_zero, List.setIfInBounds_toArray, List.set_cons_zero, List.set_cons_succ]
                  refine wpLate_pure (i := 12) (oi := _) (v := undef) rfl (by kernel_rfl) (by kernel_rfl) (by kernel_rfl) (by kernel_rfl) (fun _ _ _ h => h) (Or.inr ⟨by rfl, rfl⟩) (fun _ => hHeld) ?_
                  try simp only [Act.put, List.getElem_toArray, List.getElem_cons_succ, List.getElem_cons_zero, List.setIfInBounds_toArray, List.set_cons_zero, List.set_cons_succ]
                  refine wpLate_pure (i := 13) (oi := _) (v := undef) rfl (by kernel_rfl) (by kernel_rfl) (by kernel_rfl) (by kernel_rfl) (fun _ _ _ h => h) (Or.inr ⟨by rfl, rfl⟩) (fun _ => hHeld) ?_
                  try simp only [Act.put, List.getElem_toArray, List.getElem_cons_succ, List.getElem_cons_zero, List.setIfInBounds_toArray, List.set_cons_zero, List.set_cons_succ]
                  refine wpLate_pure (i := 14) (oi := _) (v := undef) rfl (by kernel_rfl) (by kernel_rfl) (by kernel_rfl) (by kernel_rfl) (fun _ _ _ h => h) (Or.inr ⟨by rfl, rfl⟩) (fun _ => hHeld) ?_
                  try simp only [Act.put, List.getElem_toArray, List.getElem_cons_succ, List.getElem_cons_zero, List.setIfInBounds_toArray, List.set_cons_zero, List.set_cons_succ]
                  refine wpLate_pure (i := 15) (oi := _) (v := ?_) rfl (by kernel_rfl) (by kernel_rfl) (by kernel_rfl) (by kernel_rfl) (fun _ _ _ h => h) (Gives.load (by rfl) ?_) (fun _ => hHeld) ?_
                  rotate_left
                  · intro w hSw
                    clear hSw
                    go_simp
                    try with_reducible rfl
                  try simp only [Act.put, List.getElem_toArray, List.getElem_cons_succ, List.getElem_cons_zero, List.setIfInBounds_toArray, List.set_cons_zero, List.set_cons_succ]
                  refine wpLate_pure (i := 16) (oi := _) (v := ?_) rfl (by kernel_rfl) (by kernel_rfl) (by kernel_rfl) (by kernel_rfl) (fun _ _ _ h => h) (Gives.load (by rfl) ?_) (fun _ => hHeld) ?_
                  rotate_left
                  · intro w hSw
                    clear hSw
                    go_simp
                    try with_reducible rfl
                  try simp only [Act.put, List.getElem_toArray, List.getElem_cons_succ, List.getElem_cons_zero, List.setIfInBounds_toArray, List.set_cons_zero, List.set_cons_succ]
                  refine wpLate_done (by kernel_rfl) ?_ _
                  go_wp2_with fail
                  go_meet
                  exact ⟨rfl, (Fr.refl [] u3).drew⟩
                case rest =>
                  obtain ⟨rfl, gc⟩ := hcut
                  have HA := Lib.hid (HQ4.out.fr0 gc)
                  have RA := Lib.hid (HR3.out.fr0 gc)
                  have LA : Hid (∀ p ∈ ([] : List (Ms × List Pr)), MOk 136 wc p) := Lib.hid (by simp)
                  have NA : Hid (∀ p ∈ ([] : List (Ms × List Pr)), MOk 139 wc p) := Lib.hid (by simp)
                  have FA := Lib.hid (F3.out.trans gc (by simp))
                  have hsA := gc.size
                  clear b0 b1 b2 b3 b4 b5 b6 b7 b8 p0 p1 p2 p3 p4 p5 p6
                  obtain ⟨b0, b1, b2, b3, b4, b5, b6, b7, b8⟩ := blk9_facts (gc.blk H93.out (by simp))
                  clear gc
                  have hle' : (([] : List (Ms × List Pr))).length = (([] : List (Ms × List Pr))).length := rfl
                  have hne' : (((([] : List (Ms × List Pr))).length : Int) != ((([] : List (Ms × List Pr))).length : Int)) = false := by rw [hle']; simp
                  have HLE := Lib.hid hle'
                  clear hle'
                  go_wp2_with fail
                  refine (qlen_any _ _ _ _ _ _ HA.out).mono ?_
                  rintro _ _ ⟨rfl, rfl⟩
                  try rw [fsts_len]
                  go_wp2_with fail
                  refine (qlist_any _ _ _ _ _ _ HA.out (by first | (rw [fsts_len]; omega) | simp)).mono ?_
                  rintro _ wl ⟨vl, rfl, ol, gl⟩
                  have HV1 : Hid (View wl vl (([] : List (Ms × List Pr))).length ((([] : List (Ms × List Pr))).flatMap fun p => msC p.1)) := Lib.hid (by rw [← fsts_flat, ← fsts_len]; exact own_view ol)
                  have HV2 := Lib.hid (RA.out.fr0 gl)
                  have HL1 : Hid (∀ p ∈ ([] : List (Ms × List Pr)), MOk 136 wl p) := Lib.hid (fun p hp => (LA.out p hp).fr0 gl)
                  have HL2 : Hid (∀ p ∈ ([] : List (Ms × List Pr)), MOk 139 wl p) := Lib.hid (fun p hp => (NA.out p hp).fr0 gl)
                  have H8 := Lib.hid (HA.out.fr0 gl)
                  have F8 := Lib.hid (FA.out.trans gl (by simp))
                  have hs8 := gl.size
                  obtain ⟨Avl, cvl, rfl⟩ := own_shape ol
                  clear gl ol
                  go_wp2_with fail
                  refine (is12_any _ _ (([] : List (Ms × List Pr))) (([] : List (Ms × List Pr))) _ HV1.out HV2.out.1.1 (by omega) (Lib.hid rfl : Hid (([] : List (Ms × List Pr)).map lg = ([] : List (Ms × List Pr)).map lg)).out HL1.out HL2.out).mono ?_
                  rintro _ wz ⟨rfl, gz⟩
                  have H9 := Lib.hid (H8.out.fr0 gz)
                  have F9 := Lib.hid (F8.out.trans gz (by simp))
                  have R9 := Lib.hid (HV2.out.fr0 gz)
                  have M9 : Hid (∀ p ∈ ([] : List (Ms × List Pr)), MOk 136 wz p) := Lib.hid (fun p hp => (HL1.out p hp).fr0 gz)
                  have N9 : Hid (∀ p ∈ ([] : List (Ms × List Pr)), MOk 139 wz p) := Lib.hid (fun p hp => (HL2.out p hp).fr0 gz)
                  have hs9 := gz.size
                  clear gz
                  go_wp2
                  go_roundw
                  case rel => exact ⟨k + 1, v, ([] : List (Ms × List Pr)), ([] : List (Ms × List Pr)), by go_num, by omega, by omega, H9.out, R9.out, M9, N9, (Lib.hid rfl : Hid (([] : List (Ms × List Pr)).map lg = ([] : List (Ms × List Pr)).map lg)), by omega, by omega, F9.out⟩
                  case measure => simp [intOf]; omega
              | cons zx LT =>
                cases RR with
                | nil => exact absurd HE.out (by simp)
                | cons zy RT =>
                  have hlg : lg zx = lg zy := by have := HE.out; simp only [List.map_cons, List.cons.injEq] at this; exact this.1
                  obtain ⟨⟨zf, za, zq, zr, zA, zn, zc, zt, zp⟩, zps⟩ := zx
                  obtain ⟨⟨uf, ua, uq, ur, uA, un, uc, ut, up⟩, ups⟩ := zy
                  simp only [lg, Mg.mk.injEq] at hlg
                  obtain ⟨rfl, rfl, rfl, rfl, rfl, rfl, rfl⟩ := hlg
                  have hkn1 : (kind == 1) = false := by simpa using hkd
                  have hkn2 : (kind == 2) = false := by simpa using hk2
                  have hkn4 : (kind == 4) = true := by simpa using hk4
                  clear hk4
                  clear hkd hk2
                  have hQF := HQY.out
                  dsimp only [fsts, List.map] at hQF
                  go_wp2_with fail
                  refine (qfirst_any _ _ _ _ _ _ hQF).mono ?_
                  rintro _ w3 ⟨rfl, g3⟩
                  dsimp only [List.headD, List.isEmpty, Bool.not, msC, ms0]
                  have fy3 := g3.trans ((Fr.refl [] w3).alloc (.cells #[.string ⟨zf.toArray⟩, .int .i64 za, .int .u8 zq, .bool zr, .slice zA zn zc, .string ⟨zt.toArray⟩, .string ⟨zp.toArray⟩] 29)) (by simp)
                  have hs3 : y.heap.size ≤ w3.heap.size := g3.size
                  have HQ3 := HQY.out.fr0 fy3
                  have HR3 := Lib.hid (HRY.out.fr0 fy3)
                  have HL3 : Hid (∀ p ∈ ((⟨zf, za, zq, zr, zA, zn, zc, zt, zp⟩, zps) :: LT), MOk 136 (w3.alloc (.cells #[.string ⟨zf.toArray⟩, .int .i64 za, .int .u8 zq, .bool zr, .slice zA zn zc, .string ⟨zt.toArray⟩, .string ⟨zp.toArray⟩] 29)) p) := Lib.hid (fun p hp => (HLY.out p hp).fr0 fy3)
                  have HRR3 : Hid (∀ p ∈ ((⟨zf, za, zq, zr, uA, un, uc, zt, zp⟩, zps) :: RT), MOk 139 (w3.alloc (.cells #[.string ⟨zf.toArray⟩, .int .i64 za, .int .u8 zq, .bool zr, .slice zA zn zc, .string ⟨zt.toArray⟩, .string ⟨zp.toArray⟩] 29)) p) := Lib.hid (fun p hp => (HRRY.out p hp).fr0 fy3)
                  have F3 := Lib.hid (FY.out.trans fy3 (by simp))
                  have hbx := blk_new w3 (.cells #[.string ⟨zf.toArray⟩, .int .i64 za, .int .u8 zq, .bool zr, .slice zA zn zc, .string ⟨zt.toArray⟩, .string ⟨zp.toArray⟩] 29)
                  have h93 := fy3.blk HB9.out (by simp)
                  have hvl3 : ∀ b, v.ownBlock = some b → b < w3.heap.size := fun b hb => by have := (HQY.out.2.lt b hb).2; omega
                  have HVL := Lib.hid hvl3
                  clear g3 fy3 hvl3 hQF
                  go_upto_region 20 with (fail)
                  obtain ⟨u3, hu3⟩ : ∃ u, w3.alloc (.cells #[.string ⟨zf.toArray⟩, .int .i64 za, .int .u8 zq, .bool zr, .slice zA zn zc, .string ⟨zt.toArray⟩, .string ⟨zp.toArray⟩] 29) = u := ⟨_, rfl⟩
                  have hus : u3.heap.size = w3.heap.size + 1 := by rw [← hu3]; simp
                  rw [hu3] at HQ3 HR3 HL3 HRR3 F3 hbx h93 ⊢
                  have HQ4 := Lib.hid HQ3
                  have HBX := Lib.hid hbx
                  have H93 := Lib.hid h93
                  clear b0 b1 b2 b3 b4 b5 b6 b7 b8 hu3 hbx HQ3
                  obtain ⟨b0, b1, b2, b3, b4, b5, b6, b7, b8⟩ := blk9_facts h93
                  clear h93
                  go_upto_region 22 with (fail)
                  have hpz : zps.length ≤ 1000000 := by have := (HL3.out _ List.mem_cons_self).2.1; dsimp only at this; omega
                  have HVZ := Lib.hid (show View u3 (.slice zA zn zc) zps.length (zps.flatMap prE) from (HL3.out _ List.mem_cons_self).1.1)
                  have HVU := Lib.hid (show View u3 (.slice uA un uc) zps.length (zps.flatMap prE) from (HRR3.out _ List.mem_cons_self).1.1)
                  obtain ⟨bl, offl, cl', hel, hbl, hcl⟩ := View.at (enc := fun p : Ms × List Pr => msC p.1) HR3.out.1.1 (fun p => msC_len p.1) (by decide) (by simp)
                  cases hel
                  have hcl0 := hcl 0 (by simp)
                  rw [List.getElem_cons_zero] at hcl0
                  simp only [Nat.zero_mul, Nat.add_zero] at hcl0
                  have r0 : u3.cell? ⟨bl, offl, none⟩ = some (.string ⟨zf.toArray⟩) := hcl0 0 _ rfl
                  have r1 : u3.cell? ⟨bl, offl + 1, none⟩ = some (.int .i64 za) := hcl0 1 _ rfl
                  have r2 : u3.cell? ⟨bl, offl + 2, none⟩ = some (.int .u8 zq) := hcl0 2 _ rfl
                  have r3 : u3.cell? ⟨bl, offl + 3, none⟩ = some (.bool zr) := hcl0 3 _ rfl
                  have r4 : u3.cell? ⟨bl, offl + 4, none⟩ = some (.slice uA un uc) := hcl0 4 _ rfl
                  have r5 : u3.cell? ⟨bl, offl + 5, none⟩ = some (.string ⟨zt.toArray⟩) := hcl0 5 _ rfl
                  have r6 : u3.cell? ⟨bl, offl + 6, none⟩ = some (.string ⟨zp.toArray⟩) := hcl0 6 _ rfl
                  obtain ⟨p0, p1, p2, p3, p4, p5, p6⟩ := (blk7_facts HBX.out).1
                  have hgt : decide ((0 : Int) < ((RT.length + 1 : Nat) : Int)) = true := by simp <;> omega
                  have hl0 : (0 : Int) < ((RT.length + 1 : Nat) : Int) := by omega
                  have hl1 : (1 : Int) ≤ ((RT.length + 1 : Nat) : Int) := by omega
                  have hlc0 : RT.length + 1 ≤ cl := by simpa using hlc
                  simp only [List.length_cons]
                  clear hcl hcl0
                  go_region_held3 (fun w' => w'.cell? ⟨w3.heap.size, 0, none⟩ = some (.string ⟨zf.toArray⟩) ∧ w'.cell? ⟨w3.heap.size, 1, none⟩ = some (.int .i64 za) ∧ w'.cell? ⟨w3.heap.size, 2, none⟩ = some (.int .u8 zq) ∧ w'.cell? ⟨w3.heap.size, 3, none⟩ = some (.bool zr) ∧ w'.cell? ⟨w3.heap.size, 4, none⟩ = some (.slice zA zn zc) ∧ w'.cell? ⟨w3.heap.size, 5, none⟩ = some (.string ⟨zt.toArray⟩) ∧ w'.cell? ⟨w3.heap.size, 6, none⟩ = some (.string ⟨zp.toArray⟩) ∧ w'.cell? ⟨bl, offl, none⟩ = some (.string ⟨zf.toArray⟩) ∧ w'.cell? ⟨bl, offl + 1, none⟩ = some (.int .i64 za) ∧ w'.cell? ⟨bl, offl + 2, none⟩ = some (.int .u8 zq) ∧ w'.cell? ⟨bl, offl + 3, none⟩ = some (.bool zr) ∧ w'.cell? ⟨bl, offl + 4, none⟩ = some (.slice uA un uc) ∧ w'.cell? ⟨bl, offl + 5, none⟩ = some (.string ⟨zt.toArray⟩) ∧ w'.cell? ⟨bl, offl + 6, none⟩ = some (.string ⟨zp.toArray⟩)) (first | go_keep | exact kk) (first | (go_at_call 21; refine (told12_any ⟨zf, za, zq, zr, zA, zn, zc, zt, zp⟩ zps _ (HVZ.out.fr (S := []) ((Fr.refl [] u3).drew) (by simp)) hpz).mono ?_; rintro _ y1 ⟨A8, c8, rfl, tv8, g8⟩; dsimp only [msC]; have kk := (show (fun w' : World => w'.cell? ⟨w3.heap.size, 0, none⟩ = some (.string ⟨zf.toArray⟩) ∧ w'.cell? ⟨w3.heap.size, 1, none⟩ = some (.int .i64 za) ∧ w'.cell? ⟨w3.heap.size, 2, none⟩ = some (.int .u8 zq) ∧ w'.cell? ⟨w3.heap.size, 3, none⟩ = some (.bool zr) ∧ w'.cell? ⟨w3.heap.size, 4, none⟩ = some (.slice zA zn zc) ∧ w'.cell? ⟨w3.heap.size, 5, none⟩ = some (.string ⟨zt.toArray⟩) ∧ w'.cell? ⟨w3.heap.size, 6, none⟩ = some (.string ⟨zp.toArray⟩) ∧ w'.cell? ⟨bl, offl, none⟩ = some (.string ⟨zf.toArray⟩) ∧ w'.cell? ⟨bl, offl + 1, none⟩ = some (.int .i64 za) ∧ w'.cell? ⟨bl, offl + 2, none⟩ = some (.int .u8 zq) ∧ w'.cell? ⟨bl, offl + 3, none⟩ = some (.bool zr) ∧ w'.cell? ⟨bl, offl + 4, none⟩ = some (.slice uA un uc) ∧ w'.cell? ⟨bl, offl + 5, none⟩ = some (.string ⟨zt.toArray⟩) ∧ w'.cell? ⟨bl, offl + 6, none⟩ = some (.string ⟨zp.toArray⟩)) y1 from ⟨(((Fr.refl [] u3).drew).trans g8 (by simp)).cell p0 (by simp), (((Fr.refl [] u3).drew).trans g8 (by simp)).cell p1 (by simp), (((Fr.refl [] u3).drew).trans g8 (by simp)).cell p2 (by simp), (((Fr.refl [] u3).drew).trans g8 (by simp)).cell p3 (by simp), (((Fr.refl [] u3).drew).trans g8 (by simp)).cell p4 (by simp), (((Fr.refl [] u3).drew).trans g8 (by simp)).cell p5 (by simp), (((Fr.refl [] u3).drew).trans g8 (by simp)).cell p6 (by simp), (((Fr.refl [] u3).drew).trans g8 (by simp)).cell r0 (by simp), (((Fr.refl [] u3).drew).trans g8 (by simp)).cell r1 (by simp), (((Fr.refl [] u3).drew).trans g8 (by simp)).cell r2 (by simp), (((Fr.refl [] u3).drew).trans g8 (by simp)).cell r3 (by simp), (((Fr.refl [] u3).drew).trans g8 (by simp)).cell r4 (by simp), (((Fr.refl [] u3).drew).trans g8 (by simp)).cell r5 (by simp), (((Fr.refl [] u3).drew).trans g8 (by simp)).cell r6 (by simp)⟩)) | (go_at_call 20; refine (same12_any ⟨zf, za, zq, zr, A8, zps.length, c8, zt, zp⟩ ⟨zf, za, zq, zr, uA, un, uc, zt, zp⟩ zps _ tv8.1 (HVU.out.fr (S := []) (((Fr.refl [] u3).drew).trans g8 (by simp)) (by simp)) hpz rfl).mono ?_; rintro _ y3 ⟨rfl, g10⟩; have kk := (show (fun w' : World => w'.cell? ⟨w3.heap.size, 0, none⟩ = some (.string ⟨zf.toArray⟩) ∧ w'.cell? ⟨w3.heap.size, 1, none⟩ = some (.int .i64 za) ∧ w'.cell? ⟨w3.heap.size, 2, none⟩ = some (.int .u8 zq) ∧ w'.cell? ⟨w3.heap.size, 3, none⟩ = some (.bool zr) ∧ w'.cell? ⟨w3.heap.size, 4, none⟩ = some (.slice zA zn zc) ∧ w'.cell? ⟨w3.heap.size, 5, none⟩ = some (.string ⟨zt.toArray⟩) ∧ w'.cell? ⟨w3.heap.size, 6, none⟩ = some (.string ⟨zp.toArray⟩) ∧ w'.cell? ⟨bl, offl, none⟩ = some (.string ⟨zf.toArray⟩) ∧ w'.cell? ⟨bl, offl + 1, none⟩ = some (.int .i64 za) ∧ w'.cell? ⟨bl, offl + 2, none⟩ = some (.int .u8 zq) ∧ w'.cell? ⟨bl, offl + 3, none⟩ = some (.bool zr) ∧ w'.cell? ⟨bl, offl + 4, none⟩ = some (.slice uA un uc) ∧ w'.cell? ⟨bl, offl + 5, none⟩ = some (.string ⟨zt.toArray⟩) ∧ w'.cell? ⟨bl, offl + 6, none⟩ = some (.string ⟨zp.toArray⟩)) y3 from ⟨((((Fr.refl [] u3).drew).trans g8 (by simp)).trans g10 (by simp)).cell p0 (by simp), ((((Fr.refl [] u3).drew).trans g8 (by simp)).trans g10 (by simp)).cell p1 (by simp), ((((Fr.refl [] u3).drew).trans g8 (by simp)).trans g10 (by simp)).cell p2 (by simp), ((((Fr.refl [] u3).drew).trans g8 (by simp)).trans g10 (by simp)).cell p3 (by simp), ((((Fr.refl [] u3).drew).trans g8 (by simp)).trans g10 (by simp)).cell p4 (by simp), ((((Fr.refl [] u3).drew).trans g8 (by simp)).trans g10 (by simp)).cell p5 (by simp), ((((Fr.refl [] u3).drew).trans g8 (by simp)).trans g10 (by simp)).cell p6 (by simp), ((((Fr.refl [] u3).drew).trans g8 (by simp)).trans g10 (by simp)).cell r0 (by simp), ((((Fr.refl [] u3).drew).trans g8 (by simp)).trans g10 (by simp)).cell r1 (by simp), ((((Fr.refl [] u3).drew).trans g8 (by simp)).trans g10 (by simp)).cell r2 (by simp), ((((Fr.refl [] u3).drew).trans g8 (by simp)).trans g10 (by simp)).cell r3 (by simp), ((((Fr.refl [] u3).drew).trans g8 (by simp)).trans g10 (by simp)).cell r4 (by simp), ((((Fr.refl [] u3).drew).trans g8 (by simp)).trans g10 (by simp)).cell r5 (by simp), ((((Fr.refl [] u3).drew).trans g8 (by simp)).trans g10 (by simp)).cell r6 (by simp)⟩)))
                  have G3 := Lib.hid ((((Fr.refl [] u3).drew).trans g8 (by simp)).trans g10 (by simp))
                  clear kk g8 g10 tv8 p0 p1 p2 p3 p4 p5 p6 r0 r1 r2 r3 r4 r5 r6
                  have HA := Lib.hid (HQ4.out.fr0 G3.out)
                  have RA := Lib.hid (HR3.out.fr0 G3.out)
                  have LA : Hid (∀ p ∈ ((⟨zf, za, zq, zr, zA, zn, zc, zt, zp⟩, zps) :: LT), MOk 136 y3 p) := Lib.hid (fun p hp => (HL3.out p hp).fr0 G3.out)
                  have NA : Hid (∀ p ∈ ((⟨zf, za, zq, zr, uA, un, uc, zt, zp⟩, zps) :: RT), MOk 139 y3 p) := Lib.hid (fun p hp => (HRR3.out p hp).fr0 G3.out)
                  have FA := Lib.hid (F3.out.trans G3.out (by simp))
                  have hsA := G3.out.size
                  clear b0 b1 b2 b3 b4 b5 b6 b7 b8
                  obtain ⟨b0, b1, b2, b3, b4, b5, b6, b7, b8⟩ := blk9_facts (G3.out.blk H93.out (by simp))
                  obtain ⟨LZ, hLZ⟩ : ∃ LZ, ((⟨zf, za, zq, zr, zA, zn, zc, zt, zp⟩, zps) :: LT) = LZ := ⟨_, rfl⟩
                  obtain ⟨RZ, hRZ⟩ : ∃ RZ, ((⟨zf, za, zq, zr, uA, un, uc, zt, zp⟩, zps) :: RT) = RZ := ⟨_, rfl⟩
                  have hrl : RT.length + 1 = RZ.length := by rw [← hRZ]; rfl
                  have hLk : LZ.length ≤ k := by rw [← hLZ]; exact hL
                  have hRk : RZ.length ≤ k := by rw [← hRZ]; exact hR40
                  have HB := HA.out
                  have RB := RA.out
                  have LB := LA.out
                  have NB := NA.out
                  have EB := HE.out
                  rw [hLZ] at HB LB EB
                  rw [hRZ] at RB NB EB
                  rw [hrl]
                  have HB' := Lib.hid HB
                  have RB' := Lib.hid RB
                  have LB' := Lib.hid LB
                  have NB' := Lib.hid NB
                  have EB' := Lib.hid EB
                  clear hLZ hRZ hrl HB RB LB NB EB HA RA LA NA HE hL hR40
                  have hle' : (LZ).length = (RZ).length := by have := congrArg List.length EB'.out; simpa using this
                  have hne' : (((LZ).length : Int) != ((RZ).length : Int)) = false := by rw [hle']; simp
                  have HLE := Lib.hid hle'
                  clear hle'
                  go_wp2_with fail
                  refine (qlen_any _ _ _ _ _ _ HB'.out).mono ?_
                  rintro _ _ ⟨rfl, rfl⟩
                  try rw [fsts_len]
                  go_wp2_with fail
                  refine (qlist_any _ _ _ _ _ _ HB'.out (by first | (rw [fsts_len]; omega) | simp)).mono ?_
                  rintro _ wl ⟨vl, rfl, ol, gl⟩
                  have HV1 : Hid (View wl vl (LZ).length ((LZ).flatMap fun p => msC p.1)) := Lib.hid (by rw [← fsts_flat, ← fsts_len]; exact own_view ol)
                  have HV2 := Lib.hid (RB'.out.fr0 gl)
                  have HL1 : Hid (∀ p ∈ LZ, MOk 136 wl p) := Lib.hid (fun p hp => (LB'.out p hp).fr0 gl)
                  have HL2 : Hid (∀ p ∈ RZ, MOk 139 wl p) := Lib.hid (fun p hp => (NB'.out p hp).fr0 gl)
                  have H8 := Lib.hid (HB'.out.fr0 gl)
                  have F8 := Lib.hid (FA.out.trans gl (by simp))
                  have hs8 := gl.size
                  obtain ⟨Avl, cvl, rfl⟩ := own_shape ol
                  clear gl ol
                  go_wp2_with fail
                  refine (is12_any _ _ (LZ) (RZ) _ HV1.out HV2.out.1.1 (by omega) EB'.out HL1.out HL2.out).mono ?_
                  rintro _ wz ⟨rfl, gz⟩
                  have H9 := Lib.hid (H8.out.fr0 gz)
                  have F9 := Lib.hid (F8.out.trans gz (by simp))
                  have R9 := Lib.hid (HV2.out.fr0 gz)
                  have M9 : Hid (∀ p ∈ LZ, MOk 136 wz p) := Lib.hid (fun p hp => (HL1.out p hp).fr0 gz)
                  have N9 : Hid (∀ p ∈ RZ, MOk 139 wz p) := Lib.hid (fun p hp => (HL2.out p hp).fr0 gz)
                  have hs9 := gz.size
                  clear gz
                  go_wp2
                  go_roundw
                  case rel => exact ⟨k + 1, v, LZ, RZ, by go_num, by omega, by omega, H9.out, R9.out, M9, N9, EB', by omega, by omega, F9.out⟩
                  case measure => simp [intOf]; omega
            · by_cases hk3 : kind = 3
              · have hkn1 : (kind == 1) = false := by simpa using hkd
                have hkn2 : (kind == 2) = false := by simpa using hk2
                have hkn4 : (kind == 4) = false := by simpa using hk4
                have hkn3 : (kind == 3) = true := by simpa using hk3
                clear hkd hk2 hk4 hk3
                go_wp2_with fail
                refine (tick_any nw _).mono ?_
                rintro _ _ ⟨rfl, rfl⟩
                have ht1 := tickN_le nw
                generalize tickN nw = ta at *
                go_wp2_with fail
                refine (rparts_any _ RR ta _ HRY.out.1.1 (by omega) HRRY.out (by omega) (by omega)).mono ?_
                rintro _ w3 ⟨vs3, vo3, rfl, oo3, os3, g3⟩
                rw [fsts_len, fsts_flat] at oo3 os3
                have RO3 := Lib.hid (RView.own oo3)
                have RS3 := Lib.hid (RView.own os3)
                obtain ⟨Ao3, co3, rfl⟩ := own_shape oo3
                obtain ⟨As3, cs3, rfl⟩ := own_shape os3
                have H3 := Lib.hid (HQY.out.fr0 g3)
                have F3 := Lib.hid (FY.out.trans g3 (by simp))
                have HL3 : Hid (∀ p ∈ LL, MOk 136 w3 p) := Lib.hid (fun p hp => (HLY.out p hp).fr0 g3)
                have HR3 : Hid (∀ p ∈ RR, MOk 139 w3 p) := Lib.hid (fun p hp => (HRRY.out p hp).fr0 g3)
                have hs3 := g3.size
                have hfb := filter_both LL RR ta HE.out
                have HEG := Lib.hid hfb.1
                have HES := Lib.hid hfb.2
                have hllg := List.length_filter_le (goneP ta) LL
                have hlls := List.length_filter_le (fun p => !goneP ta p) LL
                have hlrs := List.length_filter_le (fun p => !goneP ta p) RR
                clear hfb g3 oo3 os3
                go_wp2_with fail
                refine (qexpire_any Q Q v LL m ta _ H3.out (by omega) (by omega) HL3.out (by omega) (by omega)).mono ?_
                rintro _ w4 ⟨vx4, vq4, rfl, ox4, hq4, g4⟩
                have hnt : ∀ b ∈ [Q], NotT 136 w3 b := fun b hb => by simp at hb; subst hb; exact NotT.blk H3.out.1 (by decide)
                have hnr : ∀ b ∈ [Q], NotT 139 w3 b := fun b hb => by simp at hb; subst hb; exact NotT.blk H3.out.1 (by decide)
                have hnm : ∀ b ∈ [Q], NotT 42 w3 b := fun b hb => by simp at hb; subst hb; exact NotT.blk H3.out.1 (by decide)
                have H4 := Lib.hid hq4
                have F4 := Lib.hid (F3.out.trans g4 (by intro x hx h; simp at h; omega))
                have RO4 := Lib.hid (RO3.out.fr g4 hnm)
                have RS4 := Lib.hid (RS3.out.fr g4 hnm)
                have LG4 : Hid (∀ p ∈ LL.filter (goneP ta), MOk 136 w4 p) := Lib.hid (fun p hp => (HL3.out p (List.mem_filter.1 hp).1).fr g4 hnt)
                have LS4 : Hid (∀ p ∈ LL.filter (fun p => !goneP ta p), MOk 136 w4 p) := Lib.hid (fun p hp => (HL3.out p (List.mem_filter.1 hp).1).fr g4 hnt)
                have RG4 : Hid (∀ p ∈ RR.filter (goneP ta), MOk 139 w4 p) := Lib.hid (fun p hp => (HR3.out p (List.mem_filter.1 hp).1).fr g4 hnr)
                have RT4 : Hid (∀ p ∈ RR.filter (fun p => !goneP ta p), MOk 139 w4 p) := Lib.hid (fun p hp => (HR3.out p (List.mem_filter.1 hp).1).fr g4 hnr)
                rw [fsts_len, fsts_flat] at ox4
                have VX4 := Lib.hid (own_view ox4)
                obtain ⟨Ax4, cx4, rfl⟩ := own_shape ox4
                have hs4 := g4.size
                clear g4 hq4 ox4 hnt hnr hnm
                generalize LL.filter (goneP ta) = LG at *
                generalize RR.filter (goneP ta) = RG at *
                generalize LL.filter (fun p => !goneP ta p) = LS at *
                generalize RR.filter (fun p => !goneP ta p) = RS at *
                go_wp2_with fail
                refine (is12_any _ _ LG RG _ VX4.out RO4.out.1.1 (by omega) HEG.out LG4.out RG4.out).mono ?_
                rintro _ w5 ⟨rfl, g5⟩
                have H5 := Lib.hid (H4.out.fr0 g5)
                have F5 := Lib.hid (F4.out.trans g5 (by simp))
                have RS5 := Lib.hid (RS4.out.fr0 g5)
                have LS5 : Hid (∀ p ∈ LS, MOk 136 w5 p) := Lib.hid (fun p hp => (LS4.out p hp).fr0 g5)
                have RT5 : Hid (∀ p ∈ RS, MOk 139 w5 p) := Lib.hid (fun p hp => (RT4.out p hp).fr0 g5)
                have hs5 := g5.size
                clear g5
                have hle' : (LS).length = (RS).length := by have := congrArg List.length HES.out; simpa using this
                have hne' : (((LS).length : Int) != ((RS).length : Int)) = false := by rw [hle']; simp
                have HLE := Lib.hid hle'
                clear hle'
                go_wp2_with fail
                refine (qlen_any _ _ _ _ _ _ H5.out).mono ?_
                rintro _ _ ⟨rfl, rfl⟩
                try rw [fsts_len]
                go_wp2_with fail
                refine (qlist_any _ _ _ _ _ _ H5.out (by first | (rw [fsts_len]; omega) | simp)).mono ?_
                rintro _ wl ⟨vl, rfl, ol, gl⟩
                have HV1 : Hid (View wl vl (LS).length ((LS).flatMap fun p => msC p.1)) := Lib.hid (by rw [← fsts_flat, ← fsts_len]; exact own_view ol)
                have HV2 := Lib.hid (RS5.out.fr0 gl)
                have HL1 : Hid (∀ p ∈ LS, MOk 136 wl p) := Lib.hid (fun p hp => (LS5.out p hp).fr0 gl)
                have HL2 : Hid (∀ p ∈ RS, MOk 139 wl p) := Lib.hid (fun p hp => (RT5.out p hp).fr0 gl)
                have H8 := Lib.hid (H5.out.fr0 gl)
                have F8 := Lib.hid (F5.out.trans gl (by simp))
                have hs8 := gl.size
                obtain ⟨Avl, cvl, rfl⟩ := own_shape ol
                clear gl ol
                go_wp2_with fail
                refine (is12_any _ _ (LS) (RS) _ HV1.out HV2.out.1.1 (by omega) HES.out HL1.out HL2.out).mono ?_
                rintro _ wz ⟨rfl, gz⟩
                have H9 := Lib.hid (H8.out.fr0 gz)
                have F9 := Lib.hid (F8.out.trans gz (by simp))
                have R9 := Lib.hid (HV2.out.fr0 gz)
                have M9 : Hid (∀ p ∈ LS, MOk 136 wz p) := Lib.hid (fun p hp => (HL1.out p hp).fr0 gz)
                have N9 : Hid (∀ p ∈ RS, MOk 139 wz p) := Lib.hid (fun p hp => (HL2.out p hp).fr0 gz)
                have hs9 := gz.size
                clear gz
                go_wp2
                go_roundw
                case rel => exact ⟨k + 1, vq4, LS, RS, by go_num, by omega, by omega, H9.out, R9.out, M9, N9, HES, by omega, by omega, F9.out⟩
                case measure => simp [intOf]; omega
              · have hkn1 : (kind == 1) = false := by simpa using hkd
                have hkn2 : (kind == 2) = false := by simpa using hk2
                have hkn4 : (kind == 4) = false := by simpa using hk4
                have hkn3 : (kind == 3) = false := by simpa using hk3
                clear hkd hk2 hk4 hk3
                have hle' : (LL).length = (RR).length := by have := congrArg List.length HE.out; simpa using this
                have hne' : (((LL).length : Int) != ((RR).length : Int)) = false := by rw [hle']; simp
                have HLE := Lib.hid hle'
                clear hle'
                go_wp2_with fail
                refine (qlen_any _ _ _ _ _ _ HQY.out).mono ?_
                rintro _ _ ⟨rfl, rfl⟩
                try rw [fsts_len]
                go_wp2_with fail
                refine (qlist_any _ _ _ _ _ _ HQY.out (by first | (rw [fsts_len]; omega) | simp)).mono ?_
                rintro _ wl ⟨vl, rfl, ol, gl⟩
                have HV1 : Hid (View wl vl (LL).length ((LL).flatMap fun p => msC p.1)) := Lib.hid (by rw [← fsts_flat, ← fsts_len]; exact own_view ol)
                have HV2 := Lib.hid (HRY.out.fr0 gl)
                have HL1 : Hid (∀ p ∈ LL, MOk 136 wl p) := Lib.hid (fun p hp => (HLY.out p hp).fr0 gl)
                have HL2 : Hid (∀ p ∈ RR, MOk 139 wl p) := Lib.hid (fun p hp => (HRRY.out p hp).fr0 gl)
                have H8 := Lib.hid (HQY.out.fr0 gl)
                have F8 := Lib.hid (FY.out.trans gl (by simp))
                have hs8 := gl.size
                obtain ⟨Avl, cvl, rfl⟩ := own_shape ol
                clear gl ol
                go_wp2_with fail
                refine (is12_any _ _ (LL) (RR) _ HV1.out HV2.out.1.1 (by omega) HE.out HL1.out HL2.out).mono ?_
                rintro _ wz ⟨rfl, gz⟩
                have H9 := Lib.hid (H8.out.fr0 gz)
                have F9 := Lib.hid (F8.out.trans gz (by simp))
                have R9 := Lib.hid (HV2.out.fr0 gz)
                have M9 : Hid (∀ p ∈ LL, MOk 136 wz p) := Lib.hid (fun p hp => (HL1.out p hp).fr0 gz)
                have N9 : Hid (∀ p ∈ RR, MOk 139 wz p) := Lib.hid (fun p hp => (HL2.out p hp).fr0 gz)
                have hs9 := gz.size
                clear gz
                go_wp2
                go_roundw
                case rel => exact ⟨k + 1, v, LL, RR, by go_num, by omega, by omega, H9.out, R9.out, M9, N9, HE, by omega, by omega, F9.out⟩
                case measure => simp [intOf]; omega

      · have h40 : decide ((k : Int) < 40) = false := by simpa using hlt4
        go_wp2
        go_ret
        exact ⟨rfl, HF.out⟩
    · have hk1 : decide (k < f1.length) = false := by simpa using hlt
      go_wp2
      go_ret
      exact ⟨rfl, HF.out⟩
end Go.Proofs.Ytnplinohoflabaa
