/- The walk of the law QueueRoom. -/
import Derived.Test.YtnplinohoflabaaQueueHeavy
import Derived.Test.YtnplinohoflabaaQueI
namespace Go.Proofs.Ytnplinohoflabaa
open Go.RowKit
set_option linter.unusedSimpArgs false
set_option linter.unusedVariables false

theorem push_room {α : Type} (lt : α → Bool) (l : List α) (x : α) (most : Nat) (h : l.length < most) : pushG lt l x most = (l ++ [x], none) := by rw [pushG, if_pos h]
theorem push_light {α : Type} (lt : α → Bool) (l : List α) (x : α) (most : Nat) (h : ¬ l.length < most) (hx : lt x = true) : pushG lt l x most = (l, some x) := by
  rw [pushG, if_neg h]
  cases l.findIdx? lt with
  | none => rfl
  | some i => dsimp only; rw [if_pos hx]
set_option maxHeartbeats 4000000 in
set_option maxRecDepth 100000 in
theorem queueRoom_walk (x0 : Option Addr) (y0 z0 : Nat) (f0 : List (Ms × List Pr)) (W : World) (H0 : MsIn W (.slice x0 y0 z0) f0) :
    Calls Try.prog 4 #[.slice x0 y0 z0] W fun e w' => e = .returned (.bool true) ∧ Fr [] W w' := by
  have hyl : y0 = f0.length := by
    obtain ⟨_, ⟨_, _, he, _⟩, _⟩ := H0
    injection he
  subst hyl
  have hl1 := H0.1
  have HM := Lib.hid H0
  clear H0
  obtain ⟨m, hm⟩ : ∃ m : Nat, min f0.length 20 = m := ⟨_, rfl⟩
  have hm1 : m ≤ f0.length := by omega
  have hm20 : m ≤ 20 := by omega
  have HMN := Lib.hid hm
  clear hm
  go_enter Try.func4, Try.ntmps4
  go_wp2_with fail
  refine (awake16_any _).mono ?_
  rintro _ w1 ⟨rfl, F1⟩
  go_upto_region 3 with (fail)
  go_cut [3] (fun v3 wx => v3 = .int .i64 (m : Int) ∧ w1 = wx)
  case first =>
    go_wp2
    all_goals go_meet
    all_goals exact ⟨by have := HMN.out; congr 1; omega, rfl⟩
  case rest =>
    obtain ⟨rfl, rfl⟩ := hcut
    go_wp2_with fail
    refine (qnew_any m w1).mono ?_
    rintro _ w2 ⟨rfl, rfl⟩
    rw [show max (m : Int) 0 = (m : Int) from by omega]
    have hQ : W.heap.size ≤ w1.heap.size := F1.size
    have hq0 : QAt (w1.alloc (.cells #[.slice none 0 0, .int .i64 (m : Int)] 100)) w1.heap.size w1.heap.size (.slice none 0 0) [] m := ⟨blk_new w1 _, World.ownsRow_nil _ _ _ _⟩
    have F2 : Fr [] W (w1.alloc (.cells #[.slice none 0 0, .int .i64 (m : Int)] 100)) := F1.alloc _
    generalize w1.heap.size = Q at *
    generalize w1.alloc (.cells #[.slice none 0 0, .int .i64 (m : Int)] 100) = w2 at *
    clear F1
    go_wp2
    go_loopw [5] (fun i wr => ∃ (k : Nat) (v : Value) (L : List Ms), i = .int .i64 k ∧ k ≤ m ∧ QAt wr Q Q v L m ∧ L.length = k ∧ Q ≤ wr.heap.size ∧ Fr [] W wr) (fun i _ => m - (intOf i).toNat)
    case atStart => exact ⟨0, _, [], rfl, by omega, hq0, rfl, by have := blk_lt hq0.1; omega, F2⟩
    case round =>
      clear hq0 F2
      obtain ⟨k, v, L, rfl, hk, hq, hL, hQr, hfr⟩ := hrel
      have HF := Lib.hid hfr
      have HQ := Lib.hid hq
      have HL := Lib.hid hL
      clear hfr hq hL
      by_cases hkm : k < m
      · have hlt : k < f0.length := by omega
        have hki : decide (k < m) = true := by simpa using hkm
        obtain ⟨bb, off, c', hsl, hbb, hc⟩ := HM.out.at (by omega)
        cases hsl
        have hcell := hc k hlt
        have hin := HM.out.2.2 f0[k] (List.getElem_mem hlt)
        generalize f0[k] = p at *
        obtain ⟨x, ps⟩ := p
        dsimp only at hcell hin
        obtain ⟨hv, hpl, hok, hqb, hab, hs1, hs2, hs3⟩ := hin
        have hfew := few12_any x ps wr (hv.fr HF.out (by simp)) hpl (fun y hy => (hok y hy).2) hs1 hs2 hs3
        have hfok := fewR_ok ps hok
        unfold FewTo12 at hfew
        obtain ⟨fr, at_, qs, rt, A, n, c, tp, py⟩ := x
        have c0 : wr.cell? ⟨bb, off + k * 7, none⟩ = some (.string ⟨fr.toArray⟩) := HF.out.cell (hcell 0 _ rfl) (by simp)
        have c1 : wr.cell? ⟨bb, off + k * 7 + 1, none⟩ = some (.int .i64 at_) := HF.out.cell (hcell 1 _ rfl) (by simp)
        have c2 : wr.cell? ⟨bb, off + k * 7 + 2, none⟩ = some (.int .u8 qs) := HF.out.cell (hcell 2 _ rfl) (by simp)
        have c3 : wr.cell? ⟨bb, off + k * 7 + 3, none⟩ = some (.bool rt) := HF.out.cell (hcell 3 _ rfl) (by simp)
        have c4 : wr.cell? ⟨bb, off + k * 7 + 4, none⟩ = some (.slice A n c) := HF.out.cell (hcell 4 _ rfl) (by simp)
        have c5 : wr.cell? ⟨bb, off + k * 7 + 5, none⟩ = some (.string ⟨tp.toArray⟩) := HF.out.cell (hcell 5 _ rfl) (by simp)
        have c6 : wr.cell? ⟨bb, off + k * 7 + 6, none⟩ = some (.string ⟨py.toArray⟩) := HF.out.cell (hcell 6 _ rfl) (by simp)
        have htick := tickN_le at_
        have HFew := Lib.hid hfew
        have HFK := Lib.hid hfok
        have HQB := Lib.hid hqb
        clear hcell hc hfew hfok hv hok hqb hab hs1 hs2 hs3 hpl
        go_wp2_with fail
        refine HFew.out.mono ?_
        rintro _ w3 ⟨A3, d3, rfl, tv3, g3⟩
        clear c0 c1 c2 c3 c4 c5 c6 HFew
        try dsimp only at tv3
        have hok3 : MOk 136 w3 ((⟨fr.take 10, tickN at_, qs, rt, A3, (fewR ps).length, d3, tp.take 30, py.take 30⟩ : Ms), fewR ps) := ⟨tv3, HFK.out.1, fun x hx => (HFK.out.2 x hx).1, by dsimp only; omega, by dsimp only; omega⟩
        have hqb3 := HQB.out
        try dsimp only at hqb3
        clear HFK tv3 htick HQB
        try dsimp only
        generalize fewR ps = ps' at *
        generalize fr.take 10 = fr at *
        generalize tickN at_ = at_ at *
        generalize tp.take 30 = tp at *
        generalize py.take 30 = py at *
        have HK3 := Lib.hid hok3
        clear hok3
        try dsimp only [msC]
        have FC := Lib.hid ((HF.out.trans g3 (by simp)).alloc (.cells #[.string ⟨fr.toArray⟩, .int .i64 at_, .int .u8 qs, .bool rt, .slice A3 ps'.length d3, .string ⟨tp.toArray⟩, .string ⟨py.toArray⟩] 29))
        have HQ3 := Lib.hid ((HQ.out.fr0 g3).fr0 ((Fr.refl [] w3).alloc (.cells #[.string ⟨fr.toArray⟩, .int .i64 at_, .int .u8 qs, .bool rt, .slice A3 ps'.length d3, .string ⟨tp.toArray⟩, .string ⟨py.toArray⟩] 29)))
        replace HK3 := Lib.hid (HK3.out.fr0 ((Fr.refl [] w3).alloc (.cells #[.string ⟨fr.toArray⟩, .int .i64 at_, .int .u8 qs, .bool rt, .slice A3 ps'.length d3, .string ⟨tp.toArray⟩, .string ⟨py.toArray⟩] 29)))
        have hbm := blk_new w3 (.cells #[.string ⟨fr.toArray⟩, .int .i64 at_, .int .u8 qs, .bool rt, .slice A3 ps'.length d3, .string ⟨tp.toArray⟩, .string ⟨py.toArray⟩] 29)
        have hQ3 := g3.size
        go_upto_region 9 with (fail)
        obtain ⟨y, hy⟩ : ∃ y, w3.alloc (.cells #[.string ⟨fr.toArray⟩, .int .i64 at_, .int .u8 qs, .bool rt, .slice A3 ps'.length d3, .string ⟨tp.toArray⟩, .string ⟨py.toArray⟩] 29) = y := ⟨_, rfl⟩
        have hys : y.heap.size = w3.heap.size + 1 := by rw [← hy]; simp
        rw [hy] at FC HQ3 hbm HK3 ⊢
        have HB := Lib.hid hbm
        obtain ⟨⟨e0, e1, e2, e3, e4, e5, e6⟩, _, _⟩ := blk7_facts hbm
        clear hy g3 hbm
        have hlen : (L ++ [(⟨fr, at_, qs, rt, A3, ps'.length, d3, tp, py⟩ : Ms)]).length = k + 1 := by rw [List.length_append, HL.out]; rfl
        have hne : ((k : Int) + 1 != (k : Int) + 1) = false := by simp
        have HP := Lib.hid (push_room ltMs L ⟨fr, at_, qs, rt, A3, ps'.length, d3, tp, py⟩ m (by rw [HL.out]; exact hkm))
        have HN := Lib.hid hlen
        have HGE : Hid ((L ++ [(⟨fr, at_, qs, rt, A3, ps'.length, d3, tp, py⟩ : Ms)])[k]? = some ⟨fr, at_, qs, rt, A3, ps'.length, d3, tp, py⟩) := Lib.hid (by rw [List.getElem?_append_right (by rw [HL.out]; exact Nat.le_refl _), HL.out, Nat.sub_self]; rfl)
        have hl6 : L.length < 1000000 := by rw [HL.out]; omega
        clear hlen
        go_wp2_with fail
        refine (qpush_eq Q Q v L m ⟨fr, at_, qs, rt, A3, ps'.length, d3, tp, py⟩ _ HQ3.out (by omega) hl6 (by omega) (L ++ [(⟨fr, at_, qs, rt, A3, ps'.length, d3, tp, py⟩ : Ms)]) none ms0 false HP.out rfl rfl).mono ?_
        rintro _ w5 ⟨v5, rfl, H5, g5⟩
        have F5 := FC.out.que g5 HQ3.out hQ hQ
        have hNT : ∀ k ∈ Q :: v.ownBlock.toList, NotT 136 y k := by
          intro k hk
          rcases List.mem_cons.1 hk with rfl | hk
          · exact NotT.blk HQ3.out.1 (by decide)
          · exact NotT.own HQ3.out.2 (by decide) k (by simpa using hk)
        replace HK3 := Lib.hid (HK3.out.fr g5 hNT)
        have hbm5 := g5.blk HB.out (by
          intro h
          rcases List.mem_cons.1 h with h | h
          · have := blk_lt HQ.out.1; omega
          · have := (HQ.out.2.lt _ (by simpa using h)).2; omega)
        have hs5 := g5.size
        clear e0 e1 e2 e3 e4 e5 e6
        generalize L ++ [(⟨fr, at_, qs, rt, A3, ps'.length, d3, tp, py⟩ : Ms)] = L2 at *
        dsimp only [msC, ms0]
        have H6 := Lib.hid (H5.fr0 ((Fr.refl [] w5).alloc (.cells #[.string ⟨#[]⟩, .int .i64 0, .int .u8 0, .bool false, .slice none 0 0, .string ⟨#[]⟩, .string ⟨#[]⟩] 29)))
        have F6 := Lib.hid (F5.alloc (.cells #[.string ⟨#[]⟩, .int .i64 0, .int .u8 0, .bool false, .slice none 0 0, .string ⟨#[]⟩, .string ⟨#[]⟩] 29))
        have HB6 := Lib.hid (blk_old hbm5 (.cells #[.string ⟨#[]⟩, .int .i64 0, .int .u8 0, .bool false, .slice none 0 0, .string ⟨#[]⟩, .string ⟨#[]⟩] 29))
        replace HK3 := Lib.hid (HK3.out.fr0 ((Fr.refl [] w5).alloc (.cells #[.string ⟨#[]⟩, .int .i64 0, .int .u8 0, .bool false, .slice none 0 0, .string ⟨#[]⟩, .string ⟨#[]⟩] 29)))
        have hs6 : (w5.alloc (.cells #[.string ⟨#[]⟩, .int .i64 0, .int .u8 0, .bool false, .slice none 0 0, .string ⟨#[]⟩, .string ⟨#[]⟩] 29)).heap.size = w5.heap.size + 1 := by simp
        clear g5 H5 F5 hbm5 hNT
        go_wp2_with fail
        refine (qlen_any _ _ _ _ _ _ H6.out).mono ?_
        rintro _ _ ⟨rfl, rfl⟩
        rw [HN.out, show ((k + 1 : Nat) : Int) = (k : Int) + 1 from by omega]
        go_wp2_with fail
        refine (qlist_any _ _ _ _ _ _ H6.out (by rw [HN.out]; omega)).mono ?_
        rintro _ w7 ⟨vl, rfl, ol, g7⟩
        have HV7 := Lib.hid (View.at (own_view ol) msC_len (by decide) (by rw [HN.out]; omega))
        obtain ⟨A7, c7, rfl⟩ := own_shape ol
        obtain ⟨b7, off7, c7', he7, hb7, hc7⟩ := HV7.out
        cases he7
        have hcell7 := hc7 k (by rw [HN.out]; omega)
        have hget : L2[k]'(by rw [HN.out]; omega) = ⟨fr, at_, qs, rt, A3, ps'.length, d3, tp, py⟩ := (List.getElem?_eq_some_iff.1 HGE.out).2
        rw [hget] at hcell7
        have d0 : w7.cell? ⟨b7, off7 + k * 7, none⟩ = some (.string ⟨fr.toArray⟩) := hcell7 0 _ rfl
        have d1 : w7.cell? ⟨b7, off7 + k * 7 + 1, none⟩ = some (.int .i64 at_) := hcell7 1 _ rfl
        have d2 : w7.cell? ⟨b7, off7 + k * 7 + 2, none⟩ = some (.int .u8 qs) := hcell7 2 _ rfl
        have d3' : w7.cell? ⟨b7, off7 + k * 7 + 3, none⟩ = some (.bool rt) := hcell7 3 _ rfl
        have d4 : w7.cell? ⟨b7, off7 + k * 7 + 4, none⟩ = some (.slice A3 ps'.length d3) := hcell7 4 _ rfl
        have d5 : w7.cell? ⟨b7, off7 + k * 7 + 5, none⟩ = some (.string ⟨tp.toArray⟩) := hcell7 5 _ rfl
        have d6 : w7.cell? ⟨b7, off7 + k * 7 + 6, none⟩ = some (.string ⟨py.toArray⟩) := hcell7 6 _ rfl
        have hb8 := g7.blk HB6.out (by simp)
        obtain ⟨⟨e0, e1, e2, e3, e4, e5, e6⟩, _, _⟩ := blk7_facts hb8
        have H7 := Lib.hid (H6.out.fr0 g7)
        have F7 := Lib.hid (F6.out.trans g7 (by simp))
        replace HK3 := Lib.hid (HK3.out.fr0 g7)
        have hs7 := g7.size
        have hki0 : (0 : Int) ≤ (k : Int) := by omega
        have hki1 : (k : Int) < (L2.length : Int) := by rw [HN.out]; omega
        have HB8 := Lib.hid hb8
        have HC7 := Lib.hid hcell7
        rw [HN.out] at ol
        clear HV7 hc7 hget hcell7 hb8 g7 H6 F6 HB6 ol
        have hpl8 : ps'.length ≤ 1000000 := by have := HK3.out.2.1; dsimp only at this; omega
        have HV := Lib.hid (show View w7 (.slice A3 ps'.length d3) ps'.length (ps'.flatMap prE) from HK3.out.1.1)
        have tokA : True := trivial
        have tokB : True := trivial
        go_wp2
        go_region_held3 (fun w' => w'.cell? ⟨b7, off7 + k * 7, none⟩ = some (.string ⟨fr.toArray⟩) ∧ w'.cell? ⟨b7, off7 + k * 7 + 1, none⟩ = some (.int .i64 at_) ∧ w'.cell? ⟨b7, off7 + k * 7 + 2, none⟩ = some (.int .u8 qs) ∧ w'.cell? ⟨b7, off7 + k * 7 + 3, none⟩ = some (.bool rt) ∧ w'.cell? ⟨b7, off7 + k * 7 + 4, none⟩ = some (.slice A3 ps'.length d3) ∧ w'.cell? ⟨b7, off7 + k * 7 + 5, none⟩ = some (.string ⟨tp.toArray⟩) ∧ w'.cell? ⟨b7, off7 + k * 7 + 6, none⟩ = some (.string ⟨py.toArray⟩) ∧ w'.cell? ⟨w3.heap.size, 0, none⟩ = some (.string ⟨fr.toArray⟩) ∧ w'.cell? ⟨w3.heap.size, 1, none⟩ = some (.int .i64 at_) ∧ w'.cell? ⟨w3.heap.size, 2, none⟩ = some (.int .u8 qs) ∧ w'.cell? ⟨w3.heap.size, 3, none⟩ = some (.bool rt) ∧ w'.cell? ⟨w3.heap.size, 4, none⟩ = some (.slice A3 ps'.length d3) ∧ w'.cell? ⟨w3.heap.size, 5, none⟩ = some (.string ⟨tp.toArray⟩) ∧ w'.cell? ⟨w3.heap.size, 6, none⟩ = some (.string ⟨py.toArray⟩)) (first | go_keep | exact kk) (first | (have _t := tokA; go_at_call 21; refine (told12_any ⟨fr, at_, qs, rt, A3, ps'.length, d3, tp, py⟩ ps' _ (HV.out.fr (S := []) ((Fr.refl [] w7).drew) (by simp)) hpl8).mono ?_; rintro _ y1 ⟨A8, c8, rfl, tv8, g8⟩; dsimp only [msC]; clear tokA; have kk := (show (fun w' : World => w'.cell? ⟨b7, off7 + k * 7, none⟩ = some (.string ⟨fr.toArray⟩) ∧ w'.cell? ⟨b7, off7 + k * 7 + 1, none⟩ = some (.int .i64 at_) ∧ w'.cell? ⟨b7, off7 + k * 7 + 2, none⟩ = some (.int .u8 qs) ∧ w'.cell? ⟨b7, off7 + k * 7 + 3, none⟩ = some (.bool rt) ∧ w'.cell? ⟨b7, off7 + k * 7 + 4, none⟩ = some (.slice A3 ps'.length d3) ∧ w'.cell? ⟨b7, off7 + k * 7 + 5, none⟩ = some (.string ⟨tp.toArray⟩) ∧ w'.cell? ⟨b7, off7 + k * 7 + 6, none⟩ = some (.string ⟨py.toArray⟩) ∧ w'.cell? ⟨w3.heap.size, 0, none⟩ = some (.string ⟨fr.toArray⟩) ∧ w'.cell? ⟨w3.heap.size, 1, none⟩ = some (.int .i64 at_) ∧ w'.cell? ⟨w3.heap.size, 2, none⟩ = some (.int .u8 qs) ∧ w'.cell? ⟨w3.heap.size, 3, none⟩ = some (.bool rt) ∧ w'.cell? ⟨w3.heap.size, 4, none⟩ = some (.slice A3 ps'.length d3) ∧ w'.cell? ⟨w3.heap.size, 5, none⟩ = some (.string ⟨tp.toArray⟩) ∧ w'.cell? ⟨w3.heap.size, 6, none⟩ = some (.string ⟨py.toArray⟩)) y1 from ⟨(((Fr.refl [] w7).drew).trans g8 (by simp)).cell d0 (by simp), (((Fr.refl [] w7).drew).trans g8 (by simp)).cell d1 (by simp), (((Fr.refl [] w7).drew).trans g8 (by simp)).cell d2 (by simp), (((Fr.refl [] w7).drew).trans g8 (by simp)).cell d3' (by simp), (((Fr.refl [] w7).drew).trans g8 (by simp)).cell d4 (by simp), (((Fr.refl [] w7).drew).trans g8 (by simp)).cell d5 (by simp), (((Fr.refl [] w7).drew).trans g8 (by simp)).cell d6 (by simp), (((Fr.refl [] w7).drew).trans g8 (by simp)).cell e0 (by simp), (((Fr.refl [] w7).drew).trans g8 (by simp)).cell e1 (by simp), (((Fr.refl [] w7).drew).trans g8 (by simp)).cell e2 (by simp), (((Fr.refl [] w7).drew).trans g8 (by simp)).cell e3 (by simp), (((Fr.refl [] w7).drew).trans g8 (by simp)).cell e4 (by simp), (((Fr.refl [] w7).drew).trans g8 (by simp)).cell e5 (by simp), (((Fr.refl [] w7).drew).trans g8 (by simp)).cell e6 (by simp)⟩)) | (have _t := tokB; go_at_call 21; refine (told12_any ⟨fr, at_, qs, rt, A3, ps'.length, d3, tp, py⟩ ps' _ (HV.out.fr (S := []) (((Fr.refl [] w7).drew).trans g8 (by simp)) (by simp)) hpl8).mono ?_; rintro _ y2 ⟨A9, c9, rfl, tv9, g9⟩; dsimp only [msC]; clear tokB; have kk := (show (fun w' : World => w'.cell? ⟨b7, off7 + k * 7, none⟩ = some (.string ⟨fr.toArray⟩) ∧ w'.cell? ⟨b7, off7 + k * 7 + 1, none⟩ = some (.int .i64 at_) ∧ w'.cell? ⟨b7, off7 + k * 7 + 2, none⟩ = some (.int .u8 qs) ∧ w'.cell? ⟨b7, off7 + k * 7 + 3, none⟩ = some (.bool rt) ∧ w'.cell? ⟨b7, off7 + k * 7 + 4, none⟩ = some (.slice A3 ps'.length d3) ∧ w'.cell? ⟨b7, off7 + k * 7 + 5, none⟩ = some (.string ⟨tp.toArray⟩) ∧ w'.cell? ⟨b7, off7 + k * 7 + 6, none⟩ = some (.string ⟨py.toArray⟩) ∧ w'.cell? ⟨w3.heap.size, 0, none⟩ = some (.string ⟨fr.toArray⟩) ∧ w'.cell? ⟨w3.heap.size, 1, none⟩ = some (.int .i64 at_) ∧ w'.cell? ⟨w3.heap.size, 2, none⟩ = some (.int .u8 qs) ∧ w'.cell? ⟨w3.heap.size, 3, none⟩ = some (.bool rt) ∧ w'.cell? ⟨w3.heap.size, 4, none⟩ = some (.slice A3 ps'.length d3) ∧ w'.cell? ⟨w3.heap.size, 5, none⟩ = some (.string ⟨tp.toArray⟩) ∧ w'.cell? ⟨w3.heap.size, 6, none⟩ = some (.string ⟨py.toArray⟩)) y2 from ⟨((((Fr.refl [] w7).drew).trans g8 (by simp)).trans g9 (by simp)).cell d0 (by simp), ((((Fr.refl [] w7).drew).trans g8 (by simp)).trans g9 (by simp)).cell d1 (by simp), ((((Fr.refl [] w7).drew).trans g8 (by simp)).trans g9 (by simp)).cell d2 (by simp), ((((Fr.refl [] w7).drew).trans g8 (by simp)).trans g9 (by simp)).cell d3' (by simp), ((((Fr.refl [] w7).drew).trans g8 (by simp)).trans g9 (by simp)).cell d4 (by simp), ((((Fr.refl [] w7).drew).trans g8 (by simp)).trans g9 (by simp)).cell d5 (by simp), ((((Fr.refl [] w7).drew).trans g8 (by simp)).trans g9 (by simp)).cell d6 (by simp), ((((Fr.refl [] w7).drew).trans g8 (by simp)).trans g9 (by simp)).cell e0 (by simp), ((((Fr.refl [] w7).drew).trans g8 (by simp)).trans g9 (by simp)).cell e1 (by simp), ((((Fr.refl [] w7).drew).trans g8 (by simp)).trans g9 (by simp)).cell e2 (by simp), ((((Fr.refl [] w7).drew).trans g8 (by simp)).trans g9 (by simp)).cell e3 (by simp), ((((Fr.refl [] w7).drew).trans g8 (by simp)).trans g9 (by simp)).cell e4 (by simp), ((((Fr.refl [] w7).drew).trans g8 (by simp)).trans g9 (by simp)).cell e5 (by simp), ((((Fr.refl [] w7).drew).trans g8 (by simp)).trans g9 (by simp)).cell e6 (by simp)⟩)) | (go_at_call 20; refine (same12_any ⟨fr, at_, qs, rt, A8, ps'.length, c8, tp, py⟩ ⟨fr, at_, qs, rt, A9, ps'.length, c9, tp, py⟩ ps' _ (tv8.fr0 g9).1 tv9.1 hpl8 rfl).mono ?_; rintro _ y3 ⟨rfl, g10⟩; have kk := (show (fun w' : World => w'.cell? ⟨b7, off7 + k * 7, none⟩ = some (.string ⟨fr.toArray⟩) ∧ w'.cell? ⟨b7, off7 + k * 7 + 1, none⟩ = some (.int .i64 at_) ∧ w'.cell? ⟨b7, off7 + k * 7 + 2, none⟩ = some (.int .u8 qs) ∧ w'.cell? ⟨b7, off7 + k * 7 + 3, none⟩ = some (.bool rt) ∧ w'.cell? ⟨b7, off7 + k * 7 + 4, none⟩ = some (.slice A3 ps'.length d3) ∧ w'.cell? ⟨b7, off7 + k * 7 + 5, none⟩ = some (.string ⟨tp.toArray⟩) ∧ w'.cell? ⟨b7, off7 + k * 7 + 6, none⟩ = some (.string ⟨py.toArray⟩) ∧ w'.cell? ⟨w3.heap.size, 0, none⟩ = some (.string ⟨fr.toArray⟩) ∧ w'.cell? ⟨w3.heap.size, 1, none⟩ = some (.int .i64 at_) ∧ w'.cell? ⟨w3.heap.size, 2, none⟩ = some (.int .u8 qs) ∧ w'.cell? ⟨w3.heap.size, 3, none⟩ = some (.bool rt) ∧ w'.cell? ⟨w3.heap.size, 4, none⟩ = some (.slice A3 ps'.length d3) ∧ w'.cell? ⟨w3.heap.size, 5, none⟩ = some (.string ⟨tp.toArray⟩) ∧ w'.cell? ⟨w3.heap.size, 6, none⟩ = some (.string ⟨py.toArray⟩)) y3 from ⟨(((((Fr.refl [] w7).drew).trans g8 (by simp)).trans g9 (by simp)).trans g10 (by simp)).cell d0 (by simp), (((((Fr.refl [] w7).drew).trans g8 (by simp)).trans g9 (by simp)).trans g10 (by simp)).cell d1 (by simp), (((((Fr.refl [] w7).drew).trans g8 (by simp)).trans g9 (by simp)).trans g10 (by simp)).cell d2 (by simp), (((((Fr.refl [] w7).drew).trans g8 (by simp)).trans g9 (by simp)).trans g10 (by simp)).cell d3' (by simp), (((((Fr.refl [] w7).drew).trans g8 (by simp)).trans g9 (by simp)).trans g10 (by simp)).cell d4 (by simp), (((((Fr.refl [] w7).drew).trans g8 (by simp)).trans g9 (by simp)).trans g10 (by simp)).cell d5 (by simp), (((((Fr.refl [] w7).drew).trans g8 (by simp)).trans g9 (by simp)).trans g10 (by simp)).cell d6 (by simp), (((((Fr.refl [] w7).drew).trans g8 (by simp)).trans g9 (by simp)).trans g10 (by simp)).cell e0 (by simp), (((((Fr.refl [] w7).drew).trans g8 (by simp)).trans g9 (by simp)).trans g10 (by simp)).cell e1 (by simp), (((((Fr.refl [] w7).drew).trans g8 (by simp)).trans g9 (by simp)).trans g10 (by simp)).cell e2 (by simp), (((((Fr.refl [] w7).drew).trans g8 (by simp)).trans g9 (by simp)).trans g10 (by simp)).cell e3 (by simp), (((((Fr.refl [] w7).drew).trans g8 (by simp)).trans g9 (by simp)).trans g10 (by simp)).cell e4 (by simp), (((((Fr.refl [] w7).drew).trans g8 (by simp)).trans g9 (by simp)).trans g10 (by simp)).cell e5 (by simp), (((((Fr.refl [] w7).drew).trans g8 (by simp)).trans g9 (by simp)).trans g10 (by simp)).cell e6 (by simp)⟩)))
        have G3 := Lib.hid (((((Fr.refl [] w7).drew).trans g8 (by simp)).trans g9 (by simp)).trans g10 (by simp))
        have H8 := Lib.hid (H7.out.fr0 G3.out)
        have F8 := Lib.hid (F7.out.trans G3.out (by simp))
        have hs8 := G3.out.size
        clear kk d0 d1 d2 d3' d4 d5 d6 e0 e1 e2 e3 e4 e5 e6 g8 g9 g10 tv8 tv9
        go_wp2
        go_roundw
        case rel => exact ⟨k + 1, v5, L2, by go_num, by omega, H8.out, HN.out, by omega, F8.out⟩
        case measure => simp [intOf]; omega
      · obtain rfl : k = m := by omega
        have HP := Lib.hid (push_light ltMs L ms0 k (by rw [HL.out]; omega) rfl)
        have hl6 : L.length < 1000000 := by rw [HL.out]; omega
        have hki : decide (k < k) = false := by simp
        go_wp2_with fail
        refine (qpush_eq Q Q v L k ms0 _ HQ.out (by omega) hl6 (by omega) L (some ms0) ms0 true HP.out rfl rfl).mono ?_
        rintro _ w5 ⟨v5, rfl, H5, g5⟩
        have F5 := HF.out.que g5 HQ.out hQ hQ
        dsimp only [msC, ms0]
        have H6 := Lib.hid (H5.fr0 ((Fr.refl [] w5).alloc (.cells #[.string ⟨#[]⟩, .int .i64 0, .int .u8 0, .bool false, .slice none 0 0, .string ⟨#[]⟩, .string ⟨#[]⟩] 29)))
        have F6 := Lib.hid (F5.alloc (.cells #[.string ⟨#[]⟩, .int .i64 0, .int .u8 0, .bool false, .slice none 0 0, .string ⟨#[]⟩, .string ⟨#[]⟩] 29))
        clear H5 F5 g5
        go_wp2_with fail
        refine (qlen_any _ _ _ _ _ _ H6.out).mono ?_
        rintro _ _ ⟨rfl, rfl⟩
        rw [HL.out]
        go_wp2
        go_ret
        exact ⟨rfl, F6.out⟩
end Go.Proofs.Ytnplinohoflabaa
