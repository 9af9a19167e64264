/- The walk of the law QueueOrder. -/
import Derived.Test.YtnplinohoflabaaQueueHeavy
import Derived.Test.YtnplinohoflabaaQueI
namespace Go.Proofs.Ytnplinohoflabaa
open Go.RowKit
set_option linter.unusedSimpArgs false
set_option linter.unusedVariables false

def Rise (a b : Ms) : Prop := a.at_ < b.at_
theorem push_rise (L : List Ms) (x : Ms) (most : Nat) (h : L.Pairwise Rise) (hx : ∀ y ∈ L, y.at_ < x.at_) : (pushG ltMs L x most).1.Pairwise Rise ∧ ∀ y ∈ (pushG ltMs L x most).1, y ∈ L ∨ y = x := by
  have app : ∀ l : List Ms, l.Sublist L → (l ++ [x]).Pairwise Rise ∧ ∀ y ∈ l ++ [x], y ∈ L ∨ y = x := fun l hl => by
    refine ⟨List.pairwise_append.2 ⟨h.sublist hl, List.pairwise_singleton _ _, fun a ha b hb => ?_⟩, fun y hy => ?_⟩
    · rw [List.mem_singleton.1 hb]; exact hx a (hl.subset ha)
    · rcases List.mem_append.1 hy with hy | hy
      · exact Or.inl (hl.subset hy)
      · exact Or.inr (List.mem_singleton.1 hy)
  unfold pushG
  split
  · exact app L (List.Sublist.refl _)
  · cases hf : L.findIdx? ltMs with
    | none => exact ⟨h, fun y hy => Or.inl hy⟩
    | some i =>
      dsimp only
      split
      · exact ⟨h, fun y hy => Or.inl hy⟩
      · exact app _ (List.eraseIdx_sublist _ _)
set_option maxHeartbeats 4000000 in
set_option maxRecDepth 100000 in
theorem queueOrder_walk (a0 : Int) (x1 : Option Addr) (y1 z1 : Nat) (f1 : List (Ms × List Pr)) (w0 : (Lit.int .i64 a0).wf = true) (W : World) (H1 : MsIn W (.slice x1 y1 z1) f1) :
    Calls Try.prog 5 #[.int .i64 a0, .slice x1 y1 z1] W fun e w' => e = .returned (.bool true) ∧ Fr [] W w' := by
  have hw0 := wf_i64 w0
  clear w0
  by_cases h0 : a0 < 0
  · have hd : decide (a0 < 0) = true := by simpa using h0
    clear h0
    go_enter Try.func5, Try.ntmps5
    go_wp2_with fail
    refine (awake16_any _).mono ?_
    rintro _ w1 ⟨rfl, F1⟩
    go_wp2_with fail
    refine (awake16_any _).mono ?_
    rintro _ w2 ⟨rfl, F2⟩
    go_wp2
    go_ret
    exact ⟨rfl, F1.trans F2 (by simp)⟩
  have hd : decide (a0 < 0) = false := by simpa using h0
  by_cases h20 : 20 < a0
  · have hd2 : decide (20 < a0) = true := by simpa using h20
    clear h0 h20
    go_enter Try.func5, Try.ntmps5
    go_wp2_with fail
    refine (awake16_any _).mono ?_
    rintro _ w1 ⟨rfl, F1⟩
    go_wp2_with fail
    refine (awake16_any _).mono ?_
    rintro _ w2 ⟨rfl, F2⟩
    go_wp2
    go_ret
    exact ⟨rfl, F1.trans F2 (by simp)⟩
  obtain ⟨m, rfl⟩ := Int.eq_ofNat_of_zero_le (show 0 ≤ a0 by omega)
  have hd2 : decide (20 < (m : Int)) = false := by simpa using h20
  have hm20 : m ≤ 20 := by omega
  have hyl : y1 = f1.length := by
    obtain ⟨_, ⟨_, _, he, _⟩, _⟩ := H1
    injection he
  subst hyl
  have hl1 := H1.1
  have HM := Lib.hid H1
  have hceq : ∀ W, (binOp .eql 32 (.complex .f32 0 0) (.complex .f32 0 0)).run Try.prog W = .ok (.bool true) W := fun W => by kernel_rfl
  clear H1 hw0 h0 h20
  go_enter Try.func5, Try.ntmps5
  go_wp2_with fail
  refine (awake16_any _).mono ?_
  rintro _ w1 ⟨rfl, F1⟩
  go_wp2_with fail
  refine (qnew_any m w1).mono ?_
  rintro _ w2 ⟨rfl, rfl⟩
  rw [show max (m : Int) 0 = (m : Int) from by omega]
  have hQ : W.heap.size ≤ w1.heap.size := F1.size
  have hq0 : QAt (w1.alloc (.cells #[.slice none 0 0, .int .i64 (m : Int)] 100)) w1.heap.size w1.heap.size (.slice none 0 0) [] m := ⟨blk_new w1 _, World.ownsRow_nil _ _ _ _⟩
  have F2 : Fr [] W (w1.alloc (.cells #[.slice none 0 0, .int .i64 (m : Int)] 100)) := F1.alloc _
  generalize w1.heap.size = Q at *
  generalize w1.alloc (.cells #[.slice none 0 0, .int .i64 (m : Int)] 100) = w2 at *
  clear F1
  go_wp2
  go_loopw [6] (fun i wr => ∃ (k : Nat) (v : Value) (L : List Ms), i = .int .i64 k ∧ k ≤ f1.length ∧ k ≤ 40 ∧ QAt wr Q Q v L m ∧ L.length ≤ m ∧ Hid (L.Pairwise Rise) ∧ Hid (∀ y ∈ L, 0 ≤ y.at_ ∧ y.at_ < (k : Int)) ∧ Q ≤ wr.heap.size ∧ Fr [] W wr) (fun i _ => 40 - (intOf i).toNat)
  case atStart => exact ⟨0, _, [], rfl, by omega, by omega, hq0, by simp, Lib.hid List.Pairwise.nil, Lib.hid (by simp), by have := blk_lt hq0.1; omega, F2⟩
  case round =>
    clear hq0 F2
    obtain ⟨k, v, L, rfl, hk, hk40, hq, hL, HR, HA, hQr, hfr⟩ := hrel
    have HF := Lib.hid hfr
    have HQ := Lib.hid hq
    clear hfr hq
    by_cases hlt : k < f1.length
    · by_cases hlt4 : (k : Int) < 40
      · clear hceq
        obtain ⟨bb, off, c', hsl, hbb, hc⟩ := HM.out.at (by omega)
        cases hsl
        have hcell := hc k hlt
        have hin := HM.out.2.2 f1[k] (List.getElem_mem hlt)
        generalize f1[k] = p at *
        obtain ⟨x, ps⟩ := p
        dsimp only at hcell hin
        obtain ⟨hv, hpl, hok, hqb, hab, hs1, hs2, hs3⟩ := hin
        have hfew := few12_any x ps wr (hv.fr HF.out (by simp)) hpl (fun y hy => (hok y hy).2) hs1 hs2 hs3
        have hfok := fewR_ok ps hok
        unfold FewTo12 at hfew
        obtain ⟨fr, at_, qs, rt, A, n, c, tp, py⟩ := x
        have c0 : wr.cell? ⟨bb, off + k * 7, none⟩ = some (.string ⟨fr.toArray⟩) := HF.out.cell (hcell 0 _ rfl) (by simp)
        have c1 : wr.cell? ⟨bb, off + k * 7 + 1, none⟩ = some (.int .i64 at_) := HF.out.cell (hcell 1 _ rfl) (by simp)
        have c2 : wr.cell? ⟨bb, off + k * 7 + 2, none⟩ = some (.int .u8 qs) := HF.out.cell (hcell 2 _ rfl) (by simp)
        have c3 : wr.cell? ⟨bb, off + k * 7 + 3, none⟩ = some (.bool rt) := HF.out.cell (hcell 3 _ rfl) (by simp)
        have c4 : wr.cell? ⟨bb, off + k * 7 + 4, none⟩ = some (.slice A n c) := HF.out.cell (hcell 4 _ rfl) (by simp)
        have c5 : wr.cell? ⟨bb, off + k * 7 + 5, none⟩ = some (.string ⟨tp.toArray⟩) := HF.out.cell (hcell 5 _ rfl) (by simp)
        have c6 : wr.cell? ⟨bb, off + k * 7 + 6, none⟩ = some (.string ⟨py.toArray⟩) := HF.out.cell (hcell 6 _ rfl) (by simp)
        have htick := tickN_le at_
        have HFew := Lib.hid hfew
        have HFK := Lib.hid hfok
        have HQB := Lib.hid hqb
        clear hcell hc hfew hfok hv hok hqb hab hs1 hs2 hs3 hpl
        go_wp2_with fail
        refine HFew.out.mono ?_
        rintro _ w3 ⟨A3, d3, rfl, tv3, g3⟩
        clear c0 c1 c2 c3 c4 c5 c6 HFew
        try dsimp only at tv3
        have hok3 : MOk 136 w3 ((⟨fr.take 10, tickN at_, qs, rt, A3, (fewR ps).length, d3, tp.take 30, py.take 30⟩ : Ms), fewR ps) := ⟨tv3, HFK.out.1, fun x hx => (HFK.out.2 x hx).1, by dsimp only; omega, by dsimp only; omega⟩
        have hqb3 := HQB.out
        try dsimp only at hqb3
        clear HFK tv3 htick HQB
        try dsimp only
        generalize fewR ps = ps' at *
        generalize fr.take 10 = fr at *
        generalize tickN at_ = at_ at *
        generalize tp.take 30 = tp at *
        generalize py.take 30 = py at *
        have HK3 := Lib.hid hok3
        clear hok3
        try dsimp only [msC]
        have H3 := Lib.hid ((HQ.out.fr0 g3).fr0 ((Fr.refl [] w3).alloc (.cells #[.string ⟨fr.toArray⟩, .int .i64 (k : Int), .int .u8 qs, .bool rt, .slice none 0 0, .string ⟨tp.toArray⟩, .string ⟨py.toArray⟩] 29)))
        have F3 := Lib.hid ((HF.out.trans g3 (by simp)).alloc (.cells #[.string ⟨fr.toArray⟩, .int .i64 (k : Int), .int .u8 qs, .bool rt, .slice none 0 0, .string ⟨tp.toArray⟩, .string ⟨py.toArray⟩] 29))
        have hs3 := g3.size
        have hs4 : (w3.alloc (.cells #[.string ⟨fr.toArray⟩, .int .i64 (k : Int), .int .u8 qs, .bool rt, .slice none 0 0, .string ⟨tp.toArray⟩, .string ⟨py.toArray⟩] 29)).heap.size = w3.heap.size + 1 := by simp
        clear g3
        obtain ⟨L', d, hp⟩ : ∃ L' d, pushG ltMs L ⟨fr, (k : Int), qs, rt, none, 0, 0, tp, py⟩ m = (L', d) := ⟨_, _, rfl⟩
        have hpl := pushG_len ltMs L ⟨fr, (k : Int), qs, rt, none, 0, 0, tp, py⟩ m hL
        have hpr := push_rise L ⟨fr, (k : Int), qs, rt, none, 0, 0, tp, py⟩ m HR.out (fun y hy => (HA.out y hy).2)
        rw [hp] at hpl hpr
        dsimp only at hpl
        have HR' := Lib.hid hpr.1
        have HA' : Hid (∀ y ∈ L', 0 ≤ y.at_ ∧ y.at_ < ((k + 1 : Nat) : Int)) := Lib.hid (fun y hy => by
          rcases hpr.2 y hy with h | h
          · have := HA.out y h; omega
          · rw [h]; show 0 ≤ (k : Int) ∧ (k : Int) < _; omega)
        have HP := Lib.hid hp
        clear hpr hp
        go_wp2_with fail
        refine (qpush_eq Q Q v L m ⟨fr, (k : Int), qs, rt, none, 0, 0, tp, py⟩ _ H3.out (by omega) (by omega) (by omega) L' d (d.getD ms0) d.isSome HP.out rfl rfl).mono ?_
        rintro _ w5 ⟨v5, rfl, H5, g5⟩
        have F5 := Lib.hid (F3.out.que g5 H3.out hQ hQ)
        have H6 := Lib.hid H5
        have hs5 := g5.size
        clear g5 H5
        go_wp2
        go_roundw
        case rel => exact ⟨k + 1, v5, L', by go_num, by omega, by omega, H6.out, by omega, HR', HA', by omega, F5.out⟩
        case measure => simp [intOf]; omega
      · have h40 : decide ((k : Int) < 40) = false := by simpa using hlt4
        go_wp2_with fail
        refine (qlen_any _ _ _ _ _ _ HQ.out).mono ?_
        rintro _ _ ⟨rfl, rfl⟩
        go_wp2
        obtain ⟨n, hn⟩ : ∃ n, n = L.length := ⟨_, rfl⟩
        have HN := Lib.hid hn
        have hn20 : n ≤ 20 := by omega
        rw [← hn]
        clear hn
        go_loopw [8, 10] (fun lst j wq => ∃ (j' : Nat) (t : Int) (v2 : Value) (L2 : List Ms), j = .int .i64 j' ∧ lst = .int .i64 t ∧ j' ≤ n ∧ L2.length + j' = n ∧ QAt wq Q Q v2 L2 m ∧ Hid (L2.Pairwise Rise) ∧ Hid (∀ y ∈ L2, t < y.at_) ∧ Q ≤ wq.heap.size ∧ Fr [] W wq) (fun _ j _ => n - (intOf j).toNat)
        case atStart => exact ⟨0, -1, v, L, rfl, rfl, by omega, by rw [HN.out]; rfl, HQ.out, HR, Lib.hid (fun y hy => by have := (HA.out y hy).1; omega), by omega, HF.out⟩
        case round =>
          obtain ⟨j, t, v2, L2, rfl, rfl, hj, hjn, hq2, HR2, HA2, hQ2, hf2⟩ := hrel
          have HF2 := Lib.hid hf2
          have HQ2 := Lib.hid hq2
          clear hf2 hq2
          by_cases hjlt : j < n
          · cases L2 with
            | nil => simp at hjn; omega
            | cons x L3 =>
              have hd1 : decide (j < n) = true := by simpa using hjlt
              obtain ⟨fr, at_, qs, rt, A, nn, c, tp, py⟩ := x
              have hat := HA2.out _ List.mem_cons_self
              dsimp only at hat
              have hd2 : decide (at_ ≤ t) = false := by simp; omega
              have hpw := List.pairwise_cons.1 HR2.out
              have HR3 := Lib.hid hpw.2
              have HA3 : Hid (∀ y ∈ L3, at_ < y.at_) := Lib.hid (fun y hy => hpw.1 y hy)
              simp only [List.length_cons] at hjn
              clear hpw hat
              go_wp2_with fail
              refine (qpop_any Q Q v2 _ m _ HQ2.out (by omega) (by simp; omega)).mono ?_
              rintro _ w5 ⟨rfl, v5, H5, g5⟩
              dsimp only [List.headD, List.isEmpty, Bool.not, msC, List.tail]
              have F5 := Lib.hid ((HF2.out.trans g5 (by intro x hx h; simp at h; omega)).alloc (.cells #[.string ⟨fr.toArray⟩, .int .i64 at_, .int .u8 qs, .bool rt, .slice A nn c, .string ⟨tp.toArray⟩, .string ⟨py.toArray⟩] 29))
              have H6 := H5.fr0 ((Fr.refl [] w5).alloc (.cells #[.string ⟨fr.toArray⟩, .int .i64 at_, .int .u8 qs, .bool rt, .slice A nn c, .string ⟨tp.toArray⟩, .string ⟨py.toArray⟩] 29))
              have hs5 := g5.size
              have hs6 : (w5.alloc (.cells #[.string ⟨fr.toArray⟩, .int .i64 at_, .int .u8 qs, .bool rt, .slice A nn c, .string ⟨tp.toArray⟩, .string ⟨py.toArray⟩] 29)).heap.size = w5.heap.size + 1 := by simp
              clear g5 H5
              dsimp only [List.tail] at H6
              replace H6 := Lib.hid H6
              go_wp2
              go_roundw
              case rel => exact ⟨j + 1, at_, v5, L3, by go_num, rfl, by omega, by omega, H6.out, HR3, HA3, by omega, F5.out⟩
              case measure => simp [intOf]; omega
          · have hd1 : decide (j < n) = false := by simpa using hjlt
            obtain rfl : L2 = [] := List.eq_nil_of_length_eq_zero (by omega)
            go_wp2_with fail
            refine (qpop_any Q Q v2 [] m _ HQ2.out (by omega) (by simp)).mono ?_
            rintro _ w5 ⟨rfl, v5, H5, g5⟩
            dsimp only [List.headD, List.isEmpty, Bool.not, msC, ms0, List.tail]
            have F5 := Lib.hid ((HF2.out.trans g5 (by intro x hx h; simp at h; omega)).alloc (.cells #[.string ⟨#[]⟩, .int .i64 0, .int .u8 0, .bool false, .slice none 0 0, .string ⟨#[]⟩, .string ⟨#[]⟩] 29))
            have H6 := H5.fr0 ((Fr.refl [] w5).alloc (.cells #[.string ⟨#[]⟩, .int .i64 0, .int .u8 0, .bool false, .slice none 0 0, .string ⟨#[]⟩, .string ⟨#[]⟩] 29))
            clear g5 H5
            dsimp only [List.tail] at H6
            replace H6 := Lib.hid H6
            go_wp2_with fail
            refine (qlen_any _ _ _ _ _ _ H6.out).mono ?_
            rintro _ _ ⟨rfl, rfl⟩
            go_wp2_with fail
            refine (qweigh_any _ _ _ _ _ _ H6.out (by decide)).mono ?_
            rintro _ w7 ⟨rfl, g7⟩
            rw [show f32n (lightN []) = 0 from by decide +kernel, show f32n (heavyN []) = 0 from by decide +kernel]
            go_wp2
            go_ret
            exact ⟨rfl, F5.out.trans g7 (by simp)⟩
    · have hk1 : decide (k < f1.length) = false := by simpa using hlt
      go_wp2_with fail
      refine (qlen_any _ _ _ _ _ _ HQ.out).mono ?_
      rintro _ _ ⟨rfl, rfl⟩
      go_wp2
      obtain ⟨n, hn⟩ : ∃ n, n = L.length := ⟨_, rfl⟩
      have HN := Lib.hid hn
      have hn20 : n ≤ 20 := by omega
      rw [← hn]
      clear hn
      go_loopw [8, 10] (fun lst j wq => ∃ (j' : Nat) (t : Int) (v2 : Value) (L2 : List Ms), j = .int .i64 j' ∧ lst = .int .i64 t ∧ j' ≤ n ∧ L2.length + j' = n ∧ QAt wq Q Q v2 L2 m ∧ Hid (L2.Pairwise Rise) ∧ Hid (∀ y ∈ L2, t < y.at_) ∧ Q ≤ wq.heap.size ∧ Fr [] W wq) (fun _ j _ => n - (intOf j).toNat)
      case atStart => exact ⟨0, -1, v, L, rfl, rfl, by omega, by rw [HN.out]; rfl, HQ.out, HR, Lib.hid (fun y hy => by have := (HA.out y hy).1; omega), by omega, HF.out⟩
      case round =>
        obtain ⟨j, t, v2, L2, rfl, rfl, hj, hjn, hq2, HR2, HA2, hQ2, hf2⟩ := hrel
        have HF2 := Lib.hid hf2
        have HQ2 := Lib.hid hq2
        clear hf2 hq2
        by_cases hjlt : j < n
        · cases L2 with
          | nil => simp at hjn; omega
          | cons x L3 =>
            have hd1 : decide (j < n) = true := by simpa using hjlt
            obtain ⟨fr, at_, qs, rt, A, nn, c, tp, py⟩ := x
            have hat := HA2.out _ List.mem_cons_self
            dsimp only at hat
            have hd2 : decide (at_ ≤ t) = false := by simp; omega
            have hpw := List.pairwise_cons.1 HR2.out
            have HR3 := Lib.hid hpw.2
            have HA3 : Hid (∀ y ∈ L3, at_ < y.at_) := Lib.hid (fun y hy => hpw.1 y hy)
            simp only [List.length_cons] at hjn
            clear hpw hat
            go_wp2_with fail
            refine (qpop_any Q Q v2 _ m _ HQ2.out (by omega) (by simp; omega)).mono ?_
            rintro _ w5 ⟨rfl, v5, H5, g5⟩
            dsimp only [List.headD, List.isEmpty, Bool.not, msC, List.tail]
            have F5 := Lib.hid ((HF2.out.trans g5 (by intro x hx h; simp at h; omega)).alloc (.cells #[.string ⟨fr.toArray⟩, .int .i64 at_, .int .u8 qs, .bool rt, .slice A nn c, .string ⟨tp.toArray⟩, .string ⟨py.toArray⟩] 29))
            have H6 := H5.fr0 ((Fr.refl [] w5).alloc (.cells #[.string ⟨fr.toArray⟩, .int .i64 at_, .int .u8 qs, .bool rt, .slice A nn c, .string ⟨tp.toArray⟩, .string ⟨py.toArray⟩] 29))
            have hs5 := g5.size
            have hs6 : (w5.alloc (.cells #[.string ⟨fr.toArray⟩, .int .i64 at_, .int .u8 qs, .bool rt, .slice A nn c, .string ⟨tp.toArray⟩, .string ⟨py.toArray⟩] 29)).heap.size = w5.heap.size + 1 := by simp
            clear g5 H5
            dsimp only [List.tail] at H6
            replace H6 := Lib.hid H6
            go_wp2
            go_roundw
            case rel => exact ⟨j + 1, at_, v5, L3, by go_num, rfl, by omega, by omega, H6.out, HR3, HA3, by omega, F5.out⟩
            case measure => simp [intOf]; omega
        · have hd1 : decide (j < n) = false := by simpa using hjlt
          obtain rfl : L2 = [] := List.eq_nil_of_length_eq_zero (by omega)
          go_wp2_with fail
          refine (qpop_any Q Q v2 [] m _ HQ2.out (by omega) (by simp)).mono ?_
          rintro _ w5 ⟨rfl, v5, H5, g5⟩
          dsimp only [List.headD, List.isEmpty, Bool.not, msC, ms0, List.tail]
          have F5 := Lib.hid ((HF2.out.trans g5 (by intro x hx h; simp at h; omega)).alloc (.cells #[.string ⟨#[]⟩, .int .i64 0, .int .u8 0, .bool false, .slice none 0 0, .string ⟨#[]⟩, .string ⟨#[]⟩] 29))
          have H6 := H5.fr0 ((Fr.refl [] w5).alloc (.cells #[.string ⟨#[]⟩, .int .i64 0, .int .u8 0, .bool false, .slice none 0 0, .string ⟨#[]⟩, .string ⟨#[]⟩] 29))
          clear g5 H5
          dsimp only [List.tail] at H6
          replace H6 := Lib.hid H6
          go_wp2_with fail
          refine (qlen_any _ _ _ _ _ _ H6.out).mono ?_
          rintro _ _ ⟨rfl, rfl⟩
          go_wp2_with fail
          refine (qweigh_any _ _ _ _ _ _ H6.out (by decide)).mono ?_
          rintro _ w7 ⟨rfl, g7⟩
          rw [show f32n (lightN []) = 0 from by decide +kernel, show f32n (heavyN []) = 0 from by decide +kernel]
          go_wp2
          go_ret
          exact ⟨rfl, F5.out.trans g7 (by simp)⟩
end Go.Proofs.Ytnplinohoflabaa
