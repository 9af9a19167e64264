/- How the reference of layer 8 begins. Conditions: strings that may be. -/
import Derived.Test.YthioageiebchlaaSuB
import Derived.Test.YthioageiebchlaaPropM
import Derived.Test.YthioageiebchlaaPropN
namespace Go.Proofs.Ythioageiebchlaa
open Go.RowKit
set_option linter.unusedVariables false
set_option linter.unusedSimpArgs false

def RBgTo (B : Bg) (w : World) (e : Ending) (w' : World) : Prop :=
  ∃ v, e = .returned (.tuple #[.agg #[.string ⟨B.r.s.toArray⟩, .int .i64 B.r.e], .int .u32 (B.id : Int), v]) ∧ w'.ownsRow w.heap.size 121 4 v B.props.length (B.props.flatMap prE) ∧ Fr [] w w'
theorem CurAt.e3 {y : World} {C : Nat} {r : Rd} (h : y.heap[C]? = some (.cells #[.string ⟨r.s.toArray⟩, .int .i64 r.e] 99 (0, 0))) (he : r.e = 0) : (y.setCell ⟨C, 1, none⟩ (.int .i64 3)).heap[C]? = some (.cells #[.string ⟨(r.fail 3).s.toArray⟩, .int .i64 (r.fail 3).e] 99 (0, 0)) := by
  have := blk_set h 1 (.int .i64 3)
  have e : r.fail 3 = ⟨r.s, 3⟩ := if_pos he
  rw [e]
  exact this
theorem and_dec {a b : Prop} [Decidable a] [Decidable b] (h : (decide a && decide b) = true) : a ∧ b := by simpa using h
set_option maxRecDepth 100000 in
set_option maxHeartbeats 4000000 in
theorem rbegin_any (k : Int) (s : List UInt8) (w : World) (hs : s.length ≤ 1000000) :
    Calls Try.prog 54 #[.string ⟨s.toArray⟩, .int .i64 k] w (RBgTo (beginR k s) w) := by
  have HB : Hid (beginR k s = ⟨(Rd.ident ⟨s, 0⟩).1, (takeP (Rd.ident ⟨s, 0⟩).2 k false).1, (takeP (Rd.ident ⟨s, 0⟩).2 k false).2.more⟩) := Lib.hid rfl
  have hil : (Rd.ident ⟨s, 0⟩).2.s.length ≤ s.length := ident_left ⟨s, 0⟩
  have HI : Hid (Rd.ident ⟨s, 0⟩ = ((Rd.num ⟨s, 0⟩ 2).1, if (Rd.num ⟨s, 0⟩ 2).1 = 0 then (Rd.num ⟨s, 0⟩ 2).2.fail 3 else (Rd.num ⟨s, 0⟩ 2).2)) := Lib.hid rfl
  have F0 : Fr [] w (w.alloc (.cells #[.string ⟨#[]⟩, .int .i64 0] 99)) := (Fr.refl _ _).alloc _
  have hb0 := blk_new w (.cells #[.string ⟨#[]⟩, .int .i64 0] 99)
  go_enter Try.func54, Try.ntmps54
  go_wp2_with fail
  refine (rnum_any ⟨s, 0⟩ 2 _ (by show s.length ≤ _; omega) (by decide) (by decide)).mono ?_
  rintro _ w1 ⟨rfl, g1⟩
  rw [show (2 : Int).toNat = 2 from rfl]
  generalize Rd.num ⟨s, 0⟩ 2 = T at *
  obtain ⟨n, q⟩ := T
  dsimp only at HI ⊢
  have HZ := Lib.hid (blk_old (g1.blk hb0 (by simp)) (.cells #[.string ⟨(q).s.toArray⟩, .int .i64 (q).e] 99))
  have HC := Lib.hid (blk_new w1 (.cells #[.string ⟨(q).s.toArray⟩, .int .i64 (q).e] 99))
  have HF := Lib.hid ((F0.trans g1 (by simp)).alloc (.cells #[.string ⟨(q).s.toArray⟩, .int .i64 (q).e] 99))
  have hwC : w.heap.size < w1.heap.size := by have := g1.size; simp at this; omega
  clear hb0 F0 g1
  go_upto_region 2 with (fail)
  obtain ⟨C, hC⟩ : ∃ C, w1.heap.size = C := ⟨_, rfl⟩
  obtain ⟨y, hy⟩ : ∃ y, w1.alloc (.cells #[.string ⟨(q).s.toArray⟩, .int .i64 (q).e] 99) = y := ⟨_, rfl⟩
  rw [hC] at HC hwC ⊢
  rw [hy] at HZ HC HF ⊢
  clear hC hy
  have hCw : ¬ (C = w.heap.size) := by omega
  have hwC2 : ¬ (w.heap.size = C) := by omega
  obtain ⟨c0, c1, f0, f1, hl2_⟩ := blk2_facts (HC.out)
  go_cut [22] (fun v22 wx => v22 = .bool (decide (q.e = 0) && decide (n = 0)) ∧ y = wx)
  case first =>
    by_cases he : q.e = 0
    · have e0 : (q.e == 0) = true := by simpa using he
      have d0 : decide (q.e = 0) = true := by simpa using he
      have d1 : ((n : Int) == 0) = decide (n = 0) := by by_cases h : n = 0 <;> simp [h]
      clear he
      go_wp2
      go_meet
      rw [d0, Bool.true_and]
      exact ⟨rfl, rfl⟩
    · have e0 : (q.e == 0) = false := by simpa using he
      have d0 : decide (q.e = 0) = false := by simpa using he
      clear he
      go_wp2
      go_meet
      rw [d0, Bool.false_and]
      exact ⟨rfl, rfl⟩
  case rest =>
  obtain ⟨rfl, hwc⟩ := hcut
  rw [← hwc]
  clear hwc
  clear wc
  have HI3 : Hid (Rd.ident ⟨s, 0⟩ = (n, if (decide (q.e = 0) && decide (n = 0)) = true then q.fail 3 else q)) := Lib.hid (by
    rw [HI.out]
    by_cases he : q.e = 0
    · by_cases hn : n = 0 <;> simp [he, hn]
    · rw [fail_bad q 3 he]; simp)
  clear HI
  have HQE : Hid ((decide (q.e = 0) && decide (n = 0)) = true → q.e = 0) := Lib.hid (fun h => (and_dec h).1)
  generalize hX : Rd.ident ⟨s, 0⟩ = X at *
  clear hX
  generalize (decide (q.e = 0) && decide (n = 0)) = bb at *
  go_upto_if 22 with (fail)
  go_cut [] (fun wx => wx.heap[C]? = some (.cells #[.string ⟨(X.2).s.toArray⟩, .int .i64 (X.2).e] 99 (0, 0)) ∧ Fr [C] y wx)
  case first =>
    cases bb
    · rw [if_neg (by decide)] at HI3
      go_wp2
      go_meet
      rw [HI3.out]
      exact ⟨HC.out, Fr.refl _ _⟩
    · rw [if_pos rfl] at HI3
      go_wp2
      go_meet
      rw [HI3.out]
      exact ⟨CurAt.e3 HC.out (HQE.out (by simp)), (Fr.refl _ _).setCell (Or.inr (by simp)) _⟩
  case rest =>
    obtain ⟨hc3, g3⟩ := hcut
    have HX1 : Hid (X.1 = n) := Lib.hid (by rw [HI3.out])
    generalize wc = z at *
    have HZ3 := Lib.hid (g3.blk HZ.out (by simp; omega))
    have HF3 := Lib.hid (HF.out.trans g3 (by intro x hx e; simp at e; omega))
    clear HI3 HQE g3 HZ HC HF
    clear c0 c1 f0 f1 hl2_
    obtain ⟨c0, c1, f0, f1, hl2_⟩ := blk2_facts (hc3)
    go_wp2_with fail
    refine (rprops_any X.2 k false _ (by omega)).mono ?_
    rintro _ z5 ⟨v, rfl, own5, g5⟩
    rw [HX1.out] at HB
    generalize takeP X.2 k false = R at *
    obtain ⟨l, r4⟩ := R
    dsimp only at own5 HB ⊢
    obtain ⟨A4, c4, rfl⟩ := own_shape own5
    have hc5 := g5.blk hc3 (by simp)
    have hz5 := g5.blk HZ3.out (by simp)
    have f5 := HF3.out.trans g5 (by simp)
    have hlow := Lib.hid (fun k hk => (own5.lt k hk).1 : ∀ k, (Value.slice A4 l.length c4).ownBlock = some k → z.heap.size ≤ k)
    have hCz := blk_lt hc3
    have hzw := HF3.out.size
    have HC6 := Lib.hid (blk2_set hc5 (.string ⟨r4.s.toArray⟩) (.int .i64 r4.e))
    have gs : Fr [C] z5 ((z5.setCell ⟨C, 0, none⟩ (.string ⟨r4.s.toArray⟩)).setCell ⟨C, 1, none⟩ (.int .i64 r4.e)) := ((Fr.refl _ _).setCell (Or.inr (by simp)) _).setCell (Or.inr (by simp)) _
    have HZ6 := Lib.hid (gs.blk hz5 (by simp; omega))
    have HF6 := Lib.hid (f5.trans gs (by intro x hx e; simp at e; omega))
    have HO6 := Lib.hid (own_base (own_fr gs own5 (by intro q hq e; have := hlow.out q hq; simp at e; omega)) (base' := w.heap.size) (fun k hk => by have := hlow.out k hk; omega))
    clear c0 c1 f0 f1 hl2_
    obtain ⟨c0, c1, f0, f1, hl2_⟩ := blk2_facts (hc5)
    clear own5 g5 hz5 f5 HZ3 HF3 hc3 gs
    go_upto_region 5 with (fail)
    obtain ⟨z6, hz6⟩ : ∃ z6, (z5.setCell ⟨C, 0, none⟩ (.string ⟨r4.s.toArray⟩)).setCell ⟨C, 1, none⟩ (.int .i64 r4.e) = z6 := ⟨_, rfl⟩
    rw [hz6] at HC6 HZ6 HF6 HO6 ⊢
    clear hz6 hc5
    clear c0 c1 f0 f1 hl2_
    obtain ⟨c0, c1, f0, f1, hl2_⟩ := blk2_facts (HC6.out)
    have HM : Hid (r4.more = if r4.s = [] then r4.fail 3 else r4) := Lib.hid rfl
    have HM2 : Hid (r4.more = if (decide (r4.e = 0) && r4.s.isEmpty) = true then r4.fail 3 else r4) := Lib.hid (by
      rw [HM.out]
      by_cases he : r4.e = 0
      · by_cases hn : r4.s = [] <;> simp [he, hn]
      · rw [fail_bad r4 3 he]; simp)
    have HQ4 : Hid ((decide (r4.e = 0) && r4.s.isEmpty) = true → r4.e = 0) := Lib.hid (fun h => by simp at h; exact h.1)
    go_cut [37] (fun v37 wx => v37 = .bool (decide (r4.e = 0) && r4.s.isEmpty) ∧ z6 = wx)
    case first =>
      by_cases he : r4.e = 0
      · have e0 : (r4.e == 0) = true := by simpa using he
        have d0 : decide (r4.e = 0) = true := by simpa using he
        clear he HM HM2 HQ4
        obtain ⟨be, hbe⟩ : ∃ be, r4.s.isEmpty = be := ⟨_, rfl⟩
        have HBE := Lib.hid hbe
        go_wp2
        go_meet
        rw [d0, Bool.true_and]
        exact ⟨by first | rfl | rw [HBE.out], rfl⟩
      · have e0 : (r4.e == 0) = false := by simpa using he
        have d0 : decide (r4.e = 0) = false := by simpa using he
        clear he HM HM2 HQ4
        go_wp2
        go_meet
        rw [d0, Bool.false_and]
        exact ⟨rfl, rfl⟩
    case rest =>
    obtain ⟨rfl, hwc⟩ := hcut
    rw [← hwc]
    clear hwc HM
    clear wc
    generalize hY : r4.more = Y at *
    clear hY
    generalize (decide (r4.e = 0) && r4.s.isEmpty) = bb at *
    go_upto_if 37 with (fail)
    go_cut [] (fun wx => wx.heap[C]? = some (.cells #[.string ⟨(Y).s.toArray⟩, .int .i64 (Y).e] 99 (0, 0)) ∧ Fr [C] z6 wx)
    case first =>
      cases bb
      · rw [if_neg (by decide)] at HM2
        go_wp2
        go_meet
        rw [HM2.out]
        exact ⟨HC6.out, Fr.refl _ _⟩
      · rw [if_pos rfl] at HM2
        go_wp2
        go_meet
        rw [HM2.out]
        exact ⟨CurAt.e3 HC6.out (HQ4.out (by simp)), (Fr.refl _ _).setCell (Or.inr (by simp)) _⟩
    case rest =>
      obtain ⟨hc7, g7⟩ := hcut
      generalize wc = z7 at *
      have hz7 := g7.blk HZ6.out (by simp; omega)
      have f7 := HF6.out.trans g7 (by intro x hx e; simp at e; omega)
      have o7 := own_fr g7 HO6.out (by intro q hq e; have h1 := hlow.out q hq; simp at e; omega)
      clear HC6 HZ6 HF6 HO6 HM2 HQ4 g7
      clear c0 c1 f0 f1 hl2_
      obtain ⟨c0, c1, f0, f1, hl2_⟩ := blk2_facts (hc7)
      obtain ⟨d0, d1, m0, m1, _⟩ := blk2_facts hz7
      have HZ8 := Lib.hid (blk2_set hz7 (.string ⟨Y.s.toArray⟩) (.int .i64 Y.e))
      have gs : Fr [w.heap.size] z7 ((z7.setCell ⟨w.heap.size, 0, none⟩ (.string ⟨Y.s.toArray⟩)).setCell ⟨w.heap.size, 1, none⟩ (.int .i64 Y.e)) := ((Fr.refl _ _).setCell (Or.inr (by simp)) _).setCell (Or.inr (by simp)) _
      have HF8 := Lib.hid (f7.trans ((gs)) (by intro x hx e; simp at e; omega))
      have HO8 := Lib.hid (own_fr gs o7 (by intro q hq e; have h1 := hlow.out q hq; simp at e; omega))
      clear f7 o7 gs
      go_wp2
      generalize (z7.setCell ⟨w.heap.size, 0, none⟩ (.string ⟨Y.s.toArray⟩)).setCell ⟨w.heap.size, 1, none⟩ (.int .i64 Y.e) = W5 at *
      clear d0 d1 m0 m1
      obtain ⟨d0, d1, m0, m1, _⟩ := blk2_facts HZ8.out
      refine bodyPost_ret (v := .tuple #[.agg #[.string ⟨Y.s.toArray⟩, .int .i64 Y.e], .int .u32 (n : Int), .slice A4 l.length c4]) (by simp [results, Try.results54, go_sem, d0, d1]) rfl ?_
      rw [HB.out]
      exact ⟨_, rfl, HO8.out, HF8.out⟩
end Go.Proofs.Ythioageiebchlaa
