/- The walk of the law PublishWrites. -/
import Derived.Test.YtlhkgalmiajinaaPubO
import Derived.Test.YtlhkgalmiajinaaPropOpen
import Derived.Deep.DrawnRows
namespace Go.Proofs.Ytlhkgalmiajinaa
open Go.RowKit
attribute [local go_sem ↓] Go.wp_at_zero Go.wp_at_succ

def fewPb (p : Pb) : Pb := ⟨p.dup, p.ret, p.qos, p.id, fewR p.props, p.topic.take 30, p.pay.take 50⟩
set_option maxRecDepth 100000 in
set_option maxHeartbeats 4000000 in
theorem few7_any (p : Pb) (v : Value) (w : World) (hv : View w v p.props.length (p.props.flatMap prE)) (hl : p.props.length ≤ 9223372036854775807) (hok : ∀ x ∈ p.props, x.n < 4294967296 ∧ x.s.length ≤ 9223372036854775807 ∧ x.t.length ≤ 9223372036854775807) (ht : p.topic.length ≤ 9223372036854775807) (hs : p.pay.length ≤ 9223372036854775807) :
    Calls Try.prog 14 #[.agg (pbC p v).toArray] w (ToldTo7 97 (fewPb p) w) := by
  obtain ⟨dup, ret, q, id, l, t, s⟩ := p
  dsimp only at hv hl hok ht hs
  have HV := Lib.hid hv
  have HO := Lib.hid (fun x hx => (hok x hx).2 : ∀ x ∈ l, x.s.length ≤ 9223372036854775807 ∧ x.t.length ≤ 9223372036854775807)
  obtain ⟨A, cp, rfl, _⟩ := hv
  have ha := blk_at1 w (.cells (pbC ⟨dup, ret, q, id, l, t, s⟩ (.slice A l.length cp)).toArray 26) (.cells #[.bool false, .bool false, .int .u8 0, .int .u32 0, .slice none 0 0, .string ⟨#[]⟩, .string ⟨#[]⟩] 26)
  have hb := blk_old (blk_new w (.cells (pbC ⟨dup, ret, q, id, l, t, s⟩ (.slice A l.length cp)).toArray 26)) (.cells #[.bool false, .bool false, .int .u8 0, .int .u32 0, .slice none 0 0, .string ⟨#[]⟩, .string ⟨#[]⟩] 26)
  have F0 : Fr [] w ((w.alloc (.cells (pbC ⟨dup, ret, q, id, l, t, s⟩ (.slice A l.length cp)).toArray 26)).alloc (.cells #[.bool false, .bool false, .int .u8 0, .int .u32 0, .slice none 0 0, .string ⟨#[]⟩, .string ⟨#[]⟩] 26)) := ((Fr.refl _ _).alloc _).alloc _
  unfold pbC at ha hb F0 ⊢
  clear hok
  go_enter Try.func14, Try.ntmps14
  go_wp2_with fail
  refine (few_any _ l _ (HV.out.old F0 (by simp)) hl HO.out).mono ?_
  rintro _ y ⟨v2, rfl, own2, g2⟩
  obtain ⟨A2, c2, rfl⟩ := own_shape own2
  have HA := Lib.hid (blk_far (p := ⟨w.heap.size, 4, none⟩) (g2.blk ha (by simp)) (by simp) (.slice A2 (fewR l).length c2))
  have HB : Hid ((y.setCell ⟨w.heap.size, 4, none⟩ (.slice A2 (fewR l).length c2)).heap[w.heap.size]? = some (.cells #[.bool dup, .bool ret, .int .u8 (q : Int), .int .u32 (id : Int), .slice A2 (fewR l).length c2, .string ⟨t.toArray⟩, .string ⟨s.toArray⟩] 26 (0, 0))) := Lib.hid (blk_set (g2.blk hb (by simp)) 4 (.slice A2 (fewR l).length c2))
  have FF := Lib.hid ((F0.trans g2 (by simp)).setCell (p := ⟨w.heap.size, 4, none⟩) (Or.inl (by simp)) (.slice A2 (fewR l).length c2))
  have hlow := Lib.hid (fun k hk => (own2.lt k hk).1)
  have hsz : w.heap.size + 1 < ((w.alloc (.cells #[.bool dup, .bool ret, .int .u8 (q : Int), .int .u32 (id : Int), .slice A l.length cp, .string ⟨t.toArray⟩, .string ⟨s.toArray⟩] 26)).alloc (.cells #[.bool false, .bool false, .int .u8 0, .int .u32 0, .slice none 0 0, .string ⟨#[]⟩, .string ⟨#[]⟩] 26)).heap.size := by simp
  have own3 := Lib.hid (own_set own2 (p := ⟨w.heap.size, 4, none⟩) (by intro e; have := hlow.out _ e.symm; simp at this <;> omega) (.slice A2 (fewR l).length c2))
  obtain ⟨⟨e0, e1, e2, e3, e4, e5, e6⟩, ⟨k0, k1, k2, k3, k4, k5, k6⟩, _⟩ := blk7_facts (g2.blk hb (by simp))
  clear ha hb F0 g2 own2
  go_upto_region 2 with (fail)
  obtain ⟨z, hz⟩ : ∃ z, y.setCell ⟨w.heap.size, 4, none⟩ (.slice A2 (fewR l).length c2) = z := ⟨_, rfl⟩
  rw [hz] at HA HB FF own3 ⊢
  clear hz e0 e1 e2 e3 e4 e5 e6 k0 k1 k2 k3 k4 k5 k6
  obtain ⟨⟨e0, e1, e2, e3, e4, e5, e6⟩, ⟨k0, k1, k2, k3, k4, k5, k6⟩, _⟩ := blk7_facts HB.out
  go_cut [] (fun wx => wx.heap[w.heap.size]? = some (.cells #[.bool dup, .bool ret, .int .u8 (q : Int), .int .u32 (id : Int), .slice A2 (fewR l).length c2, .string ⟨(t.take 30).toArray⟩, .string ⟨(s.take 50).toArray⟩] 26 (0, 0)) ∧ Fr [w.heap.size] z wx)
  case first =>
    go_region_with ((first | (go_at_call 36; (with_reducible refine (cut_any t 30 _ ht (by decide)).mono ?_); rintro _ _ ⟨rfl, rfl⟩) | (go_at_call 36; (with_reducible refine (cut_any s 50 _ hs (by decide)).mono ?_); rintro _ _ ⟨rfl, rfl⟩)))
    all_goals go_wp2_with fail
    all_goals go_meet
    all_goals first | exact ⟨blk_set (blk_set HB.out 5 _) 6 _, ((((Fr.refl _ _).setCell (Or.inr (by simp)) _).setCell (Or.inr (by simp)) _).drew)⟩ | exact ⟨blk_set (blk_set HB.out 6 _) 5 _, ((((Fr.refl _ _).setCell (Or.inr (by simp)) _).setCell (Or.inr (by simp)) _).drew)⟩
  case rest =>
    obtain ⟨hb, g⟩ := hcut
    have ha := g.blk HA.out (by simp)
    have own4 := own_fr g own3.out (by intro k hk h; have := hlow.out k hk; simp at h this; omega)
    have F1 := FF.out.trans g (by intro x hx h; simp at h; omega)
    clear e0 e1 e2 e3 e4 e5 e6 k0 k1 k2 k3 k4 k5 k6 HA HB FF own3 g
    obtain ⟨⟨e0, e1, e2, e3, e4, e5, e6⟩, _, _⟩ := blk7_facts hb
    obtain ⟨⟨d0, d1, d2, d3, d4, d5, d6⟩, ⟨g0, g1, g2, g3, g4, g5, g6⟩, _⟩ := blk7_facts ha
    have HZ := Lib.hid (blk7_set ha (.bool dup) (.bool ret) (.int .u8 (q : Int)) (.int .u32 (id : Int)) (.slice A2 (fewR l).length c2) (.string ⟨(t.take 30).toArray⟩) (.string ⟨(s.take 50).toArray⟩))
    have FZ := Lib.hid (fr7_set F1 (b := w.heap.size + 1) (by omega) (.bool dup) (.bool ret) (.int .u8 (q : Int)) (.int .u32 (id : Int)) (.slice A2 (fewR l).length c2) (.string ⟨(t.take 30).toArray⟩) (.string ⟨(s.take 50).toArray⟩))
    have OZ := Lib.hid (own_base (own_set7 own4 (b := w.heap.size + 1) (by intro e; have := hlow.out _ e.symm; simp at this; omega) (.bool dup) (.bool ret) (.int .u8 (q : Int)) (.int .u32 (id : Int)) (.slice A2 (fewR l).length c2) (.string ⟨(t.take 30).toArray⟩) (.string ⟨(s.take 50).toArray⟩)) (base' := w.heap.size) (fun k hk => by have := hlow.out k hk; simp at this; omega))
    go_wp2
    change bodyPost _ _ _ _ _ (set7 wc (w.heap.size + 1) (.bool dup) (.bool ret) (.int .u8 (q : Int)) (.int .u32 (id : Int)) (.slice A2 (fewR l).length c2) (.string ⟨(t.take 30).toArray⟩) (.string ⟨(s.take 50).toArray⟩))
    generalize set7 wc (w.heap.size + 1) (.bool dup) (.bool ret) (.int .u8 (q : Int)) (.int .u32 (id : Int)) (.slice A2 (fewR l).length c2) (.string ⟨(t.take 30).toArray⟩) (.string ⟨(s.take 50).toArray⟩) = W5 at *
    clear d0 d1 d2 d3 d4 d5 d6 g0 g1 g2 g3 g4 g5 g6 e0 e1 e2 e3 e4 e5 e6
    obtain ⟨e0, e1, e2, e3, e4, e5, e6⟩ := (blk7_facts HZ.out).1
    refine bodyPost_ret (v := .agg #[.bool dup, .bool ret, .int .u8 (q : Int), .int .u32 (id : Int), .slice A2 (fewR l).length c2, .string ⟨(t.take 30).toArray⟩, .string ⟨(s.take 50).toArray⟩]) (by simp [results, Try.results14, go_sem, e0, e1, e2, e3, e4, e5, e6]) rfl ?_
    exact ⟨.slice A2 (fewR l).length c2, rfl, OZ.out, FZ.out⟩
theorem fewPb_ok (p : Pb) (hq : p.qos < 256) (hid : p.id < 4294967296) (hok : ∀ x ∈ p.props, x.n < 4294967296 ∧ x.s.length ≤ 9223372036854775807 ∧ x.t.length ≤ 9223372036854775807) :
    (fewPb p).qos < 256 ∧ (fewPb p).id < 4294967296 ∧ (fewPb p).props.length ≤ 8 ∧ (∀ x ∈ (fewPb p).props, x.n < 4294967296 ∧ x.s.length ≤ 9223372036854775807 ∧ x.t.length ≤ 9223372036854775807) ∧ (fewPb p).topic.length ≤ 9223372036854775807 ∧ (fewPb p).pay.length ≤ 1000000 := by
  obtain ⟨h1, h2⟩ := fewR_ok p.props hok
  have h3 : (p.topic.take 30).length ≤ 30 := List.length_take_le _ _
  have h4 : (p.pay.take 50).length ≤ 50 := List.length_take_le _ _
  refine ⟨hq, hid, h1, fun x hx => ?_, by show (p.topic.take 30).length ≤ _; omega, by show (p.pay.take 50).length ≤ _; omega⟩
  obtain ⟨a, b, c⟩ := h2 x hx
  exact ⟨a, by omega, by omega⟩
set_option maxRecDepth 100000 in
set_option maxHeartbeats 4000000 in
theorem publishWrites_walk (p : Pb) (u : Value) (a : Ak) (u' : Value) (w : World) (hq : p.qos < 256) (hid : p.id < 4294967296) (ht : p.topic.length ≤ 9223372036854775807) (hs : p.pay.length ≤ 9223372036854775807) (hl : p.props.length ≤ 9223372036854775807) (hv : View w u p.props.length (p.props.flatMap prE)) (hok : ∀ x ∈ p.props, x.n < 4294967296 ∧ x.s.length ≤ 9223372036854775807 ∧ x.t.length ≤ 9223372036854775807) (hid' : a.id < 4294967296) (hc : a.code < 256) (hl' : a.props.length ≤ 9223372036854775807) (hv' : View w u' a.props.length (a.props.flatMap prE)) (hok' : ∀ x ∈ a.props, x.n < 4294967296 ∧ x.s.length ≤ 9223372036854775807 ∧ x.t.length ≤ 9223372036854775807) :
    Calls Try.prog 3 #[.agg (pbC p u).toArray, .agg (akC a u').toArray] w fun e w' => e = .returned (.bool true) ∧ Fr [] w w' := by
  have HK := Lib.hid (fewPb_ok p hq hid hok)
  have HJ := Lib.hid (fewR_ok a.props hok')
  obtain ⟨dup, ret, q, id, l, t, y⟩ := p
  obtain ⟨k, n, c, j⟩ := a
  dsimp only at *
  have HV := Lib.hid hv
  have HV' := Lib.hid hv'
  have HO := Lib.hid hok
  have HO' := Lib.hid hok'
  have HI := Lib.hid (And.intro hc hid')
  obtain ⟨A1, c1, rfl, _⟩ := hv
  obtain ⟨A0, c0, rfl, _⟩ := hv'
  have ha := blk_at1 w (.cells (pbC ⟨dup, ret, q, id, l, t, y⟩ (.slice A1 l.length c1)).toArray 26) (.cells (akC ⟨k, n, c, j⟩ (.slice A0 j.length c0)).toArray 28)
  have hb := blk_old (blk_new w (.cells (pbC ⟨dup, ret, q, id, l, t, y⟩ (.slice A1 l.length c1)).toArray 26)) (.cells (akC ⟨k, n, c, j⟩ (.slice A0 j.length c0)).toArray 28)
  have F0 : Fr [] w ((w.alloc (.cells (pbC ⟨dup, ret, q, id, l, t, y⟩ (.slice A1 l.length c1)).toArray 26)).alloc (.cells (akC ⟨k, n, c, j⟩ (.slice A0 j.length c0)).toArray 28)) := ((Fr.refl _ _).alloc _).alloc _
  have hsz : w.heap.size + 1 < ((w.alloc (.cells (pbC ⟨dup, ret, q, id, l, t, y⟩ (.slice A1 l.length c1)).toArray 26)).alloc (.cells (akC ⟨k, n, c, j⟩ (.slice A0 j.length c0)).toArray 28)).heap.size := by simp
  unfold pbC at ha hb F0 hsz ⊢
  unfold akC at ha hb F0 hsz ⊢
  clear hok hok' hq hid hc hid'
  go_enter Try.func3, Try.ntmps3
  go_upto_region 1 with (fail)
  obtain ⟨w2, hw2⟩ : ∃ z, (w.alloc (.cells #[.bool dup, .bool ret, .int .u8 (q : Int), .int .u32 (id : Int), .slice A1 l.length c1, .string ⟨t.toArray⟩, .string ⟨y.toArray⟩] 26)).alloc (.cells #[.int .i64 k, .int .u32 (n : Int), .int .u8 (c : Int), .slice A0 j.length c0] 28) = z := ⟨_, rfl⟩
  rw [hw2] at ha hb F0 hsz ⊢
  clear hw2
  obtain ⟨⟨e0, e1, e2, e3, e4, e5, e6⟩, ⟨k0, k1, k2, k3, k4, k5, k6⟩, _⟩ := blk7_facts hb
  go_wp2_with fail
  refine (few7_any ⟨dup, ret, q, id, l, t, y⟩ (.slice A1 l.length c1) _ (HV.out.old F0 (by simp)) hl HO.out ht hs).mono ?_
  clear e0 e1 e2 e3 e4 e5 e6 k0 k1 k2 k3 k4 k5 k6
  generalize hP : fewPb ⟨dup, ret, q, id, l, t, y⟩ = P at *
  rintro _ y2 ⟨v2, rfl, own2, g2⟩
  have hb := g2.blk hb (by simp)
  have ha := g2.blk ha (by simp)
  have hlow := Lib.hid (fun k hk => (own2.lt k hk).1)
  have F2 := F0.trans g2 (by simp)
  clear hP F0 g2 ht hs hl HV HO
  obtain ⟨dup1, ret1, q1, id1, l1, t1, y1⟩ := P
  obtain ⟨A2, c2, rfl⟩ := own_shape own2
  dsimp only [pbC] at *
  obtain ⟨_, ⟨k0, k1, k2, k3, k4, k5, k6⟩, _⟩ := blk7_facts hb
  have HZ := blk7_set hb (.bool dup1) (.bool ret1) (.int .u8 (q1 : Int)) (.int .u32 (id1 : Int)) (.slice A2 l1.length c2) (.string ⟨t1.toArray⟩) (.string ⟨y1.toArray⟩)
  have FZ := fr7_set F2 (b := w.heap.size) (Nat.le_refl _) (.bool dup1) (.bool ret1) (.int .u8 (q1 : Int)) (.int .u32 (id1 : Int)) (.slice A2 l1.length c2) (.string ⟨t1.toArray⟩) (.string ⟨y1.toArray⟩)
  have G7 : Fr [w.heap.size] y2 (set7 y2 w.heap.size (.bool dup1) (.bool ret1) (.int .u8 (q1 : Int)) (.int .u32 (id1 : Int)) (.slice A2 l1.length c2) (.string ⟨t1.toArray⟩) (.string ⟨y1.toArray⟩)) := ((((((((Fr.refl _ _).setCell (Or.inr (by simp)) _).setCell (Or.inr (by simp)) _).setCell (Or.inr (by simp)) _).setCell (Or.inr (by simp)) _).setCell (Or.inr (by simp)) _).setCell (Or.inr (by simp)) _).setCell (Or.inr (by simp)) _)
  have ha := G7.blk ha (by simp)
  have own2 := own_set7 own2 (b := w.heap.size) (by intro e; have := hlow.out _ e.symm; omega) (.bool dup1) (.bool ret1) (.int .u8 (q1 : Int)) (.int .u32 (id1 : Int)) (.slice A2 l1.length c2) (.string ⟨t1.toArray⟩) (.string ⟨y1.toArray⟩)
  clear hb F2 G7
  go_upto_region 2 with (fail)
  obtain ⟨z2, hz2⟩ : ∃ z, set7 y2 w.heap.size (.bool dup1) (.bool ret1) (.int .u8 (q1 : Int)) (.int .u32 (id1 : Int)) (.slice A2 l1.length c2) (.string ⟨t1.toArray⟩) (.string ⟨y1.toArray⟩) = z := ⟨_, rfl⟩
  rw [hz2] at HZ FZ ha own2
  unfold set7 at hz2
  rw [hz2]
  clear hz2 k0 k1 k2 k3 k4 k5 k6
  obtain ⟨⟨i0, i1, i2, i3⟩, ⟨k0, k1, k2, k3⟩, _⟩ := blk4_facts ha
  have hz := blk_lt HZ
  have hz1 := blk_lt ha
  go_wp2_with fail
  refine (few_any (.slice A0 j.length c0) j _ (HV'.out.old FZ (by simp)) hl' (fun x hx => (HO'.out x hx).2)).mono ?_
  have HL : Hid (c < 256 ∧ n < 4294967296 ∧ (fewR j).length ≤ 8 ∧ ∀ x ∈ fewR j, x.n < 4294967296 ∧ x.s.length ≤ 9223372036854775807 ∧ x.t.length ≤ 9223372036854775807) := Lib.hid ⟨HI.out.1, HI.out.2, HJ.out.1, fun x hx => by obtain ⟨a, b, c⟩ := HJ.out.2 x hx; exact ⟨a, by omega, by omega⟩⟩
  clear HV' HO' HI HJ hl'
  generalize fewR j = j at *
  rintro _ y3 ⟨v3, rfl, own3, g3⟩
  obtain ⟨A3, c3, rfl⟩ := own_shape own3
  have hlow3 := Lib.hid (fun k hk => (own3.lt k hk).1)
  have HB1 := Lib.hid (blk_far (p := ⟨w.heap.size + 1, 3, none⟩) (g3.blk HZ (by simp)) (by simp) (.slice A3 j.length c3))
  have ha := g3.blk ha (by simp)
  have HB2 := Lib.hid (blk_set ha 3 (.slice A3 j.length c3))
  have own2 := own_set (own_fr g3 own2 (by simp)) (p := ⟨w.heap.size + 1, 3, none⟩) (by intro e; have := hlow.out _ e.symm; dsimp only at this; omega) (.slice A3 j.length c3)
  have own3 := own_set own3 (p := ⟨w.heap.size + 1, 3, none⟩) (by intro e; have := hlow3.out _ e.symm; dsimp only at this; omega) (.slice A3 j.length c3)
  have FF := Lib.hid ((FZ.trans g3 (by simp)).setCell (p := ⟨w.heap.size + 1, 3, none⟩) (Or.inl (by simp)) (.slice A3 j.length c3))
  have HVP := Lib.hid (own_view own2)
  have HVA := Lib.hid (own_view own3)
  clear i0 i1 i2 i3 k0 k1 k2 k3
  obtain ⟨⟨i0, i1, i2, i3⟩, ⟨k0, k1, k2, k3⟩, _⟩ := blk4_facts ha
  clear HZ FZ ha own2 own3 g3 hz hz1 hlow hlow3
  go_upto_region 3 with (fail)
  obtain ⟨z, hz⟩ : ∃ z, y3.setCell ⟨w.heap.size + 1, 3, none⟩ (.slice A3 j.length c3) = z := ⟨_, rfl⟩
  rw [hz] at HB1 HB2 HVP HVA FF ⊢
  clear hz i0 i1 i2 i3 k0 k1 k2 k3
  have G := Lib.hid (Fr.refl [] z)
  have k0 : (fun w' => (w'.cell? ⟨w.heap.size, 0, none⟩ = some (.bool dup1) ∧ w'.cell? ⟨w.heap.size, 1, none⟩ = some (.bool ret1) ∧ w'.cell? ⟨w.heap.size, 2, none⟩ = some (.int .u8 (q1 : Int)) ∧ w'.cell? ⟨w.heap.size, 3, none⟩ = some (.int .u32 (id1 : Int)) ∧ w'.cell? ⟨w.heap.size, 4, none⟩ = some (.slice A2 l1.length c2) ∧ w'.cell? ⟨w.heap.size, 5, none⟩ = some (.string ⟨t1.toArray⟩) ∧ w'.cell? ⟨w.heap.size, 6, none⟩ = some (.string ⟨y1.toArray⟩)) ∧ (w'.cell? ⟨w.heap.size + 1, 0, none⟩ = some (.int .i64 k) ∧ w'.cell? ⟨w.heap.size + 1, 1, none⟩ = some (.int .u32 (n : Int)) ∧ w'.cell? ⟨w.heap.size + 1, 2, none⟩ = some (.int .u8 (c : Int)) ∧ w'.cell? ⟨w.heap.size + 1, 3, none⟩ = some (.slice A3 j.length c3))) z := ⟨(blk7_facts HB1.out).1, (blk4_facts HB2.out).1⟩
  obtain ⟨⟨e0, e1, e2, e3, e4, e5, e6⟩, ⟨i0, i1, i2, i3⟩⟩ := k0
  have G := Lib.hid ((Fr.refl [] z).drew)
  go_region_held3 (fun w' => (w'.cell? ⟨w.heap.size, 0, none⟩ = some (.bool dup1) ∧ w'.cell? ⟨w.heap.size, 1, none⟩ = some (.bool ret1) ∧ w'.cell? ⟨w.heap.size, 2, none⟩ = some (.int .u8 (q1 : Int)) ∧ w'.cell? ⟨w.heap.size, 3, none⟩ = some (.int .u32 (id1 : Int)) ∧ w'.cell? ⟨w.heap.size, 4, none⟩ = some (.slice A2 l1.length c2) ∧ w'.cell? ⟨w.heap.size, 5, none⟩ = some (.string ⟨t1.toArray⟩) ∧ w'.cell? ⟨w.heap.size, 6, none⟩ = some (.string ⟨y1.toArray⟩)) ∧ (w'.cell? ⟨w.heap.size + 1, 0, none⟩ = some (.int .i64 k) ∧ w'.cell? ⟨w.heap.size + 1, 1, none⟩ = some (.int .u32 (n : Int)) ∧ w'.cell? ⟨w.heap.size + 1, 2, none⟩ = some (.int .u8 (c : Int)) ∧ w'.cell? ⟨w.heap.size + 1, 3, none⟩ = some (.slice A3 j.length c3))) (first | go_keep | exact kk) (first | (go_at_call 16; refine (awake7_any _).mono ?_; rintro _ x ⟨rfl, f⟩; have G := Lib.hid (G.out.trans f (by simp)); have kk : (fun w' => (w'.cell? ⟨w.heap.size, 0, none⟩ = some (.bool dup1) ∧ w'.cell? ⟨w.heap.size, 1, none⟩ = some (.bool ret1) ∧ w'.cell? ⟨w.heap.size, 2, none⟩ = some (.int .u8 (q1 : Int)) ∧ w'.cell? ⟨w.heap.size, 3, none⟩ = some (.int .u32 (id1 : Int)) ∧ w'.cell? ⟨w.heap.size, 4, none⟩ = some (.slice A2 l1.length c2) ∧ w'.cell? ⟨w.heap.size, 5, none⟩ = some (.string ⟨t1.toArray⟩) ∧ w'.cell? ⟨w.heap.size, 6, none⟩ = some (.string ⟨y1.toArray⟩)) ∧ (w'.cell? ⟨w.heap.size + 1, 0, none⟩ = some (.int .i64 k) ∧ w'.cell? ⟨w.heap.size + 1, 1, none⟩ = some (.int .u32 (n : Int)) ∧ w'.cell? ⟨w.heap.size + 1, 2, none⟩ = some (.int .u8 (c : Int)) ∧ w'.cell? ⟨w.heap.size + 1, 3, none⟩ = some (.slice A3 j.length c3))) x := ⟨(blk7_facts (G.out.blk HB1.out (by simp))).1, (blk4_facts (G.out.blk HB2.out (by simp))).1⟩) | (go_at_call 17; refine (pflags_any ⟨dup1, ret1, q1, id1, l1, t1, y1⟩ _ _ (by exact HK.out.1)).mono ?_; rintro _ x ⟨rfl, f⟩; have G := Lib.hid (G.out.trans f (by simp)); have kk : (fun w' => (w'.cell? ⟨w.heap.size, 0, none⟩ = some (.bool dup1) ∧ w'.cell? ⟨w.heap.size, 1, none⟩ = some (.bool ret1) ∧ w'.cell? ⟨w.heap.size, 2, none⟩ = some (.int .u8 (q1 : Int)) ∧ w'.cell? ⟨w.heap.size, 3, none⟩ = some (.int .u32 (id1 : Int)) ∧ w'.cell? ⟨w.heap.size, 4, none⟩ = some (.slice A2 l1.length c2) ∧ w'.cell? ⟨w.heap.size, 5, none⟩ = some (.string ⟨t1.toArray⟩) ∧ w'.cell? ⟨w.heap.size, 6, none⟩ = some (.string ⟨y1.toArray⟩)) ∧ (w'.cell? ⟨w.heap.size + 1, 0, none⟩ = some (.int .i64 k) ∧ w'.cell? ⟨w.heap.size + 1, 1, none⟩ = some (.int .u32 (n : Int)) ∧ w'.cell? ⟨w.heap.size + 1, 2, none⟩ = some (.int .u8 (c : Int)) ∧ w'.cell? ⟨w.heap.size + 1, 3, none⟩ = some (.slice A3 j.length c3))) x := ⟨(blk7_facts (G.out.blk HB1.out (by simp))).1, (blk4_facts (G.out.blk HB2.out (by simp))).1⟩) | (go_at_call 19; refine (told7_any ⟨dup1, ret1, q1, id1, l1, t1, y1⟩ (.slice A2 l1.length c2) _ (HVP.out.fr (S := []) G.out (by simp)) (by show l1.length ≤ 1000000; have := HK.out.2.2.1; omega)).mono ?_; rintro _ x ⟨v6, rfl, o6, f⟩; have G := Lib.hid (G.out.trans f (by simp)); have kk : (fun w' => (w'.cell? ⟨w.heap.size, 0, none⟩ = some (.bool dup1) ∧ w'.cell? ⟨w.heap.size, 1, none⟩ = some (.bool ret1) ∧ w'.cell? ⟨w.heap.size, 2, none⟩ = some (.int .u8 (q1 : Int)) ∧ w'.cell? ⟨w.heap.size, 3, none⟩ = some (.int .u32 (id1 : Int)) ∧ w'.cell? ⟨w.heap.size, 4, none⟩ = some (.slice A2 l1.length c2) ∧ w'.cell? ⟨w.heap.size, 5, none⟩ = some (.string ⟨t1.toArray⟩) ∧ w'.cell? ⟨w.heap.size, 6, none⟩ = some (.string ⟨y1.toArray⟩)) ∧ (w'.cell? ⟨w.heap.size + 1, 0, none⟩ = some (.int .i64 k) ∧ w'.cell? ⟨w.heap.size + 1, 1, none⟩ = some (.int .u32 (n : Int)) ∧ w'.cell? ⟨w.heap.size + 1, 2, none⟩ = some (.int .u8 (c : Int)) ∧ w'.cell? ⟨w.heap.size + 1, 3, none⟩ = some (.slice A3 j.length c3))) x := ⟨(blk7_facts (G.out.blk HB1.out (by simp))).1, (blk4_facts (G.out.blk HB2.out (by simp))).1⟩) | (go_at_call 18; refine (rpflags_any ⟨dup1, ret1, q1, id1, l1, t1, y1⟩ _ _ (by exact HK.out.1)).mono ?_; rintro _ x ⟨rfl, f⟩; have G := Lib.hid (G.out.trans f (by simp)); have kk : (fun w' => (w'.cell? ⟨w.heap.size, 0, none⟩ = some (.bool dup1) ∧ w'.cell? ⟨w.heap.size, 1, none⟩ = some (.bool ret1) ∧ w'.cell? ⟨w.heap.size, 2, none⟩ = some (.int .u8 (q1 : Int)) ∧ w'.cell? ⟨w.heap.size, 3, none⟩ = some (.int .u32 (id1 : Int)) ∧ w'.cell? ⟨w.heap.size, 4, none⟩ = some (.slice A2 l1.length c2) ∧ w'.cell? ⟨w.heap.size, 5, none⟩ = some (.string ⟨t1.toArray⟩) ∧ w'.cell? ⟨w.heap.size, 6, none⟩ = some (.string ⟨y1.toArray⟩)) ∧ (w'.cell? ⟨w.heap.size + 1, 0, none⟩ = some (.int .i64 k) ∧ w'.cell? ⟨w.heap.size + 1, 1, none⟩ = some (.int .u32 (n : Int)) ∧ w'.cell? ⟨w.heap.size + 1, 2, none⟩ = some (.int .u8 (c : Int)) ∧ w'.cell? ⟨w.heap.size + 1, 3, none⟩ = some (.slice A3 j.length c3))) x := ⟨(blk7_facts (G.out.blk HB1.out (by simp))).1, (blk4_facts (G.out.blk HB2.out (by simp))).1⟩) | (go_at_call 20; refine (ptext_any ⟨dup1, ret1, q1, id1, l1, t1, y1⟩ (.slice A2 l1.length c2) _ (by exact HK.out.1) (by exact HK.out.2.1) (HVP.out.fr (S := []) G.out (by simp)) (by show l1.length ≤ 1000; have := HK.out.2.2.1; omega) (by exact HK.out.2.2.2.1) (by exact HK.out.2.2.2.2.1) (by exact HK.out.2.2.2.2.2)).mono ?_; rintro _ x ⟨rfl, f⟩; have G := Lib.hid (G.out.trans f (by simp)); have kk : (fun w' => (w'.cell? ⟨w.heap.size, 0, none⟩ = some (.bool dup1) ∧ w'.cell? ⟨w.heap.size, 1, none⟩ = some (.bool ret1) ∧ w'.cell? ⟨w.heap.size, 2, none⟩ = some (.int .u8 (q1 : Int)) ∧ w'.cell? ⟨w.heap.size, 3, none⟩ = some (.int .u32 (id1 : Int)) ∧ w'.cell? ⟨w.heap.size, 4, none⟩ = some (.slice A2 l1.length c2) ∧ w'.cell? ⟨w.heap.size, 5, none⟩ = some (.string ⟨t1.toArray⟩) ∧ w'.cell? ⟨w.heap.size, 6, none⟩ = some (.string ⟨y1.toArray⟩)) ∧ (w'.cell? ⟨w.heap.size + 1, 0, none⟩ = some (.int .i64 k) ∧ w'.cell? ⟨w.heap.size + 1, 1, none⟩ = some (.int .u32 (n : Int)) ∧ w'.cell? ⟨w.heap.size + 1, 2, none⟩ = some (.int .u8 (c : Int)) ∧ w'.cell? ⟨w.heap.size + 1, 3, none⟩ = some (.slice A3 j.length c3))) x := ⟨(blk7_facts (G.out.blk HB1.out (by simp))).1, (blk4_facts (G.out.blk HB2.out (by simp))).1⟩) | (go_at_call 21; refine (rptext_any ⟨dup1, ret1, q1, id1, l1, t1, y1⟩ v6 _ (by exact HK.out.1) (by exact HK.out.2.1) (own_view o6) (by show l1.length ≤ 1000; have := HK.out.2.2.1; omega) (by exact HK.out.2.2.2.1) (by exact HK.out.2.2.2.2.1) (by exact HK.out.2.2.2.2.2)).mono ?_; rintro _ x ⟨rfl, f⟩; have G := Lib.hid (G.out.trans f (by simp)); have kk : (fun w' => (w'.cell? ⟨w.heap.size, 0, none⟩ = some (.bool dup1) ∧ w'.cell? ⟨w.heap.size, 1, none⟩ = some (.bool ret1) ∧ w'.cell? ⟨w.heap.size, 2, none⟩ = some (.int .u8 (q1 : Int)) ∧ w'.cell? ⟨w.heap.size, 3, none⟩ = some (.int .u32 (id1 : Int)) ∧ w'.cell? ⟨w.heap.size, 4, none⟩ = some (.slice A2 l1.length c2) ∧ w'.cell? ⟨w.heap.size, 5, none⟩ = some (.string ⟨t1.toArray⟩) ∧ w'.cell? ⟨w.heap.size, 6, none⟩ = some (.string ⟨y1.toArray⟩)) ∧ (w'.cell? ⟨w.heap.size + 1, 0, none⟩ = some (.int .i64 k) ∧ w'.cell? ⟨w.heap.size + 1, 1, none⟩ = some (.int .u32 (n : Int)) ∧ w'.cell? ⟨w.heap.size + 1, 2, none⟩ = some (.int .u8 (c : Int)) ∧ w'.cell? ⟨w.heap.size + 1, 3, none⟩ = some (.slice A3 j.length c3))) x := ⟨(blk7_facts (G.out.blk HB1.out (by simp))).1, (blk4_facts (G.out.blk HB2.out (by simp))).1⟩) | (go_at_call 22; refine (packtext_any ⟨k, n, c, j⟩ (.slice A3 j.length c3) _ (by exact HL.out.1) (by exact HL.out.2.1) (HVA.out.fr (S := []) G.out (by simp)) (by show j.length ≤ 1000; have := HL.out.2.2.1; omega) (by exact HL.out.2.2.2)).mono ?_; rintro _ x ⟨rfl, f⟩; have G := Lib.hid (G.out.trans f (by simp)); have kk : (fun w' => (w'.cell? ⟨w.heap.size, 0, none⟩ = some (.bool dup1) ∧ w'.cell? ⟨w.heap.size, 1, none⟩ = some (.bool ret1) ∧ w'.cell? ⟨w.heap.size, 2, none⟩ = some (.int .u8 (q1 : Int)) ∧ w'.cell? ⟨w.heap.size, 3, none⟩ = some (.int .u32 (id1 : Int)) ∧ w'.cell? ⟨w.heap.size, 4, none⟩ = some (.slice A2 l1.length c2) ∧ w'.cell? ⟨w.heap.size, 5, none⟩ = some (.string ⟨t1.toArray⟩) ∧ w'.cell? ⟨w.heap.size, 6, none⟩ = some (.string ⟨y1.toArray⟩)) ∧ (w'.cell? ⟨w.heap.size + 1, 0, none⟩ = some (.int .i64 k) ∧ w'.cell? ⟨w.heap.size + 1, 1, none⟩ = some (.int .u32 (n : Int)) ∧ w'.cell? ⟨w.heap.size + 1, 2, none⟩ = some (.int .u8 (c : Int)) ∧ w'.cell? ⟨w.heap.size + 1, 3, none⟩ = some (.slice A3 j.length c3))) x := ⟨(blk7_facts (G.out.blk HB1.out (by simp))).1, (blk4_facts (G.out.blk HB2.out (by simp))).1⟩) | (go_at_call 24; refine (acks7_any ⟨k, n, c, j⟩ (.slice A3 j.length c3) _ (HVA.out.fr (S := []) G.out (by simp)) (by show j.length ≤ 1000000; have := HL.out.2.2.1; omega)).mono ?_; rintro _ x ⟨v7, rfl, o7, f⟩; have G := Lib.hid (G.out.trans f (by simp)); have kk : (fun w' => (w'.cell? ⟨w.heap.size, 0, none⟩ = some (.bool dup1) ∧ w'.cell? ⟨w.heap.size, 1, none⟩ = some (.bool ret1) ∧ w'.cell? ⟨w.heap.size, 2, none⟩ = some (.int .u8 (q1 : Int)) ∧ w'.cell? ⟨w.heap.size, 3, none⟩ = some (.int .u32 (id1 : Int)) ∧ w'.cell? ⟨w.heap.size, 4, none⟩ = some (.slice A2 l1.length c2) ∧ w'.cell? ⟨w.heap.size, 5, none⟩ = some (.string ⟨t1.toArray⟩) ∧ w'.cell? ⟨w.heap.size, 6, none⟩ = some (.string ⟨y1.toArray⟩)) ∧ (w'.cell? ⟨w.heap.size + 1, 0, none⟩ = some (.int .i64 k) ∧ w'.cell? ⟨w.heap.size + 1, 1, none⟩ = some (.int .u32 (n : Int)) ∧ w'.cell? ⟨w.heap.size + 1, 2, none⟩ = some (.int .u8 (c : Int)) ∧ w'.cell? ⟨w.heap.size + 1, 3, none⟩ = some (.slice A3 j.length c3))) x := ⟨(blk7_facts (G.out.blk HB1.out (by simp))).1, (blk4_facts (G.out.blk HB2.out (by simp))).1⟩) | (go_at_call 23; refine (rpacktext_any ⟨k, n, c, j⟩ v7 _ (by exact HL.out.1) (by exact HL.out.2.1) (own_view o7) (by show j.length ≤ 1000; have := HL.out.2.2.1; omega) (by exact HL.out.2.2.2)).mono ?_; rintro _ x ⟨rfl, f⟩; have G := Lib.hid (G.out.trans f (by simp)); have kk : (fun w' => (w'.cell? ⟨w.heap.size, 0, none⟩ = some (.bool dup1) ∧ w'.cell? ⟨w.heap.size, 1, none⟩ = some (.bool ret1) ∧ w'.cell? ⟨w.heap.size, 2, none⟩ = some (.int .u8 (q1 : Int)) ∧ w'.cell? ⟨w.heap.size, 3, none⟩ = some (.int .u32 (id1 : Int)) ∧ w'.cell? ⟨w.heap.size, 4, none⟩ = some (.slice A2 l1.length c2) ∧ w'.cell? ⟨w.heap.size, 5, none⟩ = some (.string ⟨t1.toArray⟩) ∧ w'.cell? ⟨w.heap.size, 6, none⟩ = some (.string ⟨y1.toArray⟩)) ∧ (w'.cell? ⟨w.heap.size + 1, 0, none⟩ = some (.int .i64 k) ∧ w'.cell? ⟨w.heap.size + 1, 1, none⟩ = some (.int .u32 (n : Int)) ∧ w'.cell? ⟨w.heap.size + 1, 2, none⟩ = some (.int .u8 (c : Int)) ∧ w'.cell? ⟨w.heap.size + 1, 3, none⟩ = some (.slice A3 j.length c3))) x := ⟨(blk7_facts (G.out.blk HB1.out (by simp))).1, (blk4_facts (G.out.blk HB2.out (by simp))).1⟩))
  all_goals go_wp2
  all_goals go_ret
  all_goals exact ⟨rfl, FF.out.trans G.out (by simp)⟩
end Go.Proofs.Ytlhkgalmiajinaa
