/- What the reference of layer 7 comes to: the same words as the program's. Conditions: numbers within their kinds, strings that may be. -/
import Derived.Test.YtlhkgalmiajinaaPubA
import Derived.Test.YtlhkgalmiajinaaPropM
import Derived.Test.YtlhkgalmiajinaaPropN
import Derived.Test.YtlhkgalmiajinaaSame6
namespace Go.Proofs.Ytlhkgalmiajinaa
open Go.RowKit

set_option maxRecDepth 100000 in
theorem rpflags_any (p : Pb) (v : Value) (w : World) (hq : p.qos < 256) :
    Calls Try.prog 18 #[.agg (pbC p v).toArray] w fun e w' => e = .returned (.int .i64 (pbFlags p : Nat)) ∧ Fr [] w w' := by
  obtain ⟨dup, ret, q, id, l, t, s⟩ := p
  dsimp only at hq
  have HF : Hid (pbFlags ⟨dup, ret, q, id, l, t, s⟩ = q % 4 * 2 + (if dup = true then 8 else 0) + (if ret = true then 1 else 0)) := Lib.hid rfl
  cases dup <;> cases ret
  all_goals
    unfold pbC
    go_enter Try.func18, Try.ntmps18
    go_wp2
    go_ret
    rw [HF.out]
    exact ⟨ret_int (by first | (simp; done) | (simp; omega)), (Fr.refl _ _).alloc _⟩
theorem cat3 (w : World) (a b : List UInt8) (h : a.length + b.length ≤ 9223372036854775807) : (binOp .add 9 (.string ⟨a.toArray⟩) (.string ⟨b.toArray⟩)).run Try.prog w = .ok (.string ⟨(a ++ b).toArray⟩) w := by
  have u := Try.underlying9
  go_simp
  rw [if_neg (by omega), ByteArray.mk_append_mk]
set_option maxRecDepth 100000 in
set_option maxHeartbeats 2000000 in
theorem rptext_any (p : Pb) (v : Value) (w : World) (hq : p.qos < 256) (hid : p.id < 4294967296) (hv : View w v p.props.length (p.props.flatMap prE)) (hl : p.props.length ≤ 1000) (hok : ∀ x ∈ p.props, x.n < 4294967296 ∧ x.s.length ≤ 9223372036854775807 ∧ x.t.length ≤ 9223372036854775807) (ht : p.topic.length ≤ 9223372036854775807) (hs : p.pay.length ≤ 1000000) :
    Calls Try.prog 21 #[.agg (pbC p v).toArray] w fun e w' => e = .returned (.string ⟨(pbText p).toArray⟩) ∧ Fr [] w w' := by
  obtain ⟨dup, ret, q, id, l, t, s⟩ := p
  dsimp only at hq hid hv hl hok ht hs
  have HV := Lib.hid hv
  obtain ⟨A, cp, rfl, _⟩ := hv
  have HT : Hid (pbText ⟨dup, ret, q, id, l, t, s⟩ = dataB t ++ ((if 0 < q then two id else []) ++ (propsB l ++ s))) := Lib.hid rfl
  have hb0 := blk_new w (.cells (pbC ⟨dup, ret, q, id, l, t, s⟩ (.slice A l.length cp)).toArray 36)
  have F0 : Fr [] w (w.alloc (.cells (pbC ⟨dup, ret, q, id, l, t, s⟩ (.slice A l.length cp)).toArray 36)) := (Fr.refl _ _).alloc _
  have hd := dataB_len t
  have hpl := putsB_len l
  have hvl := varB_len' (putsB l).length
  unfold pbC at hb0 F0 ⊢
  go_enter Try.func21, Try.ntmps21
  go_wp2_with fail
  refine (rdata_any t _ ht).mono ?_
  rintro _ w1 ⟨rfl, g1⟩
  have F1 := F0.trans g1 (by simp)
  have hb1 := g1.blk hb0 (by simp)
  clear hb0 F0 g1
  obtain ⟨⟨e0, e1, e2, e3, e4, e5, e6⟩, ⟨k0, k1, k2, k3, k4, k5, k6⟩, _⟩ := blk7_facts (hb1)
  by_cases hq0 : 0 < (q : Int)
  · go_wp2_with fail
    refine (rtwo_any id _ (by omega) (by omega)).mono ?_
    rintro _ w2 ⟨rfl, g2⟩
    have F2 := Lib.hid (F1.trans g2 (by simp))
    have hb2 := g2.blk hb1 (by simp)
    rw [if_pos (by omega)] at HT
    rw [Int.toNat_natCast]
    have h2l : (two id).length = 2 := rfl
    have hc2 : ¬ 9223372036854775807 < (dataB t).length + (two id).length := by omega
    clear g2 hb1 F1
    clear e0 e1 e2 e3 e4 e5 e6 k0 k1 k2 k3 k4 k5 k6
    obtain ⟨⟨e0, e1, e2, e3, e4, e5, e6⟩, ⟨k0, k1, k2, k3, k4, k5, k6⟩, _⟩ := blk7_facts (hb2)
    have n1 : ¬ 9223372036854775807 < (dataB t).length + 2 + ((var (putsB l).length).length + (putsB l).length) := by omega
    have n2 : ¬ 9223372036854775807 < (dataB t).length + 2 + ((var (putsB l).length).length + (putsB l).length) + s.length := by omega
    go_upto_region 4 with (fail)
    go_region_held3 (fun w' => w'.cell? ⟨w.heap.size, 4, none⟩ = some (.slice A l.length cp) ∧ w'.cell? ⟨w.heap.size, 6, none⟩ = some (.string ⟨s.toArray⟩)) (first | go_keep | exact kk) (first | (go_at_call 57; refine (rtext_pany _ l _ (HV.out.old (S := []) (by first | exact F2.out | exact F2.out.drew) (by simp)) hl hok).mono ?_; rintro _ w3 ⟨rfl, g3⟩; have kk := And.intro (g3.cell (a := ⟨w.heap.size, 4, none⟩) (by first | exact e4 | simpa using e4) (by simp)) (g3.cell (a := ⟨w.heap.size, 6, none⟩) (by first | exact e6 | simpa using e6) (by simp)); have F3 := Lib.hid (F2.out.drew.trans g3 (by simp))))
    go_wp2
    go_ret
    rw [HT.out]
    exact ⟨ret_str (by simp [propsB]), F3.out⟩
  · have F2 := Lib.hid F1
    rw [if_neg (by omega), List.nil_append] at HT
    have n1 : ¬ 9223372036854775807 < (dataB t).length + ((var (putsB l).length).length + (putsB l).length) := by omega
    have n2 : ¬ 9223372036854775807 < (dataB t).length + ((var (putsB l).length).length + (putsB l).length) + s.length := by omega
    clear hb1 F1
    go_upto_region 4 with (fail)
    go_region_held3 (fun w' => w'.cell? ⟨w.heap.size, 4, none⟩ = some (.slice A l.length cp) ∧ w'.cell? ⟨w.heap.size, 6, none⟩ = some (.string ⟨s.toArray⟩)) (first | go_keep | exact kk) (first | (go_at_call 57; refine (rtext_pany _ l _ (HV.out.old (S := []) (by first | exact F2.out | exact F2.out.drew) (by simp)) hl hok).mono ?_; rintro _ w3 ⟨rfl, g3⟩; have kk := And.intro (g3.cell (a := ⟨w.heap.size, 4, none⟩) (by first | exact e4 | simpa using e4) (by simp)) (g3.cell (a := ⟨w.heap.size, 6, none⟩) (by first | exact e6 | simpa using e6) (by simp)); have F3 := Lib.hid (F2.out.drew.trans g3 (by simp))))
    go_wp2
    go_ret
    rw [HT.out]
    exact ⟨ret_str (by simp [propsB]), F3.out⟩
set_option maxRecDepth 100000 in
theorem rident_any (r : Rd) (w : World) (hs : r.s.length ≤ 9223372036854775807) :
    Calls Try.prog 85 #[.agg #[.string ⟨r.s.toArray⟩, .int .i64 r.e]] w fun e w' => e = .returned (.tuple #[.agg #[.string ⟨r.ident.2.s.toArray⟩, .int .i64 r.ident.2.e], .int .u32 r.ident.1]) ∧ Fr [] w w' := by
  have HI : Hid (r.ident = ((r.num 2).1, if (r.num 2).1 = 0 then (r.num 2).2.fail 3 else (r.num 2).2)) := Lib.hid rfl
  have hb0 := blk_old (blk_new w (.cells #[.string ⟨r.s.toArray⟩, .int .i64 r.e] 125)) (.cells #[.string ⟨#[]⟩, .int .i64 0] 125)
  have ha0 := blk_at1 w (.cells #[.string ⟨r.s.toArray⟩, .int .i64 r.e] 125) (.cells #[.string ⟨#[]⟩, .int .i64 0] 125)
  have F0 : Fr [] w ((w.alloc (.cells #[.string ⟨r.s.toArray⟩, .int .i64 r.e] 125)).alloc (.cells #[.string ⟨#[]⟩, .int .i64 0] 125)) := ((Fr.refl _ _).alloc _).alloc _
  go_enter Try.func85, Try.ntmps85
  go_wp2_with fail
  refine (rnum_any r 2 _ hs (by decide) (by decide)).mono ?_
  rintro _ w1 ⟨rfl, g1⟩
  rw [show (2 : Int).toNat = 2 from rfl]
  generalize r.num 2 = q at *
  obtain ⟨n, q⟩ := q
  dsimp only at HI ⊢
  have hb1 := g1.blk hb0 (by simp)
  have ha1 := g1.blk ha0 (by simp)
  have F1 := F0.trans g1 (by simp)
  clear hb0 ha0 F0 g1
  obtain ⟨c0, c1, f0, f1, _⟩ := blk2_facts hb1
  have hb2 := Lib.hid (blk2_set hb1 (.string ⟨q.s.toArray⟩) (.int .i64 q.e))
  have ha2 := Lib.hid (blk_far (p := ⟨w.heap.size, 1, none⟩) (blk_far (p := ⟨w.heap.size, 0, none⟩) ha1 (by simp) (.string ⟨q.s.toArray⟩)) (by simp) (.int .i64 q.e))
  have F2 := Lib.hid ((F1.setCell (p := ⟨w.heap.size, 0, none⟩) (Or.inl (by simp)) (.string ⟨q.s.toArray⟩)).setCell (p := ⟨w.heap.size, 1, none⟩) (Or.inl (by simp)) (.int .i64 q.e))
  go_upto_region 2 with (fail)
  obtain ⟨y, hy⟩ : ∃ y, (w1.setCell ⟨w.heap.size, 0, none⟩ (.string ⟨q.s.toArray⟩)).setCell ⟨w.heap.size, 1, none⟩ (.int .i64 q.e) = y := ⟨_, rfl⟩
  rw [hy] at hb2 ha2 F2 ⊢
  clear hy c0 c1 f0 f1 hb1 ha1 F1
  obtain ⟨c0, c1, f0, f1, _⟩ := blk2_facts hb2.out
  by_cases he : q.e = 0
  · have e0 : (q.e == 0) = true := by simpa using he
    by_cases hn : n = 0
    · have n0 : ((n : Int) == 0) = true := by simp [hn]
      rw [if_pos hn, Rd.fail, if_pos he] at HI
      clear he hn
      have hb3 := Lib.hid (blk_set hb2.out 1 (.int .i64 3))
      have ha3 := Lib.hid (blk_far (p := ⟨w.heap.size, 1, none⟩) ha2.out (by simp) (.int .i64 3))
      have F3 := Lib.hid (F2.out.setCell (p := ⟨w.heap.size, 1, none⟩) (Or.inl (by simp)) (.int .i64 3))
      go_upto_region 4 with (fail)
      obtain ⟨y3, hy⟩ : ∃ y3, y.setCell ⟨w.heap.size, 1, none⟩ (.int .i64 3) = y3 := ⟨_, rfl⟩
      rw [hy] at hb3 ha3 F3 ⊢
      clear hy c0 c1 f0 f1 hb2 ha2 F2
      obtain ⟨c0, c1, f0, f1, _⟩ := blk2_facts hb3.out
      obtain ⟨d0, d1, g0, g1, _⟩ := blk2_facts ha3.out
      have HZ := Lib.hid (blk2_set ha3.out (.string ⟨(q.s).toArray⟩) (.int .i64 (3)))
      have FZ := Lib.hid ((F3.out.setCell (p := ⟨w.heap.size + 1, 0, none⟩) (Or.inl (by simp)) (.string ⟨(q.s).toArray⟩)).setCell (p := ⟨w.heap.size + 1, 1, none⟩) (Or.inl (by simp)) (.int .i64 (3)))
      go_wp2
      obtain ⟨W5, hW⟩ : ∃ W5, (y3.setCell ⟨w.heap.size + 1, 0, none⟩ (.string ⟨(q.s).toArray⟩)).setCell ⟨w.heap.size + 1, 1, none⟩ (.int .i64 (3)) = W5 := ⟨_, rfl⟩
      rw [hW] at HZ FZ ⊢
      clear hW c0 c1 f0 f1 d0 d1 g0 g1
      obtain ⟨c0, c1, _, _, _⟩ := blk2_facts HZ.out
      refine bodyPost_ret (v := .tuple #[.agg #[.string ⟨(q.s).toArray⟩, .int .i64 (3)], .int .u32 (n : Int)]) (by simp [results, Try.results85, go_sem, c0, c1]) rfl ?_
      rw [HI.out]
      exact ⟨rfl, FZ.out⟩
    · have n0 : ((n : Int) == 0) = false := by simp [hn]
      rw [if_neg hn] at HI
      clear he hn
      go_upto_region 4 with (fail)
      obtain ⟨d0, d1, g0, g1, _⟩ := blk2_facts ha2.out
      have HZ := Lib.hid (blk2_set ha2.out (.string ⟨(q.s).toArray⟩) (.int .i64 (q.e)))
      have FZ := Lib.hid ((F2.out.setCell (p := ⟨w.heap.size + 1, 0, none⟩) (Or.inl (by simp)) (.string ⟨(q.s).toArray⟩)).setCell (p := ⟨w.heap.size + 1, 1, none⟩) (Or.inl (by simp)) (.int .i64 (q.e)))
      go_wp2
      obtain ⟨W5, hW⟩ : ∃ W5, (y.setCell ⟨w.heap.size + 1, 0, none⟩ (.string ⟨(q.s).toArray⟩)).setCell ⟨w.heap.size + 1, 1, none⟩ (.int .i64 (q.e)) = W5 := ⟨_, rfl⟩
      rw [hW] at HZ FZ ⊢
      clear hW c0 c1 f0 f1 d0 d1 g0 g1
      obtain ⟨c0, c1, _, _, _⟩ := blk2_facts HZ.out
      refine bodyPost_ret (v := .tuple #[.agg #[.string ⟨(q.s).toArray⟩, .int .i64 (q.e)], .int .u32 (n : Int)]) (by simp [results, Try.results85, go_sem, c0, c1]) rfl ?_
      rw [HI.out]
      exact ⟨rfl, FZ.out⟩
  · have e0 : (q.e == 0) = false := by simpa using he
    have HI2 : Hid (r.ident = (n, q)) := Lib.hid (by rw [HI.out, fail_bad q 3 he]; split <;> rfl)
    clear he HI
    go_upto_region 4 with (fail)
    obtain ⟨d0, d1, g0, g1, _⟩ := blk2_facts ha2.out
    have HZ := Lib.hid (blk2_set ha2.out (.string ⟨(q.s).toArray⟩) (.int .i64 (q.e)))
    have FZ := Lib.hid ((F2.out.setCell (p := ⟨w.heap.size + 1, 0, none⟩) (Or.inl (by simp)) (.string ⟨(q.s).toArray⟩)).setCell (p := ⟨w.heap.size + 1, 1, none⟩) (Or.inl (by simp)) (.int .i64 (q.e)))
    go_wp2
    obtain ⟨W5, hW⟩ : ∃ W5, (y.setCell ⟨w.heap.size + 1, 0, none⟩ (.string ⟨(q.s).toArray⟩)).setCell ⟨w.heap.size + 1, 1, none⟩ (.int .i64 (q.e)) = W5 := ⟨_, rfl⟩
    rw [hW] at HZ FZ ⊢
    clear hW c0 c1 f0 f1 d0 d1 g0 g1
    obtain ⟨c0, c1, _, _, _⟩ := blk2_facts HZ.out
    refine bodyPost_ret (v := .tuple #[.agg #[.string ⟨(q.s).toArray⟩, .int .i64 (q.e)], .int .u32 (n : Int)]) (by simp [results, Try.results85, go_sem, c0, c1]) rfl ?_
    rw [HI2.out]
    exact ⟨rfl, FZ.out⟩
end Go.Proofs.Ytlhkgalmiajinaa
