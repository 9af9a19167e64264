/- What the reference of layer 7 comes to: the same words as the program's. Conditions: numbers within their kinds, strings that may be. -/
import Derived.Test.YtlhkgalmiajinaaPubA
import Derived.Test.YtlhkgalmiajinaaPropM
import Derived.Test.YtlhkgalmiajinaaPropN
namespace Go.Proofs.Ytlhkgalmiajinaa
open Go.RowKit

set_option maxRecDepth 100000 in
theorem rpflags_any (p : Pb) (v : Value) (w : World) (hq : p.qos < 256) :
    Calls Try.prog 18 #[.agg (pbC p v).toArray] w fun e w' => e = .returned (.int .i64 (pbFlags p : Nat)) ∧ Fr [] w w' := by
  obtain ⟨dup, ret, q, id, l, t, s⟩ := p
  dsimp only at hq
  have HF : Hid (pbFlags ⟨dup, ret, q, id, l, t, s⟩ = q % 4 * 2 + (if dup = true then 8 else 0) + (if ret = true then 1 else 0)) := Lib.hid rfl
  cases dup <;> cases ret
  all_goals
    unfold pbC
    go_enter Try.func18, Try.ntmps18
    go_wp2
    go_ret
    rw [HF.out]
    exact ⟨ret_int (by first | (simp; done) | (simp; omega)), (Fr.refl _ _).alloc _⟩
theorem cat3 (w : World) (a b : List UInt8) (h : a.length + b.length ≤ 9223372036854775807) : (binOp .add 9 (.string ⟨a.toArray⟩) (.string ⟨b.toArray⟩)).run Try.prog w = .ok (.string ⟨(a ++ b).toArray⟩) w := by
  have u := Try.underlying9
  go_simp
  rw [if_neg (by omega), ByteArray.mk_append_mk]
set_option maxRecDepth 100000 in
set_option maxHeartbeats 2000000 in
theorem rptext_any (p : Pb) (v : Value) (w : World) (hq : p.qos < 256) (hid : p.id < 4294967296) (hv : View w v p.props.length (p.props.flatMap prE)) (hl : p.props.length ≤ 1000) (hok : ∀ x ∈ p.props, x.n < 4294967296 ∧ x.s.length ≤ 9223372036854775807 ∧ x.t.length ≤ 9223372036854775807) (ht : p.topic.length ≤ 9223372036854775807) (hs : p.pay.length ≤ 1000000) :
    Calls Try.prog 21 #[.agg (pbC p v).toArray] w fun e w' => e = .returned (.string ⟨(pbText p).toArray⟩) ∧ Fr [] w w' := by
  obtain ⟨dup, ret, q, id, l, t, s⟩ := p
  dsimp only at hq hid hv hl hok ht hs
  have HV := Lib.hid hv
  obtain ⟨A, cp, rfl, _⟩ := hv
  have HT : Hid (pbText ⟨dup, ret, q, id, l, t, s⟩ = dataB t ++ ((if 0 < q then two id else []) ++ (propsB l ++ s))) := Lib.hid rfl
  have hb0 := blk_new w (.cells (pbC ⟨dup, ret, q, id, l, t, s⟩ (.slice A l.length cp)).toArray 36)
  have F0 : Fr [] w (w.alloc (.cells (pbC ⟨dup, ret, q, id, l, t, s⟩ (.slice A l.length cp)).toArray 36)) := (Fr.refl _ _).alloc _
  have hd := dataB_len t
  have hpl := putsB_len l
  have hvl := varB_len' (putsB l).length
  unfold pbC at hb0 F0 ⊢
  go_enter Try.func21, Try.ntmps21
  go_wp2_with fail
  refine (rdata_any t _ ht).mono ?_
  rintro _ w1 ⟨rfl, g1⟩
  have F1 := F0.trans g1 (by simp)
  have hb1 := g1.blk hb0 (by simp)
  clear hb0 F0 g1
  obtain ⟨⟨e0, e1, e2, e3, e4, e5, e6⟩, ⟨k0, k1, k2, k3, k4, k5, k6⟩, _⟩ := blk7_facts (hb1)
  by_cases hq0 : 0 < (q : Int)
  · go_wp2_with fail
    refine (rtwo_any id _ (by omega) (by omega)).mono ?_
    rintro _ w2 ⟨rfl, g2⟩
    have F2 := Lib.hid (F1.trans g2 (by simp))
    have hb2 := g2.blk hb1 (by simp)
    rw [if_pos (by omega)] at HT
    rw [Int.toNat_natCast]
    have h2l : (two id).length = 2 := rfl
    have hc2 : ¬ 9223372036854775807 < (dataB t).length + (two id).length := by omega
    clear g2 hb1 F1
    clear e0 e1 e2 e3 e4 e5 e6 k0 k1 k2 k3 k4 k5 k6
    obtain ⟨⟨e0, e1, e2, e3, e4, e5, e6⟩, ⟨k0, k1, k2, k3, k4, k5, k6⟩, _⟩ := blk7_facts (hb2)
    have n1 : ¬ 9223372036854775807 < (dataB t).length + 2 + ((var (putsB l).length).length + (putsB l).length) := by omega
    have n2 : ¬ 9223372036854775807 < (dataB t).length + 2 + ((var (putsB l).length).length + (putsB l).length) + s.length := by omega
    go_upto_region 4 with (fail)
    go_region_held3 (fun w' => w'.cell? ⟨w.heap.size, 4, none⟩ = some (.slice A l.length cp) ∧ w'.cell? ⟨w.heap.size, 6, none⟩ = some (.string ⟨s.toArray⟩)) (first | go_keep | exact kk) (first | (go_at_call 57; refine (rtext_pany _ l _ (HV.out.old (S := []) (by first | exact F2.out | exact F2.out.drew) (by simp)) hl hok).mono ?_; rintro _ w3 ⟨rfl, g3⟩; have kk := And.intro (g3.cell (a := ⟨w.heap.size, 4, none⟩) (by first | exact e4 | simpa using e4) (by simp)) (g3.cell (a := ⟨w.heap.size, 6, none⟩) (by first | exact e6 | simpa using e6) (by simp)); have F3 := Lib.hid (F2.out.drew.trans g3 (by simp))))
    go_wp2
    go_ret
    rw [HT.out]
    exact ⟨ret_str (by simp [propsB]), F3.out⟩
  · have F2 := Lib.hid F1
    rw [if_neg (by omega), List.nil_append] at HT
    have n1 : ¬ 9223372036854775807 < (dataB t).length + ((var (putsB l).length).length + (putsB l).length) := by omega
    have n2 : ¬ 9223372036854775807 < (dataB t).length + ((var (putsB l).length).length + (putsB l).length) + s.length := by omega
    clear hb1 F1
    go_upto_region 4 with (fail)
    go_region_held3 (fun w' => w'.cell? ⟨w.heap.size, 4, none⟩ = some (.slice A l.length cp) ∧ w'.cell? ⟨w.heap.size, 6, none⟩ = some (.string ⟨s.toArray⟩)) (first | go_keep | exact kk) (first | (go_at_call 57; refine (rtext_pany _ l _ (HV.out.old (S := []) (by first | exact F2.out | exact F2.out.drew) (by simp)) hl hok).mono ?_; rintro _ w3 ⟨rfl, g3⟩; have kk := And.intro (g3.cell (a := ⟨w.heap.size, 4, none⟩) (by first | exact e4 | simpa using e4) (by simp)) (g3.cell (a := ⟨w.heap.size, 6, none⟩) (by first | exact e6 | simpa using e6) (by simp)); have F3 := Lib.hid (F2.out.drew.trans g3 (by simp))))
    go_wp2
    go_ret
    rw [HT.out]
    exact ⟨ret_str (by simp [propsB]), F3.out⟩
set_option maxRecDepth 100000 in
theorem rident_any (r : Rd) (w : World) (hs : r.s.length ≤ 9223372036854775807) :
    Calls Try.prog 85 #[.agg #[.string ⟨r.s.toArray⟩, .int .i64 r.e]] w fun e w' => e = .returned (.tuple #[.agg #[.string ⟨r.ident.2.s.toArray⟩, .int .i64 r.ident.2.e], .int .u32 r.ident.1]) ∧ Fr [] w w' := by
  have HI : Hid (r.ident = ((r.num 2).1, if (r.num 2).1 = 0 then (r.num 2).2.fail 3 else (r.num 2).2)) := Lib.hid rfl
  have hb0 := blk_old (blk_new w (.cells #[.string ⟨r.s.toArray⟩, .int .i64 r.e] 125)) (.cells #[.string ⟨#[]⟩, .int .i64 0] 125)
  have ha0 := blk_at1 w (.cells #[.string ⟨r.s.toArray⟩, .int .i64 r.e] 125) (.cells #[.string ⟨#[]⟩, .int .i64 0] 125)
  have F0 : Fr [] w ((w.alloc (.cells #[.string ⟨r.s.toArray⟩, .int .i64 r.e] 125)).alloc (.cells #[.string ⟨#[]⟩, .int .i64 0] 125)) := ((Fr.refl _ _).alloc _).alloc _
  go_enter Try.func85, Try.ntmps85
  go_wp2_with fail
  refine (rnum_any r 2 _ hs (by decide) (by decide)).mono ?_
  rintro _ w1 ⟨rfl, g1⟩
  rw [show (2 : Int).toNat = 2 from rfl]
  generalize r.num 2 = q at *
  obtain ⟨n, q⟩ := q
  dsimp only at HI ⊢
  have hb1 := g1.blk hb0 (by simp)
  have ha1 := g1.blk ha0 (by simp)
  have F1 := F0.trans g1 (by simp)
  clear hb0 ha0 F0 g1
  obtain ⟨c0, c1, f0, f1, _⟩ := blk2_facts hb1
  have hb2 := Lib.hid (blk2_set hb1 (.string ⟨q.s.toArray⟩) (.int .i64 q.e))
  have ha2 := Lib.hid (blk_far (p := ⟨w.heap.size, 1, none⟩) (blk_far (p := ⟨w.heap.size, 0, none⟩) ha1 (by simp) (.string ⟨q.s.toArray⟩)) (by simp) (.int .i64 q.e))
  have F2 := Lib.hid ((F1.setCell (p := ⟨w.heap.size, 0, none⟩) (Or.inl (by simp)) (.string ⟨q.s.toArray⟩)).setCell (p := ⟨w.heap.size, 1, none⟩) (Or.inl (by simp)) (.int .i64 q.e))
  go_upto_region 2 with (fail)
  obtain ⟨y, hy⟩ : ∃ y, (w1.setCell ⟨w.heap.size, 0, none⟩ (.string ⟨q.s.toArray⟩)).setCell ⟨w.heap.size, 1, none⟩ (.int .i64 q.e) = y := ⟨_, rfl⟩
  rw [hy] at hb2 ha2 F2 ⊢
  clear hy c0 c1 f0 f1 hb1 ha1 F1
  obtain ⟨c0, c1, f0, f1, _⟩ := blk2_facts hb2.out
  by_cases he : q.e = 0
  · have e0 : (q.e == 0) = true := by simpa using he
    by_cases hn : n = 0
    · have n0 : ((n : Int) == 0) = true := by simp [hn]
      rw [if_pos hn, Rd.fail, if_pos he] at HI
      clear he hn
      have hb3 := Lib.hid (blk_set hb2.out 1 (.int .i64 3))
      have ha3 := Lib.hid (blk_far (p := ⟨w.heap.size, 1, none⟩) ha2.out (by simp) (.int .i64 3))
      have F3 := Lib.hid (F2.out.setCell (p := ⟨w.heap.size, 1, none⟩) (Or.inl (by simp)) (.int .i64 3))
      go_upto_region 4 with (fail)
      obtain ⟨y3, hy⟩ : ∃ y3, y.setCell ⟨w.heap.size, 1, none⟩ (.int .i64 3) = y3 := ⟨_, rfl⟩
      rw [hy] at hb3 ha3 F3 ⊢
      clear hy c0 c1 f0 f1 hb2 ha2 F2
      obtain ⟨c0, c1, f0, f1, _⟩ := blk2_facts hb3.out
      obtain ⟨d0, d1, g0, g1, _⟩ := blk2_facts ha3.out
      have HZ := Lib.hid (blk2_set ha3.out (.string ⟨(q.s).toArray⟩) (.int .i64 (3)))
      have FZ := Lib.hid ((F3.out.setCell (p := ⟨w.heap.size + 1, 0, none⟩) (Or.inl (by simp)) (.string ⟨(q.s).toArray⟩)).setCell (p := ⟨w.heap.size + 1, 1, none⟩) (Or.inl (by simp)) (.int .i64 (3)))
      go_wp2
      obtain ⟨W5, hW⟩ : ∃ W5, (y3.setCell ⟨w.heap.size + 1, 0, none⟩ (.string ⟨(q.s).toArray⟩)).setCell ⟨w.heap.size + 1, 1, none⟩ (.int .i64 (3)) = W5 := ⟨_, rfl⟩
      rw [hW] at HZ FZ ⊢
      clear hW c0 c1 f0 f1 d0 d1 g0 g1
      obtain ⟨c0, c1, _, _, _⟩ := blk2_facts HZ.out
      refine bodyPost_ret (v := .tuple #[.agg #[.string ⟨(q.s).toArray⟩, .int .i64 (3)], .int .u32 (n : Int)]) (by simp [results, Try.results85, go_sem, c0, c1]) rfl ?_
      rw [HI.out]
      exact ⟨rfl, FZ.out⟩
    · have n0 : ((n : Int) == 0) = false := by simp [hn]
      rw [if_neg hn] at HI
      clear he hn
      go_upto_region 4 with (fail)
      obtain ⟨d0, d1, g0, g1, _⟩ := blk2_facts ha2.out
      have HZ := Lib.hid (blk2_set ha2.out (.string ⟨(q.s).toArray⟩) (.int .i64 (q.e)))
      have FZ := Lib.hid ((F2.out.setCell (p := ⟨w.heap.size + 1, 0, none⟩) (Or.inl (by simp)) (.string ⟨(q.s).toArray⟩)).setCell (p := ⟨w.heap.size + 1, 1, none⟩) (Or.inl (by simp)) (.int .i64 (q.e)))
      go_wp2
      obtain ⟨W5, hW⟩ : ∃ W5, (y.setCell ⟨w.heap.size + 1, 0, none⟩ (.string ⟨(q.s).toArray⟩)).setCell ⟨w.heap.size + 1, 1, none⟩ (.int .i64 (q.e)) = W5 := ⟨_, rfl⟩
      rw [hW] at HZ FZ ⊢
      clear hW c0 c1 f0 f1 d0 d1 g0 g1
      obtain ⟨c0, c1, _, _, _⟩ := blk2_facts HZ.out
      refine bodyPost_ret (v := .tuple #[.agg #[.string ⟨(q.s).toArray⟩, .int .i64 (q.e)], .int .u32 (n : Int)]) (by simp [results, Try.results85, go_sem, c0, c1]) rfl ?_
      rw [HI.out]
      exact ⟨rfl, FZ.out⟩
  · have e0 : (q.e == 0) = false := by simpa using he
    have HI2 : Hid (r.ident = (n, q)) := Lib.hid (by rw [HI.out, fail_bad q 3 he]; split <;> rfl)
    clear he HI
    go_upto_region 4 with (fail)
    obtain ⟨d0, d1, g0, g1, _⟩ := blk2_facts ha2.out
    have HZ := Lib.hid (blk2_set ha2.out (.string ⟨(q.s).toArray⟩) (.int .i64 (q.e)))
    have FZ := Lib.hid ((F2.out.setCell (p := ⟨w.heap.size + 1, 0, none⟩) (Or.inl (by simp)) (.string ⟨(q.s).toArray⟩)).setCell (p := ⟨w.heap.size + 1, 1, none⟩) (Or.inl (by simp)) (.int .i64 (q.e)))
    go_wp2
    obtain ⟨W5, hW⟩ : ∃ W5, (y.setCell ⟨w.heap.size + 1, 0, none⟩ (.string ⟨(q.s).toArray⟩)).setCell ⟨w.heap.size + 1, 1, none⟩ (.int .i64 (q.e)) = W5 := ⟨_, rfl⟩
    rw [hW] at HZ FZ ⊢
    clear hW c0 c1 f0 f1 d0 d1 g0 g1
    obtain ⟨c0, c1, _, _, _⟩ := blk2_facts HZ.out
    refine bodyPost_ret (v := .tuple #[.agg #[.string ⟨(q.s).toArray⟩, .int .i64 (q.e)], .int .u32 (n : Int)]) (by simp [results, Try.results85, go_sem, c0, c1]) rfl ?_
    rw [HI2.out]
    exact ⟨rfl, FZ.out⟩
end Go.Proofs.Ytlhkgalmiajinaa
namespace Go.Proofs.Ytlhkgalmiajinaa
open Go.RowKit

theorem end_eq (r : Rd) : (pbEnd r).ends = Rd.ends ⟨[], r.e⟩ := by
  by_cases he : r.e = 0
  · rw [pbEnd, Rd.raw_ok r _ he (Nat.le_refl _), List.drop_length]; simp [Rd.ends, he]
  · rw [pbEnd, Rd.raw_bad r _ he]; simp [Rd.ends, he]
/-- What stands while the reference reads: its publish in the block behind the result's, the cursor in block C. -/
structure RPS (w y : World) (C : Nat) (p0 p1 p2 p3 p4 p5 p6 : Value) (r : Rd) : Prop where
  p : y.heap[w.heap.size + 1]? = some (.cells #[p0, p1, p2, p3, p4, p5, p6] 36 (0, 0))
  c : y.heap[C]? = some (.cells #[.string ⟨r.s.toArray⟩, .int .i64 r.e] 125 (0, 0))
  a : y.heap[w.heap.size]? = some (.cells #[.bool false, .bool false, .int .u8 0, .int .u32 0, .slice none 0 0, .string ⟨#[]⟩, .string ⟨#[]⟩] 36 (0, 0))
  f : Fr [] w y
  cb : w.heap.size + 1 < C
theorem RPS.go {w y y' : World} {C : Nat} {p0 p1 p2 p3 p4 p5 p6 : Value} {r : Rd} (h : RPS w y C p0 p1 p2 p3 p4 p5 p6 r) (g : Fr [] y y') : RPS w y' C p0 p1 p2 p3 p4 p5 p6 r :=
  ⟨g.blk h.p (by simp), g.blk h.c (by simp), g.blk h.a (by simp), h.f.trans g (by simp), h.cb⟩
theorem RPS.setp {w y : World} {C : Nat} {p0 p1 p2 p3 p4 p5 p6 : Value} {r : Rd} (h : RPS w y C p0 p1 p2 p3 p4 p5 p6 r) (i : Nat) (v q0 q1 q2 q3 q4 q5 q6 : Value) (hi : (#[p0, p1, p2, p3, p4, p5, p6] : Array Value).setIfInBounds i v = #[q0, q1, q2, q3, q4, q5, q6]) : RPS w (y.setCell ⟨w.heap.size + 1, i, none⟩ v) C q0 q1 q2 q3 q4 q5 q6 r := by
  have hcb := h.cb
  refine ⟨?_, blk_far h.c (by simp; omega) _, blk_far h.a (by simp) _, h.f.setCell (Or.inl (by simp)) _, h.cb⟩
  rw [← hi]; exact blk_set h.p i v
theorem RPS.setc {w y : World} {C : Nat} {p0 p1 p2 p3 p4 p5 p6 : Value} {r : Rd} (h : RPS w y C p0 p1 p2 p3 p4 p5 p6 r) (r' : Rd) : RPS w ((y.setCell ⟨C, 0, none⟩ (.string ⟨r'.s.toArray⟩)).setCell ⟨C, 1, none⟩ (.int .i64 r'.e)) C p0 p1 p2 p3 p4 p5 p6 r' := by
  have hcb := h.cb
  exact ⟨blk_far (blk_far h.p (by simp; omega) _) (by simp; omega) _, blk2_set h.c _ _, blk_far (blk_far h.a (by simp; omega) _) (by simp; omega) _, (h.f.setCell (Or.inl (by simp; omega)) _).setCell (Or.inl (by simp; omega)) _, h.cb⟩
theorem RPS.setc0 {w y : World} {C : Nat} {p0 p1 p2 p3 p4 p5 p6 : Value} {r : Rd} (h : RPS w y C p0 p1 p2 p3 p4 p5 p6 r) : RPS w (y.setCell ⟨C, 0, none⟩ (.string ⟨#[]⟩)) C p0 p1 p2 p3 p4 p5 p6 ⟨[], r.e⟩ := by
  have hcb := h.cb
  exact ⟨blk_far h.p (by simp; omega) _, blk_set h.c 0 _, blk_far h.a (by simp; omega) _, h.f.setCell (Or.inl (by simp; omega)) _, h.cb⟩
set_option maxRecDepth 100000 in
set_option maxHeartbeats 4000000 in
theorem rpparse_any (f : Nat) (s : List UInt8) (w : World) (hf : f < 16) (hs : s.length ≤ 1000000) :
    Calls Try.prog 46 #[.int .i64 (f : Int), .string ⟨s.toArray⟩] w (PubTo 120 (pbParse f s) w) := by
  have HR : Hid (pbParse f s = if (pbEnd (takeP (pbId (f / 2 % 4) (Rd.str ⟨s, 0⟩).2).2 3 false).2).ends = 0 then (⟨decide (f / 8 % 2 = 1), decide (f % 2 = 1), f / 2 % 4, (pbId (f / 2 % 4) (Rd.str ⟨s, 0⟩).2).1, (takeP (pbId (f / 2 % 4) (Rd.str ⟨s, 0⟩).2).2 3 false).1, (Rd.str ⟨s, 0⟩).1, (takeP (pbId (f / 2 % 4) (Rd.str ⟨s, 0⟩).2).2 3 false).2.s⟩, 0) else (noPb, (pbEnd (takeP (pbId (f / 2 % 4) (Rd.str ⟨s, 0⟩).2).2 3 false).2).ends)) := Lib.hid rfl
  have hq4 : f / 2 % 4 < 4 := Nat.mod_lt _ (by decide)
  have q1 : ((f : Int) / 2 % 4) = ((f / 2 % 4 : Nat) : Int) := by omega
  have q2 : ((f : Int) / 8 % 2 == 1) = decide (f / 8 % 2 = 1) := by rw [Bool.eq_iff_iff]; simp; omega
  have q3 : ((f : Int) % 2 == 1) = decide (f % 2 = 1) := by rw [Bool.eq_iff_iff]; simp; omega
  generalize f / 2 % 4 = q at *
  generalize decide (f / 8 % 2 = 1) = dup at *
  generalize decide (f % 2 = 1) = ret at *
  go_enter Try.func46, Try.ntmps46
  go_wp2_with fail
  refine (rtake_any ⟨s, 0⟩ _ (by show s.length ≤ _; omega)).mono ?_
  rintro _ w1 ⟨rfl, g1⟩
  have hs2 : (Rd.str ⟨s, 0⟩).2.s.length ≤ s.length := Rd.str_left ⟨s, 0⟩
  generalize Rd.str ⟨s, 0⟩ = T at *
  obtain ⟨t, r1⟩ := T
  dsimp only at hs2 HR ⊢
  have z1 := g1.size
  rw [World.size_alloc, World.size_alloc] at z1
  have H0 : RPS w (w1.alloc (.cells #[.string ⟨r1.s.toArray⟩, .int .i64 r1.e] 125)) w1.heap.size (.bool dup) (.bool ret) (.int .u8 (q : Int)) (.int .u32 0) (.slice none 0 0) (.string ⟨#[]⟩) (.string ⟨#[]⟩) r1 :=
    ⟨blk_old (g1.blk (blk_at1 _ _ _) (by simp)) _, blk_new _ _, blk_old (g1.blk (blk_old (blk_new _ _) _) (by simp)) _, ((((Fr.refl [] w).alloc _).alloc _).trans g1 (by simp)).alloc _, by omega⟩
  have H1 := Lib.hid (H0.setp 5 (.string ⟨t.toArray⟩) _ _ _ _ _ _ _ rfl)
  obtain ⟨C, hC⟩ : ∃ C, w1.heap.size = C := ⟨_, rfl⟩
  obtain ⟨⟨e0, e1, e2, e3, e4, e5, e6⟩, ⟨k0, k1, k2, k3, k4, k5, k6⟩, _⟩ := blk7_facts (H0.p)
  clear g1 H0
  by_cases hq0 : 0 < (q : Int)
  · go_upto_region 5 with (fail)
    obtain ⟨y, hy⟩ : ∃ y, (w1.alloc (.cells #[.string ⟨r1.s.toArray⟩, .int .i64 r1.e] 125)).setCell ⟨w.heap.size + 1, 5, none⟩ (.string ⟨t.toArray⟩) = y := ⟨_, rfl⟩
    rw [hy] at H1 ⊢
    rw [hC] at H1
    clear hy hC
    clear e0 e1 e2 e3 e4 e5 e6 k0 k1 k2 k3 k4 k5 k6
    obtain ⟨⟨e0, e1, e2, e3, e4, e5, e6⟩, ⟨k0, k1, k2, k3, k4, k5, k6⟩, _⟩ := blk7_facts (H1.out.p)
    obtain ⟨c0, c1, f0, f1, _⟩ := blk2_facts (H1.out.c)
    go_wp2_with fail
    refine (rident_any r1 _ (by omega)).mono ?_
    rintro _ y2 ⟨rfl, g2⟩
    have hs3 := ident_left r1
    rw [show pbId q r1 = r1.ident from if_pos (by omega)] at HR
    generalize r1.ident = R at *
    obtain ⟨id, r2⟩ := R
    dsimp only at hs3 HR ⊢
    have g3 := g2.alloc (.cells #[.string ⟨r2.s.toArray⟩, .int .i64 r2.e] 125)
    have H2 := Lib.hid (((H1.out.go g3).setc r2).setp 3 (.int .u32 (id : Int)) _ _ _ _ _ _ _ rfl)
    clear e0 e1 e2 e3 e4 e5 e6 k0 k1 k2 k3 k4 k5 k6
    clear c0 c1 f0 f1
    obtain ⟨⟨e0, e1, e2, e3, e4, e5, e6⟩, ⟨k0, k1, k2, k3, k4, k5, k6⟩, _⟩ := blk7_facts ((H1.out.go g3).p)
    obtain ⟨c0, c1, f0, f1, _⟩ := blk2_facts ((H1.out.go g3).c)
    clear H1 g2 g3
    go_upto_region 8 with (fail)
    obtain ⟨y3, hy⟩ : ∃ y3, (((y2.alloc (.cells #[.string ⟨r2.s.toArray⟩, .int .i64 r2.e] 125)).setCell ⟨C, 0, none⟩ (.string ⟨r2.s.toArray⟩)).setCell ⟨C, 1, none⟩ (.int .i64 r2.e)).setCell ⟨w.heap.size + 1, 3, none⟩ (.int .u32 (id : Int)) = y3 := ⟨_, rfl⟩
    rw [hy] at H2 ⊢
    clear hy
    clear e0 e1 e2 e3 e4 e5 e6 k0 k1 k2 k3 k4 k5 k6
    clear c0 c1 f0 f1
    obtain ⟨⟨e0, e1, e2, e3, e4, e5, e6⟩, ⟨k0, k1, k2, k3, k4, k5, k6⟩, _⟩ := blk7_facts (H2.out.p)
    obtain ⟨c0, c1, f0, f1, _⟩ := blk2_facts (H2.out.c)
    go_wp2_with fail
    refine (rprops_any r2 3 false _ (by omega)).mono ?_
    rintro _ x4 ⟨v, rfl, own4, g4⟩
    have hs4 := takeP_left r2 3 false
    generalize takeP r2 3 false = R at *
    obtain ⟨l, r3⟩ := R
    dsimp only at own4 hs4 HR ⊢
    obtain ⟨A4, c4, rfl⟩ := own_shape own4
    have hlow := Lib.hid (fun k hk => (own4.lt k hk).1)
    have hyC : C < y3.heap.size := blk_lt H2.out.c
    have H2 := H2.out.go g4
    have H3 := (H2.setc r3).setp 4 (.slice A4 l.length c4) _ _ _ _ _ _ _ rfl
    have H4 := Lib.hid (H3.setp 6 (.string ⟨r3.s.toArray⟩) _ _ _ _ _ _ _ rfl)
    have own5 := own_set (own_set own4 (p := ⟨C, 0, none⟩) (by intro e; have := hlow.out _ e.symm; simp at this; omega) (.string ⟨r3.s.toArray⟩)) (p := ⟨C, 1, none⟩) (by intro e; have := hlow.out _ e.symm; simp at this; omega) (.int .i64 r3.e)
    have own6 := own_set (own_set own5 (p := ⟨w.heap.size + 1, 4, none⟩) (by intro e; have := hlow.out _ e.symm; simp at this; omega) (.slice A4 l.length c4)) (p := ⟨w.heap.size + 1, 6, none⟩) (by intro e; have := hlow.out _ e.symm; simp at this; omega) (.string ⟨r3.s.toArray⟩)
    have own7 := Lib.hid own6
    clear e0 e1 e2 e3 e4 e5 e6 k0 k1 k2 k3 k4 k5 k6
    clear c0 c1 f0 f1
    obtain ⟨⟨e0, e1, e2, e3, e4, e5, e6⟩, ⟨k0, k1, k2, k3, k4, k5, k6⟩, _⟩ := blk7_facts (H2.p)
    obtain ⟨c0, c1, f0, f1, _⟩ := blk2_facts (H2.c)
    clear own4 own5 own6 H2 H3 g4
    go_upto_region 11 with (fail)
    obtain ⟨y6, hy⟩ : ∃ y6, (((x4.setCell ⟨C, 0, none⟩ (.string ⟨r3.s.toArray⟩)).setCell ⟨C, 1, none⟩ (.int .i64 r3.e)).setCell ⟨w.heap.size + 1, 4, none⟩ (.slice A4 l.length c4)).setCell ⟨w.heap.size + 1, 6, none⟩ (.string ⟨r3.s.toArray⟩) = y6 := ⟨_, rfl⟩
    rw [hy] at H4 own7 ⊢
    clear hy H2
    clear e0 e1 e2 e3 e4 e5 e6 k0 k1 k2 k3 k4 k5 k6
    clear c0 c1 f0 f1
    obtain ⟨⟨e0, e1, e2, e3, e4, e5, e6⟩, ⟨k0, k1, k2, k3, k4, k5, k6⟩, _⟩ := blk7_facts (H4.out.p)
    obtain ⟨c0, c1, f0, f1, _⟩ := blk2_facts (H4.out.c)
    have H5 := Lib.hid H4.out.setc0
    have own8 := Lib.hid (own_set own7.out (p := ⟨C, 0, none⟩) (by intro e; have := hlow.out _ e.symm; simp at this; omega) (.string ⟨#[]⟩))
    go_upto_region 12 with (fail)
    obtain ⟨y7, hy⟩ : ∃ y7, y6.setCell ⟨C, 0, none⟩ (.string ⟨#[]⟩) = y7 := ⟨_, rfl⟩
    rw [hy] at H5 own8 ⊢
    clear hy H4 own7
    clear e0 e1 e2 e3 e4 e5 e6 k0 k1 k2 k3 k4 k5 k6
    clear c0 c1 f0 f1
    obtain ⟨⟨e0, e1, e2, e3, e4, e5, e6⟩, ⟨k0, k1, k2, k3, k4, k5, k6⟩, _⟩ := blk7_facts (H5.out.p)
    obtain ⟨c0, c1, f0, f1, _⟩ := blk2_facts (H5.out.c)
    rw [end_eq r3] at HR
    go_wp2_with fail
    refine (end6_any [] r3.e _).mono ?_
    rintro _ x8 ⟨rfl, g8⟩
    have H8 := Lib.hid (H5.out.go g8)
    have own9 := Lib.hid (own_fr g8 own8.out (by simp))
    have hyw : w.heap.size + 1 < y3.heap.size := by have := H5.out.cb; omega
    clear e0 e1 e2 e3 e4 e5 e6 k0 k1 k2 k3 k4 k5 k6
    clear c0 c1 f0 f1
    clear H5 own8 g8
    obtain ⟨⟨e0, e1, e2, e3, e4, e5, e6⟩, ⟨k0, k1, k2, k3, k4, k5, k6⟩, _⟩ := blk7_facts (H8.out.p)
    obtain ⟨c0, c1, f0, f1, _⟩ := blk2_facts (H8.out.c)
    obtain ⟨E, hE0⟩ : ∃ E, Rd.ends ⟨[], r3.e⟩ = E := ⟨_, rfl⟩
    rw [hE0] at HR ⊢
    by_cases hE : E = 0
    · have E0 : (E != 0) = false := by simpa using hE
      rw [if_pos hE] at HR
      clear hE hE0
      obtain ⟨d0, d1, d2, d3, d4, d5, d6⟩ := (blk7_facts H8.out.a).1
      obtain ⟨g0, g1, g2, g3, g4, g5, g6⟩ := (blk7_facts H8.out.a).2.1
      have HZ := Lib.hid (blk7_set H8.out.a (.bool dup) (.bool ret) (.int .u8 (q : Int)) (.int .u32 (id : Int)) (.slice A4 l.length c4) (.string ⟨t.toArray⟩) (.string ⟨r3.s.toArray⟩))
      have FZ := Lib.hid (fr7_set H8.out.f (b := w.heap.size) (Nat.le_refl _) (.bool dup) (.bool ret) (.int .u8 (q : Int)) (.int .u32 (id : Int)) (.slice A4 l.length c4) (.string ⟨t.toArray⟩) (.string ⟨r3.s.toArray⟩))
      have OZ := Lib.hid (own_base (own_set7 own9.out (b := w.heap.size) (by intro e; have := hlow.out _ e.symm; omega) (.bool dup) (.bool ret) (.int .u8 (q : Int)) (.int .u32 (id : Int)) (.slice A4 l.length c4) (.string ⟨t.toArray⟩) (.string ⟨r3.s.toArray⟩)) (base' := w.heap.size) (fun k hk => by have := hlow.out k hk; omega))
      go_wp2
      change bodyPost _ _ _ _ _ (set7 x8 w.heap.size (.bool dup) (.bool ret) (.int .u8 (q : Int)) (.int .u32 (id : Int)) (.slice A4 l.length c4) (.string ⟨t.toArray⟩) (.string ⟨r3.s.toArray⟩))
      generalize set7 x8 w.heap.size (.bool dup) (.bool ret) (.int .u8 (q : Int)) (.int .u32 (id : Int)) (.slice A4 l.length c4) (.string ⟨t.toArray⟩) (.string ⟨r3.s.toArray⟩) = W5 at *
      clear d0 d1 d2 d3 d4 d5 d6 g0 g1 g2 g3 g4 g5 g6
      clear e0 e1 e2 e3 e4 e5 e6 k0 k1 k2 k3 k4 k5 k6
      clear c0 c1 f0 f1
      obtain ⟨e0, e1, e2, e3, e4, e5, e6⟩ := (blk7_facts HZ.out).1
      refine bodyPost_ret (v := .tuple #[.agg #[.bool dup, .bool ret, .int .u8 (q : Int), .int .u32 (id : Int), .slice A4 l.length c4, .string ⟨t.toArray⟩, .string ⟨r3.s.toArray⟩], .int .i64 0]) (by simp [results, Try.results46, go_sem, e0, e1, e2, e3, e4, e5, e6]) rfl ?_
      rw [HR.out]
      exact ⟨.slice A4 l.length c4, rfl, OZ.out, FZ.out⟩
    · have E0 : (E != 0) = true := by simpa using hE
      rw [if_neg hE] at HR
      clear hE
      go_wp2_with fail
      refine (end6_any [] r3.e _).mono ?_
      rintro _ x9 ⟨rfl, g9⟩
      rw [hE0]
      have H9 := Lib.hid (H8.out.go g9)
      clear H8 g9 own9 hE0
      clear e0 e1 e2 e3 e4 e5 e6 k0 k1 k2 k3 k4 k5 k6
      clear c0 c1 f0 f1
      obtain ⟨d0, d1, d2, d3, d4, d5, d6⟩ := (blk7_facts H9.out.a).1
      obtain ⟨g0, g1, g2, g3, g4, g5, g6⟩ := (blk7_facts H9.out.a).2.1
      have HZ := Lib.hid (blk7_set H9.out.a (.bool false) (.bool false) (.int .u8 0) (.int .u32 0) (.slice none 0 0) (.string ⟨#[]⟩) (.string ⟨#[]⟩))
      have FZ := Lib.hid (fr7_set H9.out.f (b := w.heap.size) (Nat.le_refl _) (.bool false) (.bool false) (.int .u8 0) (.int .u32 0) (.slice none 0 0) (.string ⟨#[]⟩) (.string ⟨#[]⟩))
      go_wp2
      change bodyPost _ _ _ _ _ (set7 x9 w.heap.size (.bool false) (.bool false) (.int .u8 0) (.int .u32 0) (.slice none 0 0) (.string ⟨#[]⟩) (.string ⟨#[]⟩))
      generalize set7 x9 w.heap.size (.bool false) (.bool false) (.int .u8 0) (.int .u32 0) (.slice none 0 0) (.string ⟨#[]⟩) (.string ⟨#[]⟩) = W5 at *
      clear d0 d1 d2 d3 d4 d5 d6 g0 g1 g2 g3 g4 g5 g6
      obtain ⟨e0, e1, e2, e3, e4, e5, e6⟩ := (blk7_facts HZ.out).1
      refine bodyPost_ret (v := .tuple #[.agg #[.bool false, .bool false, .int .u8 0, .int .u32 0, .slice none 0 0, .string ⟨#[]⟩, .string ⟨#[]⟩], .int .i64 E]) (by simp [results, Try.results46, go_sem, e0, e1, e2, e3, e4, e5, e6]) rfl ?_
      rw [HR.out]
      exact ⟨.slice none 0 0, rfl, World.ownsRow_nil _ _ _ _, FZ.out⟩
  · go_upto_region 8 with (fail)
    obtain ⟨y, hy⟩ : ∃ y, (w1.alloc (.cells #[.string ⟨r1.s.toArray⟩, .int .i64 r1.e] 125)).setCell ⟨w.heap.size + 1, 5, none⟩ (.string ⟨t.toArray⟩) = y := ⟨_, rfl⟩
    rw [hy] at H1 ⊢
    rw [hC] at H1
    clear hy hC
    clear e0 e1 e2 e3 e4 e5 e6 k0 k1 k2 k3 k4 k5 k6
    rw [show pbId q r1 = (0, r1) from if_neg (by omega)] at HR
    dsimp only at HR
    obtain ⟨⟨e0, e1, e2, e3, e4, e5, e6⟩, ⟨k0, k1, k2, k3, k4, k5, k6⟩, _⟩ := blk7_facts (H1.out.p)
    obtain ⟨c0, c1, f0, f1, _⟩ := blk2_facts (H1.out.c)
    go_wp2_with fail
    refine (rprops_any r1 3 false _ (by omega)).mono ?_
    rintro _ x4 ⟨v, rfl, own4, g4⟩
    have hs4 := takeP_left r1 3 false
    generalize takeP r1 3 false = R at *
    obtain ⟨l, r3⟩ := R
    dsimp only at own4 hs4 HR ⊢
    obtain ⟨A4, c4, rfl⟩ := own_shape own4
    have hlow := Lib.hid (fun k hk => (own4.lt k hk).1)
    have hyC : C < y.heap.size := blk_lt H1.out.c
    have H2 := H1.out.go g4
    have H3 := (H2.setc r3).setp 4 (.slice A4 l.length c4) _ _ _ _ _ _ _ rfl
    have H4 := Lib.hid (H3.setp 6 (.string ⟨r3.s.toArray⟩) _ _ _ _ _ _ _ rfl)
    have own5 := own_set (own_set own4 (p := ⟨C, 0, none⟩) (by intro e; have := hlow.out _ e.symm; simp at this; omega) (.string ⟨r3.s.toArray⟩)) (p := ⟨C, 1, none⟩) (by intro e; have := hlow.out _ e.symm; simp at this; omega) (.int .i64 r3.e)
    have own6 := own_set (own_set own5 (p := ⟨w.heap.size + 1, 4, none⟩) (by intro e; have := hlow.out _ e.symm; simp at this; omega) (.slice A4 l.length c4)) (p := ⟨w.heap.size + 1, 6, none⟩) (by intro e; have := hlow.out _ e.symm; simp at this; omega) (.string ⟨r3.s.toArray⟩)
    have own7 := Lib.hid own6
    clear e0 e1 e2 e3 e4 e5 e6 k0 k1 k2 k3 k4 k5 k6
    clear c0 c1 f0 f1
    obtain ⟨⟨e0, e1, e2, e3, e4, e5, e6⟩, ⟨k0, k1, k2, k3, k4, k5, k6⟩, _⟩ := blk7_facts (H2.p)
    obtain ⟨c0, c1, f0, f1, _⟩ := blk2_facts (H2.c)
    clear own4 own5 own6 H1 H3 g4
    go_upto_region 11 with (fail)
    obtain ⟨y6, hy⟩ : ∃ y6, (((x4.setCell ⟨C, 0, none⟩ (.string ⟨r3.s.toArray⟩)).setCell ⟨C, 1, none⟩ (.int .i64 r3.e)).setCell ⟨w.heap.size + 1, 4, none⟩ (.slice A4 l.length c4)).setCell ⟨w.heap.size + 1, 6, none⟩ (.string ⟨r3.s.toArray⟩) = y6 := ⟨_, rfl⟩
    rw [hy] at H4 own7 ⊢
    clear hy H2
    clear e0 e1 e2 e3 e4 e5 e6 k0 k1 k2 k3 k4 k5 k6
    clear c0 c1 f0 f1
    obtain ⟨⟨e0, e1, e2, e3, e4, e5, e6⟩, ⟨k0, k1, k2, k3, k4, k5, k6⟩, _⟩ := blk7_facts (H4.out.p)
    obtain ⟨c0, c1, f0, f1, _⟩ := blk2_facts (H4.out.c)
    have H5 := Lib.hid H4.out.setc0
    have own8 := Lib.hid (own_set own7.out (p := ⟨C, 0, none⟩) (by intro e; have := hlow.out _ e.symm; simp at this; omega) (.string ⟨#[]⟩))
    go_upto_region 12 with (fail)
    obtain ⟨y7, hy⟩ : ∃ y7, y6.setCell ⟨C, 0, none⟩ (.string ⟨#[]⟩) = y7 := ⟨_, rfl⟩
    rw [hy] at H5 own8 ⊢
    clear hy H4 own7
    clear e0 e1 e2 e3 e4 e5 e6 k0 k1 k2 k3 k4 k5 k6
    clear c0 c1 f0 f1
    obtain ⟨⟨e0, e1, e2, e3, e4, e5, e6⟩, ⟨k0, k1, k2, k3, k4, k5, k6⟩, _⟩ := blk7_facts (H5.out.p)
    obtain ⟨c0, c1, f0, f1, _⟩ := blk2_facts (H5.out.c)
    rw [end_eq r3] at HR
    go_wp2_with fail
    refine (end6_any [] r3.e _).mono ?_
    rintro _ x8 ⟨rfl, g8⟩
    have H8 := Lib.hid (H5.out.go g8)
    have own9 := Lib.hid (own_fr g8 own8.out (by simp))
    have hyw : w.heap.size + 1 < y.heap.size := by have := H5.out.cb; omega
    clear e0 e1 e2 e3 e4 e5 e6 k0 k1 k2 k3 k4 k5 k6
    clear c0 c1 f0 f1
    clear H5 own8 g8
    obtain ⟨⟨e0, e1, e2, e3, e4, e5, e6⟩, ⟨k0, k1, k2, k3, k4, k5, k6⟩, _⟩ := blk7_facts (H8.out.p)
    obtain ⟨c0, c1, f0, f1, _⟩ := blk2_facts (H8.out.c)
    obtain ⟨E, hE0⟩ : ∃ E, Rd.ends ⟨[], r3.e⟩ = E := ⟨_, rfl⟩
    rw [hE0] at HR ⊢
    by_cases hE : E = 0
    · have E0 : (E != 0) = false := by simpa using hE
      rw [if_pos hE] at HR
      clear hE hE0
      obtain ⟨d0, d1, d2, d3, d4, d5, d6⟩ := (blk7_facts H8.out.a).1
      obtain ⟨g0, g1, g2, g3, g4, g5, g6⟩ := (blk7_facts H8.out.a).2.1
      have HZ := Lib.hid (blk7_set H8.out.a (.bool dup) (.bool ret) (.int .u8 (q : Int)) (.int .u32 (0 : Int)) (.slice A4 l.length c4) (.string ⟨t.toArray⟩) (.string ⟨r3.s.toArray⟩))
      have FZ := Lib.hid (fr7_set H8.out.f (b := w.heap.size) (Nat.le_refl _) (.bool dup) (.bool ret) (.int .u8 (q : Int)) (.int .u32 (0 : Int)) (.slice A4 l.length c4) (.string ⟨t.toArray⟩) (.string ⟨r3.s.toArray⟩))
      have OZ := Lib.hid (own_base (own_set7 own9.out (b := w.heap.size) (by intro e; have := hlow.out _ e.symm; omega) (.bool dup) (.bool ret) (.int .u8 (q : Int)) (.int .u32 (0 : Int)) (.slice A4 l.length c4) (.string ⟨t.toArray⟩) (.string ⟨r3.s.toArray⟩)) (base' := w.heap.size) (fun k hk => by have := hlow.out k hk; omega))
      go_wp2
      change bodyPost _ _ _ _ _ (set7 x8 w.heap.size (.bool dup) (.bool ret) (.int .u8 (q : Int)) (.int .u32 (0 : Int)) (.slice A4 l.length c4) (.string ⟨t.toArray⟩) (.string ⟨r3.s.toArray⟩))
      generalize set7 x8 w.heap.size (.bool dup) (.bool ret) (.int .u8 (q : Int)) (.int .u32 (0 : Int)) (.slice A4 l.length c4) (.string ⟨t.toArray⟩) (.string ⟨r3.s.toArray⟩) = W5 at *
      clear d0 d1 d2 d3 d4 d5 d6 g0 g1 g2 g3 g4 g5 g6
      clear e0 e1 e2 e3 e4 e5 e6 k0 k1 k2 k3 k4 k5 k6
      clear c0 c1 f0 f1
      obtain ⟨e0, e1, e2, e3, e4, e5, e6⟩ := (blk7_facts HZ.out).1
      refine bodyPost_ret (v := .tuple #[.agg #[.bool dup, .bool ret, .int .u8 (q : Int), .int .u32 (0 : Int), .slice A4 l.length c4, .string ⟨t.toArray⟩, .string ⟨r3.s.toArray⟩], .int .i64 0]) (by simp [results, Try.results46, go_sem, e0, e1, e2, e3, e4, e5, e6]) rfl ?_
      rw [HR.out]
      exact ⟨.slice A4 l.length c4, rfl, OZ.out, FZ.out⟩
    · have E0 : (E != 0) = true := by simpa using hE
      rw [if_neg hE] at HR
      clear hE
      go_wp2_with fail
      refine (end6_any [] r3.e _).mono ?_
      rintro _ x9 ⟨rfl, g9⟩
      rw [hE0]
      have H9 := Lib.hid (H8.out.go g9)
      clear H8 g9 own9 hE0
      clear e0 e1 e2 e3 e4 e5 e6 k0 k1 k2 k3 k4 k5 k6
      clear c0 c1 f0 f1
      obtain ⟨d0, d1, d2, d3, d4, d5, d6⟩ := (blk7_facts H9.out.a).1
      obtain ⟨g0, g1, g2, g3, g4, g5, g6⟩ := (blk7_facts H9.out.a).2.1
      have HZ := Lib.hid (blk7_set H9.out.a (.bool false) (.bool false) (.int .u8 0) (.int .u32 0) (.slice none 0 0) (.string ⟨#[]⟩) (.string ⟨#[]⟩))
      have FZ := Lib.hid (fr7_set H9.out.f (b := w.heap.size) (Nat.le_refl _) (.bool false) (.bool false) (.int .u8 0) (.int .u32 0) (.slice none 0 0) (.string ⟨#[]⟩) (.string ⟨#[]⟩))
      go_wp2
      change bodyPost _ _ _ _ _ (set7 x9 w.heap.size (.bool false) (.bool false) (.int .u8 0) (.int .u32 0) (.slice none 0 0) (.string ⟨#[]⟩) (.string ⟨#[]⟩))
      generalize set7 x9 w.heap.size (.bool false) (.bool false) (.int .u8 0) (.int .u32 0) (.slice none 0 0) (.string ⟨#[]⟩) (.string ⟨#[]⟩) = W5 at *
      clear d0 d1 d2 d3 d4 d5 d6 g0 g1 g2 g3 g4 g5 g6
      obtain ⟨e0, e1, e2, e3, e4, e5, e6⟩ := (blk7_facts HZ.out).1
      refine bodyPost_ret (v := .tuple #[.agg #[.bool false, .bool false, .int .u8 0, .int .u32 0, .slice none 0 0, .string ⟨#[]⟩, .string ⟨#[]⟩], .int .i64 E]) (by simp [results, Try.results46, go_sem, e0, e1, e2, e3, e4, e5, e6]) rfl ?_
      rw [HR.out]
      exact ⟨.slice none 0 0, rfl, World.ownsRow_nil _ _ _ _, FZ.out⟩
end Go.Proofs.Ytlhkgalmiajinaa
