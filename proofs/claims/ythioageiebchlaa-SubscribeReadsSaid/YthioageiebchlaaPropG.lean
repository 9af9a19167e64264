/- The walk of prop.Take. Conditions: strings that may be. -/
import Derived.Test.YthioageiebchlaaPropF
import Derived.Test.YthioageiebchlaaPropE
import Derived.Test.YthioageiebchlaaIn
namespace Go.Proofs.Ythioageiebchlaa
open Go.RowKit

set_option maxRecDepth 100000 in
set_option maxHeartbeats 4000000 in
theorem ptake_any (b : Nat) (r : Rd) (kind : Int) (isWill : Bool) (w : World) (h : InAt w b r) (hs : r.s.length ≤ 1000000) :
    Calls Try.prog 61 #[.pointer (some ⟨b, 0, none⟩), .int .i64 kind, .bool isWill] w (PTakeTo b (takeP r kind isWill) w) := by
  obtain ⟨i0, hi, hz0, hz1, hz2⟩ := info_parts Try.infoPr
  have hbl := blk_lt h
  go_enter Try.func61, Try.ntmps61
  go_wp2_with fail
  refine (invar_any b r _ h (by omega)).mono ?_
  rintro _ w1 ⟨rfl, h1, g1⟩
  have hv0 := var_lt32 r
  have hvl := var_left r
  go_wp2_with fail
  refine (raw_any b _ _ _ h1 (by omega)).mono ?_
  rintro _ w2 ⟨rfl, h2, g2⟩
  rw [Int.toNat_natCast] at h2 ⊢
  have hu := Rd.raw_left r.var.2 r.var.1
  have hur := Rd.raw_le r.var.2 r.var.1
  have HT : Hid (takeP r kind isWill = if (r.var.2.raw r.var.1).2.e ≠ 0 then ([], (r.var.2.raw r.var.1).2)
    else if (propsGo kind isWill (r.var.2.raw r.var.1).1.length ⟨(r.var.2.raw r.var.1).1, 0⟩ []).2.e = 0 then ((propsGo kind isWill (r.var.2.raw r.var.1).1.length ⟨(r.var.2.raw r.var.1).1, 0⟩ []).1, (r.var.2.raw r.var.1).2)
    else ([], (r.var.2.raw r.var.1).2.fail (if (propsGo kind isWill (r.var.2.raw r.var.1).1.length ⟨(r.var.2.raw r.var.1).1, 0⟩ []).2.e = 1 then 2 else (propsGo kind isWill (r.var.2.raw r.var.1).1.length ⟨(r.var.2.raw r.var.1).1, 0⟩ []).2.e))) := Lib.hid rfl
  obtain ⟨⟨S, u⟩, hSu⟩ : ∃ x, r.var.2.raw r.var.1 = x := ⟨_, rfl⟩
  rw [hSu] at h2 hu hur HT ⊢
  dsimp only at h2 hu hur HT ⊢
  have hSl : S.length ≤ 1000000 := by omega
  clear hSu h1
  go_wp2_with fail
  refine (over_any S _).mono ?_
  rintro _ w3 ⟨rfl, h3, g3⟩
  have h2' := h2.fr g3 (by simp)
  have s1 := g1.size
  have s2 := g2.size
  have s3 := g3.size
  have hff := (g1.trans g2 (by simp)).trans g3 (by simp)
  have hbi : b ≠ w2.heap.size := by have := blk_lt h2; omega
  clear g1 g2 g3 h2
  go_wp2_with fail
  refine (err_any b u _ h2').mono ?_
  rintro _ w4 ⟨rfl, rfl⟩
  by_cases hue : u.e = 0
  rotate_left
  · have t1 : (u.e != 0) = true := by simpa using hue
    have HT1 := Lib.hid (HT.out.trans (if_pos hue))
    clear hue
    go_wp2
    go_ret
    rw [HT1.out]
    exact ⟨_, rfl, World.ownsRow_nil _ _ _ _, fun _ => rfl, h2', hff⟩
  have t1 : (u.e != 0) = false := by simpa using hue
  have HT1 := HT.out
  rw [if_neg (by simpa using hue)] at HT1
  replace HT1 := Lib.hid HT1
  have Hue := Lib.hid hue
  clear hue HT
  have HI := ploop_start kind isWill S
  replace HI := Lib.hid HI
  replace hff := Lib.hid hff
  go_wp2
  go_loopw [8] (fun v wr => ∃ (l : List Pr) (q : Rd), Hid (PLoop kind isWill S l q) ∧ wr.ownsRow w.heap.size 116 4 v l.length (l.flatMap prE) ∧ (l = [] → v = .slice none 0 0) ∧ InAt wr w2.heap.size q ∧ InAt wr b u ∧ Hid (Fr [b] w wr)) (fun v _ => S.length + 1 - sliceN v)
  case atStart => exact ⟨[], ⟨S, 0⟩, HI, World.ownsRow_nil _ _ _ _, fun _ => rfl, h3, h2', hff⟩
  case round =>
    clear HI h3 h2' hff
    obtain ⟨l, q, HI, hown, hnil, hin, hb, hff⟩ := hrel
    have hPL := HI.out
    have hql : q.s.length ≤ 1000000 := Nat.le_trans hPL.1 hSl
    have Hnil := Lib.hid hnil
    have Hb := Lib.hid hb
    have hne1 := own_ne hown hin (by decide)
    have hne2 := own_ne hown hb (by decide)
    have Hne1 := Lib.hid hne1
    have Hne2 := Lib.hid hne2
    have hszr := hff.out.size
    have hbil := blk_lt hin
    clear hnil hb hne1 hne2
    obtain ⟨A, cp, rfl⟩ := own_shape hown
    have HW := Lib.hid hown
    clear hown
    by_cases hqs : q.s = []
    · have hl0 : (0 : Int) < (q.s.length : Int) ↔ False := by rw [hqs]; simp
      by_cases hqe : q.e = 0
      · skip
        have hT0 : Hid ((propsGo kind isWill S.length ⟨S, 0⟩ []) = (l, q)) := Lib.hid (by
          obtain ⟨_, fuel, _, h4⟩ := hPL.2.1 hqe
          rw [← h4, propsGo_stop _ _ _ _ _ (Or.inl hqs)])
        have HX := Lib.hid (HT1.out.trans (if_pos (by rw [hT0.out]; exact hqe)))
        have t6 : (q.e == 0) = true := by simpa using hqe
        clear hPL hqe
        go_wp2_with fail
        refine (left_any _ q _ hin).mono ?_
        rintro _ x1 ⟨rfl, rfl⟩
        go_wp2_with fail
        refine (err_any _ q _ hin).mono ?_
        rintro _ x1 ⟨rfl, rfl⟩
        go_wp2
        go_ret
        rw [HX.out, hT0.out]
        exact ⟨_, rfl, HW.out, Hnil.out, Hb.out, hff.out⟩
      · skip
        by_cases e1 : q.e = 1
        · have t5 : (q.e == 1) = true := by simpa using e1
          have t6 : (q.e == 0) = false := by simpa using hqe
          have HX := Lib.hid (HT1.out.trans (if_neg (by rw [(hPL.2.2 hqe).2]; exact hqe)))
          have HE := Lib.hid (show (propsGo kind isWill S.length ⟨S, 0⟩ []).2.e = 1 from by rw [(hPL.2.2 hqe).2]; exact e1)
          clear e1 hqe hPL
          go_wp2_with fail
          refine (left_any _ q _ hin).mono ?_
          rintro _ x1 ⟨rfl, rfl⟩
          go_wp2_with fail
          refine (err_any _ q _ hin).mono ?_
          rintro _ x1 ⟨rfl, rfl⟩
          go_wp2_with fail
          refine (fail_any b u 2 _ Hb.out).mono ?_
          rintro _ x3 ⟨rfl, b3, g3⟩
          go_wp2
          go_ret
          rw [HX.out, HE.out, if_pos rfl]
          exact ⟨_, rfl, World.ownsRow_nil _ _ _ _, fun _ => rfl, b3, hff.out.trans g3 (by simp)⟩
        · have t5 : (q.e == 1) = false := by simpa using e1
          have t6 : (q.e == 0) = false := by simpa using hqe
          have HX := Lib.hid (HT1.out.trans (if_neg (by rw [(hPL.2.2 hqe).2]; exact hqe)))
          have HE := Lib.hid (show (propsGo kind isWill S.length ⟨S, 0⟩ []).2.e = q.e from by rw [(hPL.2.2 hqe).2])
          have HN1 := Lib.hid e1
          clear e1 hqe hPL
          go_wp2_with fail
          refine (left_any _ q _ hin).mono ?_
          rintro _ x1 ⟨rfl, rfl⟩
          go_wp2_with fail
          refine (err_any _ q _ hin).mono ?_
          rintro _ x1 ⟨rfl, rfl⟩
          go_wp2_with fail
          refine (fail_any b u q.e _ Hb.out).mono ?_
          rintro _ x3 ⟨rfl, b3, g3⟩
          go_wp2
          go_ret
          rw [HX.out, HE.out, if_neg HN1.out]
          exact ⟨_, rfl, World.ownsRow_nil _ _ _ _, fun _ => rfl, b3, hff.out.trans g3 (by simp)⟩
    by_cases hqe : q.e = 0
    · have hsl : 0 < q.s.length := List.length_pos_iff.2 hqs
      have hst := ploop_step kind isWill S l q hPL hqe hqs
      have hlen := (hPL.2.1 hqe).1
      have t2 : (q.e == 0) = true := by simpa using hqe
      replace hst := Lib.hid hst
      have Hqe := Lib.hid hqe
      clear hqe hqs hPL
      go_wp2_with fail
      refine (left_any _ q _ hin).mono ?_
      rintro _ x1 ⟨rfl, rfl⟩
      go_wp2_with fail
      refine (err_any _ q _ hin).mono ?_
      rintro _ x1 ⟨rfl, rfl⟩
      go_wp2_with fail
      refine (invar_any _ q _ hin (by omega)).mono ?_
      rintro _ x1 ⟨rfl, i1, g1⟩
      have hv1 := var_lt32 q
      have hv2 := var_left q
      obtain ⟨⟨id, q1⟩, hq⟩ : ∃ x, q.var = x := ⟨_, rfl⟩
      rw [hq] at i1 hst hv1 hv2 ⊢
      dsimp only at i1 hst hv1 hv2 ⊢
      clear hq
      have fr1 := hff.out.trans g1 (by intro x hx h; simp at h; omega)
      have ow1 := own_fr g1 HW.out (by intro g hg h; simp at h; subst h; exact Hne1.out hg)
      have hb1 := Hb.out.fr g1 (by simp; exact hbi)
      have z1 := g1.size
      replace fr1 := Lib.hid fr1
      have Hne3 := Lib.hid (own_ge ow1 (Nat.le_refl x1.heap.size))
      replace ow1 := Lib.hid ow1
      replace hb1 := Lib.hid hb1
      replace i1 := Lib.hid i1
      clear g1 hin
      have hn1 := blk_new x1 (.cells #[.int .i64 (id : Int), .int .u32 0, .string ⟨#[]⟩, .string ⟨#[]⟩] 116)
      go_wp2_with fail
      refine (of_any id _).mono ?_
      rintro _ x2 ⟨rfl, g2⟩
      have fr2 := Lib.hid ((fr1.out.alloc _).trans g2 (by simp))
      have ow2 := Lib.hid (own_fr g2 (ow1.out.alloc _) (by simp))
      have hb2 := Lib.hid (InAt.fr (blk_old hb1.out _) g2 (by simp))
      have i2 := Lib.hid (InAt.fr (blk_old i1.out _) g2 (by simp))
      have hp2 := Lib.hid (g2.blk hn1 (by simp))
      have z2 := g2.size
      rw [World.size_alloc] at z2
      obtain ⟨rl, rm, rk7, rk0, rki⟩ := ruleOf_cases id
      have hmay : Hid (mayB id kind isWill = !(bits .and .i64 (ruleOf id).inn (setN kind isWill) == 0)) := Lib.hid rfl
      have hmany : Hid (manyB id kind isWill = !(bits .and .i64 (ruleOf id).many (setN kind isWill) == 0)) := Lib.hid rfl
      have hinn : Hid ((ruleOf id).inn = 0 → bits .and .i64 (ruleOf id).inn (setN kind isWill) = 0) := Lib.hid (fun h => by
        rw [h]; unfold bits; simp [IntKind.wrap_i64])
      have HV := Lib.hid (show valR (ruleOf id) id q1 = valR (ruleOf id) id q1 from rfl)
      generalize hru : ruleOf id = ru at *
      obtain ⟨rkd, rin, rle, rmo, rma⟩ := ru
      have Hru := Lib.hid hru
      clear hru g2 hn1
      dsimp only at rl rm rk7 rk0 rki hmay hmany hinn
      have hrb := Lib.hid (blk_new x2 (.cells #[.int .i64 rkd, .int .i64 rin, .int .u32 rle, .int .u32 rmo, .int .i64 rma] 132))
      have hpc := Lib.hid (blk_old hp2.out (.cells #[.int .i64 rkd, .int .i64 rin, .int .u32 rle, .int .u32 rmo, .int .i64 rma] 132))
      obtain ⟨⟨c0, c1, c2, c3⟩, ⟨f0, f1, f2, f3⟩, _⟩ := blk4_facts hpc.out
      go_wp2_with fail
      refine (err_any _ q1 _ (blk_old i2.out _)).mono ?_
      rintro _ _ ⟨rfl, rfl⟩
      by_cases h1e : q1.e = 0
      rotate_left
      · have t3 : (q1.e != 0) = true := by simpa using h1e
        have hpl := Lib.hid (hst.out.1 h1e ⟨id, 0, [], []⟩)
        clear h1e
        go_wp2_with (at_builtin; refine wpl_app _ rfl (.tmp 74) (.tmp 76) 24 rfl w.heap.size 116 i0 (.agg #[.int .i64 0, .int .u32 0, .string ⟨#[]⟩, .string ⟨#[]⟩]) 4 48 Try.underlying24 hi hz0 hz1 hz2 rfl (by decide) _ l.length (l.flatMap prE) rfl ((ow2.out.alloc _).alloc _) ⟨x2.heap.size + 1, 0, none⟩ 1 1 (prE (Pr.mk id 0 [] [])) rfl rfl ?a1 ?a2 ?a3 ?a4 ?a5 ?_)
        try (case a1 => exact news_at _ _ (by simp) _ _)
        try (case a2 => first | exact ⟨rfl, rfl, rfl, rfl⟩ | (intro u hu; simp [prE] at hu; rcases hu with rfl | rfl | rfl | rfl <;> rfl))
        try (case a3 => unfold maxLen; omega)
        try (case a4 => omega)
        try (case a5 => first | omega | (simp; omega))
        intro v' x9 own9 hg _
        have own9' : x9.ownsRow w.heap.size 116 4 v' (l.length + 1) ((l ++ [(Pr.mk id 0 [] [])]).flatMap prE) := by rw [flat_snoc]; exact own9
        have in9 := grown_blk hg (blk_old (blk_old i2.out _) _) Hne1.out
        have hb9 := grown_blk hg (blk_old (blk_old hb2.out _) _) Hne2.out
        have fr9 : Fr [b] w x9 := (Fr.alloc (fr2.out.alloc _) _).app ((ow2.out.alloc _).alloc _) (Nat.le_refl _) hg
        obtain ⟨A9, cp9, rfl⟩ := own_shape own9'
        replace own9' := Lib.hid own9'
        replace in9 := Lib.hid in9
        replace hb9 := Lib.hid hb9
        replace fr9 := Lib.hid fr9
        clear own9 hg
        go_wp2
        go_roundw
        case rel => exact ⟨l ++ [(Pr.mk id 0 [] [])], q1, Lib.hid (hpl.out), by rw [List.length_append]; exact own9'.out, fun h => by simp at h, in9.out, hb9.out, fr9⟩
        case measure => simp [sliceN]; omega
      have t3 : (q1.e != 0) = false := by simpa using h1e
      have H1e := Lib.hid h1e
      clear h1e
      have b1 := blk_cell hrb.out 1
      go_upto_region 13 with (fail)
      obtain ⟨wx, hwx⟩ : ∃ wx, x2.alloc (.cells #[.int .i64 rkd, .int .i64 rin, .int .u32 rle, .int .u32 rmo, .int .i64 rma] 132) = wx := ⟨_, rfl⟩
      have frx := Lib.hid (show Fr [b] w wx from hwx ▸ fr2.out.alloc _)
      have owx := Lib.hid (show wx.ownsRow w.heap.size 116 4 (.slice A l.length cp) l.length (l.flatMap prE) from hwx ▸ ow2.out.alloc _)
      have hbx := Lib.hid (show InAt wx b u from hwx ▸ blk_old hb2.out _)
      have ix := Lib.hid (show InAt wx w2.heap.size q1 from hwx ▸ blk_old i2.out _)
      have zx : wx.heap.size = x2.heap.size + 1 := by rw [← hwx]; simp
      rw [hwx] at hrb hpc b1 c0 c1 c2 c3 f0 f1 f2 f3 ⊢
      clear hwx ow2 hb2 i2 hp2 fr2
      go_quiet ((go_at_call 82; exact qsame (set_any kind isWill _)))
      by_cases hm : mayB id kind isWill = true
      rotate_left
      · have hm' : mayB id kind isWill = false := by simpa using hm
        have e4 : (bits .and .i64 rin (setN kind isWill) == 0) = true := by have := hmay.out; rw [hm'] at this; simpa using this.symm
        have hpl := fun p => Lib.hid (hst.out.2.1 H1e.out hm' p)
        replace hpl := Lib.hid hpl
        clear hm hm'
        go_wp2_with fail
        refine (fail_any _ q1 2 _ (show InAt (wx.drewN nq) _ _ from ix.out)).mono ?_
        rintro _ x3 ⟨rfl, i3, g3⟩
        rw [show q1.fail 2 = ⟨q1.s, 2⟩ from if_pos H1e.out] at i3
        have fr3 := Lib.hid ((frx.out.drewN nq).trans g3 (by intro x hx h; simp at h; omega))
        have ow3 := Lib.hid (own_fr g3 (show (wx.drewN nq).ownsRow _ _ _ _ _ _ from owx.out) (by intro g hg h; simp at h; subst h; exact Hne1.out hg))
        have hb3 := Lib.hid (InAt.fr (show InAt (wx.drewN nq) b u from hbx.out) g3 (by simp; exact hbi))
        have hp3 := g3.blk (show (wx.drewN nq).heap[x1.heap.size]? = _ from hpc.out) (by simp; omega)
        have z3 := g3.size
        replace i3 := Lib.hid i3
        clear g3 c0 c1 c2 c3 f0 f1 f2 f3 b1
        obtain ⟨⟨c0, c1, c2, c3⟩, ⟨f0, f1, f2, f3⟩, _⟩ := blk4_facts hp3
        clear hp3
        go_wp2_with (at_builtin; refine wpl_app _ rfl (.tmp 74) (.tmp 76) 24 rfl w.heap.size 116 i0 (.agg #[.int .i64 0, .int .u32 0, .string ⟨#[]⟩, .string ⟨#[]⟩]) 4 48 Try.underlying24 hi hz0 hz1 hz2 rfl (by decide) _ l.length (l.flatMap prE) rfl (ow3.out.alloc _) ⟨x3.heap.size, 0, none⟩ 1 1 (prE (Pr.mk id 0 [] [])) rfl rfl ?b1 ?b2 ?b3 ?b4 ?b5 ?_)
        try (case b1 => exact news_at _ _ (by simp) _ _)
        try (case b2 => first | exact ⟨rfl, rfl, rfl, rfl⟩ | (intro u hu; simp [prE] at hu; rcases hu with rfl | rfl | rfl | rfl <;> rfl))
        try (case b3 => unfold maxLen; omega)
        try (case b4 => omega)
        try (case b5 => first | omega | (simp; omega))
        intro v' x9 own9 hg _
        have own9' : x9.ownsRow w.heap.size 116 4 v' (l.length + 1) ((l ++ [(Pr.mk id 0 [] [])]).flatMap prE) := by rw [flat_snoc]; exact own9
        have in9 := grown_blk hg (blk_old i3.out _) Hne1.out
        have hb9 := grown_blk hg (blk_old hb3.out _) Hne2.out
        have fr9 : Fr [b] w x9 := (Fr.alloc fr3.out _).app (ow3.out.alloc _) (Nat.le_refl _) hg
        obtain ⟨A9, cp9, rfl⟩ := own_shape own9'
        replace own9' := Lib.hid own9'
        replace in9 := Lib.hid in9
        replace hb9 := Lib.hid hb9
        replace fr9 := Lib.hid fr9
        clear own9 hg
        go_wp2
        go_roundw
        case rel => exact ⟨l ++ [(Pr.mk id 0 [] [])], (Rd.mk q1.s 2), Lib.hid ((hpl.out (Pr.mk id 0 [] [])).out), by rw [List.length_append]; exact own9'.out, fun h => by simp at h, in9.out, hb9.out, fr9⟩
        case measure => simp [sliceN]; omega
      have e4 : (bits .and .i64 rin (setN kind isWill) == 0) = false := by have := hmay.out; rw [hm] at this; simpa using this
      have hk1 : 1 ≤ rkd := rki (fun h => by have := hinn.out h; rw [this] at e4; simp at e4)
      clear hinn rki
      have Hm := Lib.hid hm
      clear hm
      go_wp2_with fail
      refine (get_any _ l id _ (own_view (show (wx.drewN nq).ownsRow _ _ _ _ _ _ from owx.out)) (by omega)).mono ?_
      rintro _ x3 ⟨rfl, g3⟩
      have fr3 := (frx.out.drewN nq).trans g3 (by simp)
      have ow3 := own_fr g3 (show (wx.drewN nq).ownsRow _ _ _ _ _ _ from owx.out) (by simp)
      have hb3 := InAt.fr (show InAt (wx.drewN nq) b u from hbx.out) g3 (by simp)
      have i3 := InAt.fr (show InAt (wx.drewN nq) w2.heap.size q1 from ix.out) g3 (by simp)
      have hp3 := g3.blk (show (wx.drewN nq).heap[x1.heap.size]? = _ from hpc.out) (by simp)
      have hr3 := g3.blk (show (wx.drewN nq).heap[x2.heap.size]? = _ from hrb.out) (by simp)
      have z3 := g3.size
      rw [show (wx.drewN nq).heap.size = wx.heap.size from rfl] at z3
      clear g3 c0 c1 c2 c3 f0 f1 f2 f3 b1
      obtain ⟨⟨gp, gt⟩, hg⟩ : ∃ x, getR l id = x := ⟨_, rfl⟩
      have hgt : Hid ((getR l id).2 = gt) := Lib.hid (by rw [hg])
      rw [hg]
      clear hg
      obtain ⟨gpi, gpn, gps, gpt⟩ := gp
      dsimp only
      have fr4 := Lib.hid (fr3.alloc (.cells #[.int .i64 gpi, .int .u32 gpn, .string ⟨gps.toArray⟩, .string ⟨gpt.toArray⟩] 116))
      have ow4 := Lib.hid (ow3.alloc (.cells #[.int .i64 gpi, .int .u32 gpn, .string ⟨gps.toArray⟩, .string ⟨gpt.toArray⟩] 116))
      have hb4 := Lib.hid (blk_old hb3 (.cells #[.int .i64 gpi, .int .u32 gpn, .string ⟨gps.toArray⟩, .string ⟨gpt.toArray⟩] 116))
      have i4 := Lib.hid (blk_old i3 (.cells #[.int .i64 gpi, .int .u32 gpn, .string ⟨gps.toArray⟩, .string ⟨gpt.toArray⟩] 116))
      have hp4 := Lib.hid (blk_old hp3 (.cells #[.int .i64 gpi, .int .u32 gpn, .string ⟨gps.toArray⟩, .string ⟨gpt.toArray⟩] 116))
      have hr4 := Lib.hid (blk_old hr3 (.cells #[.int .i64 gpi, .int .u32 gpn, .string ⟨gps.toArray⟩, .string ⟨gpt.toArray⟩] 116))
      clear fr3 ow3 hb3 i3 hp3 hr3 frx owx hbx ix hpc hrb
      obtain ⟨⟨c0, c1, c2, c3, c4⟩, ⟨f0, f1, f2, f3, f4⟩, _⟩ := blk5_facts hr4.out
      go_upto_region 9 with (fail)
      obtain ⟨wy, hwy⟩ : ∃ wy, x3.alloc (.cells #[.int .i64 gpi, .int .u32 gpn, .string ⟨gps.toArray⟩, .string ⟨gpt.toArray⟩] 116) = wy := ⟨_, rfl⟩
      rw [hwy] at fr4 ow4 hb4 i4 hp4 hr4 c0 c1 c2 c3 c4 f0 f1 f2 f3 f4 ⊢
      have zy : wy.heap.size = x3.heap.size + 1 := by rw [← hwy]; simp
      clear hwy
      cases gt
      · go_quiet ((go_at_call 82; exact qsame (set_any kind isWill _)))
        have hpl := Lib.hid (hst.out.2.2.2 H1e.out Hm.out (Or.inl hgt.out))
        have fr5 := Lib.hid (fr4.out.drewN nq)
        have ow5 := Lib.hid (show (wy.drewN nq).ownsRow _ _ _ _ _ _ from ow4.out)
        have hb5 := Lib.hid (show InAt (wy.drewN nq) b u from hb4.out)
        have i5 := Lib.hid (show InAt (wy.drewN nq) w2.heap.size q1 from i4.out)
        have hp5 := Lib.hid (show (wy.drewN nq).heap[x1.heap.size]? = _ from hp4.out)
        have hr5 := Lib.hid (show (wy.drewN nq).heap[x2.heap.size]? = _ from hr4.out)
        have z5 : (wy.drewN nq).heap.size = wy.heap.size := rfl
        go_wp2_with fail
        clear c0 c1 c2 c3 c4 f0 f1 f2 f3 f4
        obtain ⟨⟨c0, c1, c2, c3, c4⟩, ⟨f0, f1, f2, f3, f4⟩, _⟩ := blk5_facts hr5.out
        go_wp2_with fail
        refine (valuep_any w2.heap.size x1.heap.size q1 ⟨rkd, rin, rle, rmo, rma⟩ id _ i5.out (show PrAt _ _ ⟨id, 0, [], []⟩ from hp5.out) hk1 rk7 (by first | omega | (dsimp only; omega)) rl rm).mono ?_
        rintro _ x6 ⟨rfl, hp6, i6, g6⟩
        have fr6 := Lib.hid (fr5.out.trans g6 (by intro x hx h; simp at h; omega))
        have ow6 := Lib.hid (own_fr g6 ow5.out (by intro g hg h; simp at h; rcases h with h | h; · exact Hne1.out (h ▸ hg)
                                                   · exact Hne3.out (h ▸ hg)))
        have hb6 := Lib.hid (InAt.fr hb5.out g6 (by simp; omega))
        have z6 := g6.size
        replace i6 := Lib.hid i6
        replace hp6 := Lib.hid hp6
        clear g6 c0 c1 c2 c3 c4 f0 f1 f2 f3 f4
        obtain ⟨⟨vi, vn, vs, vt⟩, hvp⟩ : ∃ p : Pr, (valR ⟨rkd, rin, rle, rmo, rma⟩ id q1).1 = p := ⟨_, rfl⟩
        rw [hvp] at hp6 hpl
        clear hvp
        obtain ⟨⟨c0, c1, c2, c3⟩, ⟨f0, f1, f2, f3⟩, _⟩ := blk4_facts hp6.out
        go_wp2_with (at_builtin; refine wpl_app _ rfl (.tmp 74) (.tmp 76) 24 rfl w.heap.size 116 i0 (.agg #[.int .i64 0, .int .u32 0, .string ⟨#[]⟩, .string ⟨#[]⟩]) 4 48 Try.underlying24 hi hz0 hz1 hz2 rfl (by decide) _ l.length (l.flatMap prE) rfl (ow6.out.alloc _) ⟨x6.heap.size, 0, none⟩ 1 1 (prE (Pr.mk vi vn vs vt)) rfl rfl ?d1 ?d2 ?d3 ?d4 ?d5 ?_)
        try (case d1 => exact news_at _ _ (by simp) _ _)
        try (case d2 => first | exact ⟨rfl, rfl, rfl, rfl⟩ | (intro u hu; simp [prE] at hu; rcases hu with rfl | rfl | rfl | rfl <;> rfl))
        try (case d3 => unfold maxLen; omega)
        try (case d4 => omega)
        try (case d5 => first | omega | (simp; omega))
        intro v' x9 own9 hg _
        have own9' : x9.ownsRow w.heap.size 116 4 v' (l.length + 1) ((l ++ [(Pr.mk vi vn vs vt)]).flatMap prE) := by rw [flat_snoc]; exact own9
        have in9 := grown_blk hg (blk_old i6.out _) Hne1.out
        have hb9 := grown_blk hg (blk_old hb6.out _) Hne2.out
        have fr9 : Fr [b] w x9 := (Fr.alloc fr6.out _).app (ow6.out.alloc _) (Nat.le_refl _) hg
        obtain ⟨A9, cp9, rfl⟩ := own_shape own9'
        replace own9' := Lib.hid own9'
        replace in9 := Lib.hid in9
        replace hb9 := Lib.hid hb9
        replace fr9 := Lib.hid fr9
        clear own9 hg
        go_wp2
        go_roundw
        case rel => exact ⟨l ++ [(Pr.mk vi vn vs vt)], (valR ⟨rkd, rin, rle, rmo, rma⟩ id q1).2, Lib.hid (hpl.out), by rw [List.length_append]; exact own9'.out, fun h => by simp at h, in9.out, hb9.out, fr9⟩
        case measure => simp [sliceN]; omega
      · by_cases hmn : manyB id kind isWill = true
        · have e5 : (bits .and .i64 rma (setN kind isWill) == 0) = false := by have := hmany.out; rw [hmn] at this; simpa using this
          go_quiet ((go_at_call 82; exact qsame (set_any kind isWill _)))
          have hpl := Lib.hid (hst.out.2.2.2 H1e.out Hm.out (Or.inr hmn))
          clear hmn
          have fr5 := Lib.hid (fr4.out.drewN nq)
          have ow5 := Lib.hid (show (wy.drewN nq).ownsRow _ _ _ _ _ _ from ow4.out)
          have hb5 := Lib.hid (show InAt (wy.drewN nq) b u from hb4.out)
          have i5 := Lib.hid (show InAt (wy.drewN nq) w2.heap.size q1 from i4.out)
          have hp5 := Lib.hid (show (wy.drewN nq).heap[x1.heap.size]? = _ from hp4.out)
          have hr5 := Lib.hid (show (wy.drewN nq).heap[x2.heap.size]? = _ from hr4.out)
          have z5 : (wy.drewN nq).heap.size = wy.heap.size := rfl
          go_wp2_with fail
          clear c0 c1 c2 c3 c4 f0 f1 f2 f3 f4
          obtain ⟨⟨c0, c1, c2, c3, c4⟩, ⟨f0, f1, f2, f3, f4⟩, _⟩ := blk5_facts hr5.out
          go_wp2_with fail
          refine (valuep_any w2.heap.size x1.heap.size q1 ⟨rkd, rin, rle, rmo, rma⟩ id _ i5.out (show PrAt _ _ ⟨id, 0, [], []⟩ from hp5.out) hk1 rk7 (by first | omega | (dsimp only; omega)) rl rm).mono ?_
          rintro _ x6 ⟨rfl, hp6, i6, g6⟩
          have fr6 := Lib.hid (fr5.out.trans g6 (by intro x hx h; simp at h; omega))
          have ow6 := Lib.hid (own_fr g6 ow5.out (by intro g hg h; simp at h; rcases h with h | h; · exact Hne1.out (h ▸ hg)
                                                     · exact Hne3.out (h ▸ hg)))
          have hb6 := Lib.hid (InAt.fr hb5.out g6 (by simp; omega))
          have z6 := g6.size
          replace i6 := Lib.hid i6
          replace hp6 := Lib.hid hp6
          clear g6 c0 c1 c2 c3 c4 f0 f1 f2 f3 f4
          obtain ⟨⟨vi, vn, vs, vt⟩, hvp⟩ : ∃ p : Pr, (valR ⟨rkd, rin, rle, rmo, rma⟩ id q1).1 = p := ⟨_, rfl⟩
          rw [hvp] at hp6 hpl
          clear hvp
          obtain ⟨⟨c0, c1, c2, c3⟩, ⟨f0, f1, f2, f3⟩, _⟩ := blk4_facts hp6.out
          go_wp2_with (at_builtin; refine wpl_app _ rfl (.tmp 74) (.tmp 76) 24 rfl w.heap.size 116 i0 (.agg #[.int .i64 0, .int .u32 0, .string ⟨#[]⟩, .string ⟨#[]⟩]) 4 48 Try.underlying24 hi hz0 hz1 hz2 rfl (by decide) _ l.length (l.flatMap prE) rfl (ow6.out.alloc _) ⟨x6.heap.size, 0, none⟩ 1 1 (prE (Pr.mk vi vn vs vt)) rfl rfl ?g1 ?g2 ?g3 ?g4 ?g5 ?_)
          try (case g1 => exact news_at _ _ (by simp) _ _)
          try (case g2 => first | exact ⟨rfl, rfl, rfl, rfl⟩ | (intro u hu; simp [prE] at hu; rcases hu with rfl | rfl | rfl | rfl <;> rfl))
          try (case g3 => unfold maxLen; omega)
          try (case g4 => omega)
          try (case g5 => first | omega | (simp; omega))
          intro v' x9 own9 hg _
          have own9' : x9.ownsRow w.heap.size 116 4 v' (l.length + 1) ((l ++ [(Pr.mk vi vn vs vt)]).flatMap prE) := by rw [flat_snoc]; exact own9
          have in9 := grown_blk hg (blk_old i6.out _) Hne1.out
          have hb9 := grown_blk hg (blk_old hb6.out _) Hne2.out
          have fr9 : Fr [b] w x9 := (Fr.alloc fr6.out _).app (ow6.out.alloc _) (Nat.le_refl _) hg
          obtain ⟨A9, cp9, rfl⟩ := own_shape own9'
          replace own9' := Lib.hid own9'
          replace in9 := Lib.hid in9
          replace hb9 := Lib.hid hb9
          replace fr9 := Lib.hid fr9
          clear own9 hg
          go_wp2
          go_roundw
          case rel => exact ⟨l ++ [(Pr.mk vi vn vs vt)], (valR ⟨rkd, rin, rle, rmo, rma⟩ id q1).2, Lib.hid (hpl.out), by rw [List.length_append]; exact own9'.out, fun h => by simp at h, in9.out, hb9.out, fr9⟩
          case measure => simp [sliceN]; omega
        · have hmn' : manyB id kind isWill = false := by simpa using hmn
          have e5 : (bits .and .i64 rma (setN kind isWill) == 0) = true := by have := hmany.out; rw [hmn'] at this; simpa using this.symm
          go_quiet ((go_at_call 82; exact qsame (set_any kind isWill _)))
          have hpl := fun p => (hst.out.2.2.1 H1e.out Hm.out hgt.out hmn' p)
          replace hpl := Lib.hid (hpl (valR ⟨rkd, rin, rle, rmo, rma⟩ id ⟨q1.s, 3⟩).1)
          have hvb := Lib.hid (valR_bad ⟨rkd, rin, rle, rmo, rma⟩ id ⟨q1.s, 3⟩ (by show ¬ (3 : Int) = 0; decide))
          clear hmn hmn'
          go_wp2_with fail
          refine (fail_any _ q1 3 _ (show InAt (wy.drewN nq) _ _ from i4.out)).mono ?_
          rintro _ x5 ⟨rfl, i5, g5⟩
          rw [show q1.fail 3 = ⟨q1.s, 3⟩ from if_pos H1e.out] at i5
          have fr5 := Lib.hid ((fr4.out.drewN nq).trans g5 (by intro x hx h; simp at h; omega))
          have ow5 := Lib.hid (own_fr g5 (show (wy.drewN nq).ownsRow _ _ _ _ _ _ from ow4.out) (by intro g hg h; simp at h; subst h; exact Hne1.out hg))
          have hb5 := Lib.hid (InAt.fr (show InAt (wy.drewN nq) b u from hb4.out) g5 (by simp; exact hbi))
          have hp5 := Lib.hid (g5.blk (show (wy.drewN nq).heap[x1.heap.size]? = _ from hp4.out) (by simp; omega))
          have hr5 := Lib.hid (g5.blk (show (wy.drewN nq).heap[x2.heap.size]? = _ from hr4.out) (by simp; omega))
          have z5 := g5.size
          rw [show (wy.drewN nq).heap.size = wy.heap.size from rfl] at z5
          replace i5 := Lib.hid i5
          clear g5
          clear c0 c1 c2 c3 c4 f0 f1 f2 f3 f4
          obtain ⟨⟨c0, c1, c2, c3, c4⟩, ⟨f0, f1, f2, f3, f4⟩, _⟩ := blk5_facts hr5.out
          go_wp2_with fail
          refine (valuep_any w2.heap.size x1.heap.size (Rd.mk q1.s 3) ⟨rkd, rin, rle, rmo, rma⟩ id _ i5.out (show PrAt _ _ ⟨id, 0, [], []⟩ from hp5.out) hk1 rk7 (by first | omega | (dsimp only; omega)) rl rm).mono ?_
          rintro _ x6 ⟨rfl, hp6, i6, g6⟩
          have fr6 := Lib.hid (fr5.out.trans g6 (by intro x hx h; simp at h; omega))
          have ow6 := Lib.hid (own_fr g6 ow5.out (by intro g hg h; simp at h; rcases h with h | h; · exact Hne1.out (h ▸ hg)
                                                     · exact Hne3.out (h ▸ hg)))
          have hb6 := Lib.hid (InAt.fr hb5.out g6 (by simp; omega))
          have z6 := g6.size
          replace i6 := Lib.hid i6
          replace hp6 := Lib.hid hp6
          clear g6 c0 c1 c2 c3 c4 f0 f1 f2 f3 f4
          obtain ⟨⟨vi, vn, vs, vt⟩, hvp⟩ : ∃ p : Pr, (valR ⟨rkd, rin, rle, rmo, rma⟩ id (Rd.mk q1.s 3)).1 = p := ⟨_, rfl⟩
          rw [hvp] at hp6 hpl
          clear hvp
          obtain ⟨⟨c0, c1, c2, c3⟩, ⟨f0, f1, f2, f3⟩, _⟩ := blk4_facts hp6.out
          rw [hvb.out] at i6
          go_wp2_with (at_builtin; refine wpl_app _ rfl (.tmp 74) (.tmp 76) 24 rfl w.heap.size 116 i0 (.agg #[.int .i64 0, .int .u32 0, .string ⟨#[]⟩, .string ⟨#[]⟩]) 4 48 Try.underlying24 hi hz0 hz1 hz2 rfl (by decide) _ l.length (l.flatMap prE) rfl (ow6.out.alloc _) ⟨x6.heap.size, 0, none⟩ 1 1 (prE (Pr.mk vi vn vs vt)) rfl rfl ?k1 ?k2 ?k3 ?k4 ?k5 ?_)
          try (case k1 => exact news_at _ _ (by simp) _ _)
          try (case k2 => first | exact ⟨rfl, rfl, rfl, rfl⟩ | (intro u hu; simp [prE] at hu; rcases hu with rfl | rfl | rfl | rfl <;> rfl))
          try (case k3 => unfold maxLen; omega)
          try (case k4 => omega)
          try (case k5 => first | omega | (simp; omega))
          intro v' x9 own9 hg _
          have own9' : x9.ownsRow w.heap.size 116 4 v' (l.length + 1) ((l ++ [(Pr.mk vi vn vs vt)]).flatMap prE) := by rw [flat_snoc]; exact own9
          have in9 := grown_blk hg (blk_old i6.out _) Hne1.out
          have hb9 := grown_blk hg (blk_old hb6.out _) Hne2.out
          have fr9 : Fr [b] w x9 := (Fr.alloc fr6.out _).app (ow6.out.alloc _) (Nat.le_refl _) hg
          obtain ⟨A9, cp9, rfl⟩ := own_shape own9'
          replace own9' := Lib.hid own9'
          replace in9 := Lib.hid in9
          replace hb9 := Lib.hid hb9
          replace fr9 := Lib.hid fr9
          clear own9 hg
          go_wp2
          go_roundw
          case rel => exact ⟨l ++ [(Pr.mk vi vn vs vt)], (Rd.mk q1.s 3), Lib.hid (hpl.out), by rw [List.length_append]; exact own9'.out, fun h => by simp at h, in9.out, hb9.out, fr9⟩
          case measure => simp [sliceN]; omega
    · have hsl : 0 < q.s.length := List.length_pos_iff.2 hqs
      clear hqs
      by_cases e1 : q.e = 1
      · have t5 : (q.e == 1) = true := by simpa using e1
        have t6 : (q.e == 0) = false := by simpa using hqe
        have HX := Lib.hid (HT1.out.trans (if_neg (by rw [(hPL.2.2 hqe).2]; exact hqe)))
        have HE := Lib.hid (show (propsGo kind isWill S.length ⟨S, 0⟩ []).2.e = 1 from by rw [(hPL.2.2 hqe).2]; exact e1)
        clear e1 hqe hPL
        go_wp2_with fail
        refine (left_any _ q _ hin).mono ?_
        rintro _ x1 ⟨rfl, rfl⟩
        go_wp2_with fail
        refine (err_any _ q _ hin).mono ?_
        rintro _ x1 ⟨rfl, rfl⟩
        go_wp2_with fail
        refine (err_any _ q _ hin).mono ?_
        rintro _ x1 ⟨rfl, rfl⟩
        go_wp2_with fail
        refine (fail_any b u 2 _ Hb.out).mono ?_
        rintro _ x3 ⟨rfl, b3, g3⟩
        go_wp2
        go_ret
        rw [HX.out, HE.out, if_pos rfl]
        exact ⟨_, rfl, World.ownsRow_nil _ _ _ _, fun _ => rfl, b3, hff.out.trans g3 (by simp)⟩
      · have t5 : (q.e == 1) = false := by simpa using e1
        have t6 : (q.e == 0) = false := by simpa using hqe
        have HX := Lib.hid (HT1.out.trans (if_neg (by rw [(hPL.2.2 hqe).2]; exact hqe)))
        have HE := Lib.hid (show (propsGo kind isWill S.length ⟨S, 0⟩ []).2.e = q.e from by rw [(hPL.2.2 hqe).2])
        have HN1 := Lib.hid e1
        clear e1 hqe hPL
        go_wp2_with fail
        refine (left_any _ q _ hin).mono ?_
        rintro _ x1 ⟨rfl, rfl⟩
        go_wp2_with fail
        refine (err_any _ q _ hin).mono ?_
        rintro _ x1 ⟨rfl, rfl⟩
        go_wp2_with fail
        refine (err_any _ q _ hin).mono ?_
        rintro _ x1 ⟨rfl, rfl⟩
        go_wp2_with fail
        refine (fail_any b u q.e _ Hb.out).mono ?_
        rintro _ x3 ⟨rfl, b3, g3⟩
        go_wp2
        go_ret
        rw [HX.out, HE.out, if_neg HN1.out]
        exact ⟨_, rfl, World.ownsRow_nil _ _ _ _, fun _ => rfl, b3, hff.out.trans g3 (by simp)⟩
end Go.Proofs.Ythioageiebchlaa
namespace Go.Proofs.Ythioageiebchlaa
open Go.RowKit

/-- What a property says, as bytes. -/
def sayB (k : Int) (x : Pr) : List UInt8 :=
  if k = 1 then [b8 x.n] else if k = 2 then two x.n else if k = 3 then four x.n else if k = 4 then var x.n else if k = 5 ∨ k = 6 then dataB x.s else if k = 7 then dataB x.s ++ dataB x.t else []
def oneB (x : Pr) : List UInt8 := var x.id.toNat ++ sayB (ruleOf x.id).kind x
def putsB (l : List Pr) : List UInt8 := l.flatMap fun x => if 0 < (ruleOf x.id).kind then oneB x else []
theorem kind_id (id : Int) (h : (ruleOf id).kind ≠ 0) : 1 ≤ id ∧ id ≤ 42 := by
  unfold ruleOf at h
  by_cases h1 : id = 1
  · omega
  rw [if_neg h1] at h
  by_cases h2 : id = 2
  · omega
  rw [if_neg h2] at h
  by_cases h3 : id = 3
  · omega
  rw [if_neg h3] at h
  by_cases h8 : id = 8
  · omega
  rw [if_neg h8] at h
  by_cases h9 : id = 9
  · omega
  rw [if_neg h9] at h
  by_cases h11 : id = 11
  · omega
  rw [if_neg h11] at h
  by_cases h17 : id = 17
  · omega
  rw [if_neg h17] at h
  by_cases h18 : id = 18
  · omega
  rw [if_neg h18] at h
  by_cases h19 : id = 19
  · omega
  rw [if_neg h19] at h
  by_cases h21 : id = 21
  · omega
  rw [if_neg h21] at h
  by_cases h22 : id = 22
  · omega
  rw [if_neg h22] at h
  by_cases h23 : id = 23
  · omega
  rw [if_neg h23] at h
  by_cases h25 : id = 25
  · omega
  rw [if_neg h25] at h
  by_cases h24 : id = 24
  · omega
  rw [if_neg h24] at h
  by_cases h26 : id = 26
  · omega
  rw [if_neg h26] at h
  by_cases h28 : id = 28
  · omega
  rw [if_neg h28] at h
  by_cases h31 : id = 31
  · omega
  rw [if_neg h31] at h
  by_cases h33 : id = 33
  · omega
  rw [if_neg h33] at h
  by_cases h34 : id = 34
  · omega
  rw [if_neg h34] at h
  by_cases h35 : id = 35
  · omega
  rw [if_neg h35] at h
  by_cases h36 : id = 36
  · omega
  rw [if_neg h36] at h
  by_cases h37 : id = 37
  · omega
  rw [if_neg h37] at h
  by_cases h40 : id = 40
  · omega
  rw [if_neg h40] at h
  by_cases h41 : id = 41
  · omega
  rw [if_neg h41] at h
  by_cases h42 : id = 42
  · omega
  rw [if_neg h42] at h
  by_cases h38 : id = 38
  · omega
  rw [if_neg h38] at h
  by_cases h39 : id = 39
  · omega
  rw [if_neg h39] at h
  exact absurd rfl h
theorem dataB_len (s : List UInt8) : (dataB s).length ≤ 65537 := by
  have h2 : (s.take 65535).length ≤ 65535 := List.length_take_le _ _
  simp only [dataB, List.length_append, two, List.length_cons, List.length_nil]; omega
theorem sayB_len (k : Int) (x : Pr) : (sayB k x).length ≤ 131074 := by
  have h1 := varB_len' x.n
  have h2 := dataB_len x.s
  have h3 := dataB_len x.t
  unfold sayB
  repeat' split
  all_goals first | (simp only [List.length_append]; omega) | (simp [two, four]; done) | omega | (simp; done) | (unfold four two; simp; done)
theorem oneB_len (x : Pr) : (oneB x).length ≤ 131078 := by
  have := varB_len' x.id.toNat
  have := sayB_len (ruleOf x.id).kind x
  rw [oneB, List.length_append]; omega
theorem putsB_len (l : List Pr) : (putsB l).length ≤ 131078 * l.length := by
  induction l with
  | nil => simp [putsB]
  | cons x l ih =>
    have h := oneB_len x
    rw [putsB] at ih ⊢
    rw [List.flatMap_cons, List.length_append, List.length_cons]
    split
    · omega
    · rw [List.length_nil]; omega
theorem putsB_snoc (l : List Pr) (x : Pr) : putsB (l ++ [x]) = putsB l ++ if 0 < (ruleOf x.id).kind then oneB x else [] := by simp [putsB]
set_option maxRecDepth 100000 in
set_option maxHeartbeats 1000000 in
theorem put1_pany (b o : Nat) (l : List UInt8) (x : Pr) (w : World) (h : OutAt w b o l) (hk : (ruleOf x.id).kind = 1) (hn : x.n < 4294967296) (hss : x.s.length ≤ 9223372036854775807) (hst : x.t.length ≤ 9223372036854775807) (hl : l.length < 70368740000000) :
    Calls Try.prog 87 #[.pointer (some ⟨b, 0, none⟩), .agg #[.int .i64 x.id, .int .u32 x.n, .string ⟨x.s.toArray⟩, .string ⟨x.t.toArray⟩]] w fun e w' => e = .returned (.tuple #[]) ∧ OutTo w w' b o (l ++ oneB x) := by
  obtain ⟨h1, h42⟩ := kind_id x.id (by rw [hk]; decide)
  have hfr0 : Fr [b, o] w (w.alloc (.cells (prE x).toArray 116)) := (Fr.refl _ _).alloc _
  have hp := blk_new w (.cells (prE x).toArray 116)
  have h0 := h.fr (Fr.alloc (Fr.refl [] w) (.cells (prE x).toArray 116)) (by simp) (by simp)
  have hlt := h.lt
  have hlt0 : (w.alloc (.cells (prE x).toArray 116)).heap.size = w.heap.size + 1 := by simp
  obtain ⟨xi, xn, xs, xt⟩ := x
  dsimp only at hk h1 h42 hn hss hst
  have HX : Hid (oneB ⟨xi, xn, xs, xt⟩ = var xi.toNat ++ sayB 1 ⟨xi, xn, xs, xt⟩) := Lib.hid (by rw [← hk]; rfl)
  have hv4 := varB_len' xi.toNat
  replace h0 := Lib.hid h0
  replace hp := Lib.hid hp
  replace hfr0 := Lib.hid hfr0
  go_enter Try.func87, Try.ntmps87
  go_wp2_with fail
  refine (outvar_any b o l xi _ h0.out (by omega) (by omega) (by omega)).mono ?_
  rintro _ w1 ⟨rfl, o1, q1, ho1, g1⟩
  have fr1 := hfr0.out.trans g1 (by intro z hz h; exact h)
  have hp1 := g1.blk hp.out (by simp; omega)
  have z1 := g1.size
  have lo1 : o1 = o ∨ w.heap.size ≤ o1 := by omega
  replace q1 := Lib.hid q1
  replace fr1 := Lib.hid fr1
  clear g1
  obtain ⟨⟨c0, c1, c2, c3⟩, ⟨f0, f1, f2, f3⟩, hpl⟩ := blk4_facts hp1
  go_wp2_with fail
  refine (pkind_any _ _).mono ?_
  rintro _ w2 ⟨rfl, g2⟩
  rw [hk]
  have fr2 := Lib.hid (fr1.out.trans g2 (by simp))
  have q2 := Lib.hid (q1.out.fr g2 (by simp) (by simp))
  have hp2 := g2.blk hp1 (by simp)
  have z2 := g2.size
  have hlq := q1.out.lt
  clear g2 hp1 c0 c1 c2 c3 f0 f1 f2 f3
  obtain ⟨⟨c0, c1, c2, c3⟩, ⟨f0, f1, f2, f3⟩, hpl2⟩ := blk4_facts hp2
  clear hp2
  go_wp2_with fail
  refine (outbyte_any b o1 _ ((xn : Int) % 256) _ q2.out (by omega) (by omega) (by rw [List.length_append]; omega)).mono ?_
  rintro _ w3 ⟨rfl, o3, q3, ho3, g3⟩
  go_wp2
  go_end0
  rw [HX.out, ← List.append_assoc]
  refine ⟨rfl, OutTo.step lo1 fr2.out ⟨o3, ?_, ho3, g3⟩⟩
  have e : sayB 1 ⟨xi, xn, xs, xt⟩ = [b8 xn] := rfl
  rw [e]
  first | exact q3 | (rw [Int.toNat_natCast] at q3; exact q3) | (rw [show ((xn : Int) % 256).toNat = xn % 256 from by omega, b8_eq (show xn % 256 % 256 = xn % 256 from by omega)] at q3; exact q3)
set_option maxRecDepth 100000 in
set_option maxHeartbeats 1000000 in
theorem put2_pany (b o : Nat) (l : List UInt8) (x : Pr) (w : World) (h : OutAt w b o l) (hk : (ruleOf x.id).kind = 2) (hn : x.n < 4294967296) (hss : x.s.length ≤ 9223372036854775807) (hst : x.t.length ≤ 9223372036854775807) (hl : l.length < 70368740000000) :
    Calls Try.prog 87 #[.pointer (some ⟨b, 0, none⟩), .agg #[.int .i64 x.id, .int .u32 x.n, .string ⟨x.s.toArray⟩, .string ⟨x.t.toArray⟩]] w fun e w' => e = .returned (.tuple #[]) ∧ OutTo w w' b o (l ++ oneB x) := by
  obtain ⟨h1, h42⟩ := kind_id x.id (by rw [hk]; decide)
  have hfr0 : Fr [b, o] w (w.alloc (.cells (prE x).toArray 116)) := (Fr.refl _ _).alloc _
  have hp := blk_new w (.cells (prE x).toArray 116)
  have h0 := h.fr (Fr.alloc (Fr.refl [] w) (.cells (prE x).toArray 116)) (by simp) (by simp)
  have hlt := h.lt
  have hlt0 : (w.alloc (.cells (prE x).toArray 116)).heap.size = w.heap.size + 1 := by simp
  obtain ⟨xi, xn, xs, xt⟩ := x
  dsimp only at hk h1 h42 hn hss hst
  have HX : Hid (oneB ⟨xi, xn, xs, xt⟩ = var xi.toNat ++ sayB 2 ⟨xi, xn, xs, xt⟩) := Lib.hid (by rw [← hk]; rfl)
  have hv4 := varB_len' xi.toNat
  replace h0 := Lib.hid h0
  replace hp := Lib.hid hp
  replace hfr0 := Lib.hid hfr0
  go_enter Try.func87, Try.ntmps87
  go_wp2_with fail
  refine (outvar_any b o l xi _ h0.out (by omega) (by omega) (by omega)).mono ?_
  rintro _ w1 ⟨rfl, o1, q1, ho1, g1⟩
  have fr1 := hfr0.out.trans g1 (by intro z hz h; exact h)
  have hp1 := g1.blk hp.out (by simp; omega)
  have z1 := g1.size
  have lo1 : o1 = o ∨ w.heap.size ≤ o1 := by omega
  replace q1 := Lib.hid q1
  replace fr1 := Lib.hid fr1
  clear g1
  obtain ⟨⟨c0, c1, c2, c3⟩, ⟨f0, f1, f2, f3⟩, hpl⟩ := blk4_facts hp1
  go_wp2_with fail
  refine (pkind_any _ _).mono ?_
  rintro _ w2 ⟨rfl, g2⟩
  rw [hk]
  have fr2 := Lib.hid (fr1.out.trans g2 (by simp))
  have q2 := Lib.hid (q1.out.fr g2 (by simp) (by simp))
  have hp2 := g2.blk hp1 (by simp)
  have z2 := g2.size
  have hlq := q1.out.lt
  clear g2 hp1 c0 c1 c2 c3 f0 f1 f2 f3
  obtain ⟨⟨c0, c1, c2, c3⟩, ⟨f0, f1, f2, f3⟩, hpl2⟩ := blk4_facts hp2
  clear hp2
  go_wp2_with fail
  refine (outtwo_any b o1 _ (xn : Int) _ q2.out (by omega) (by omega) (by rw [List.length_append]; omega)).mono ?_
  rintro _ w3 ⟨rfl, o3, q3, ho3, g3⟩
  go_wp2
  go_end0
  rw [HX.out, ← List.append_assoc]
  refine ⟨rfl, OutTo.step lo1 fr2.out ⟨o3, ?_, ho3, g3⟩⟩
  have e : sayB 2 ⟨xi, xn, xs, xt⟩ = two xn := rfl
  rw [e]
  first | exact q3 | (rw [Int.toNat_natCast] at q3; exact q3) | (rw [show ((xn : Int) % 256).toNat = xn % 256 from by omega, b8_eq (show xn % 256 % 256 = xn % 256 from by omega)] at q3; exact q3)
set_option maxRecDepth 100000 in
set_option maxHeartbeats 1000000 in
theorem put3_pany (b o : Nat) (l : List UInt8) (x : Pr) (w : World) (h : OutAt w b o l) (hk : (ruleOf x.id).kind = 3) (hn : x.n < 4294967296) (hss : x.s.length ≤ 9223372036854775807) (hst : x.t.length ≤ 9223372036854775807) (hl : l.length < 70368740000000) :
    Calls Try.prog 87 #[.pointer (some ⟨b, 0, none⟩), .agg #[.int .i64 x.id, .int .u32 x.n, .string ⟨x.s.toArray⟩, .string ⟨x.t.toArray⟩]] w fun e w' => e = .returned (.tuple #[]) ∧ OutTo w w' b o (l ++ oneB x) := by
  obtain ⟨h1, h42⟩ := kind_id x.id (by rw [hk]; decide)
  have hfr0 : Fr [b, o] w (w.alloc (.cells (prE x).toArray 116)) := (Fr.refl _ _).alloc _
  have hp := blk_new w (.cells (prE x).toArray 116)
  have h0 := h.fr (Fr.alloc (Fr.refl [] w) (.cells (prE x).toArray 116)) (by simp) (by simp)
  have hlt := h.lt
  have hlt0 : (w.alloc (.cells (prE x).toArray 116)).heap.size = w.heap.size + 1 := by simp
  obtain ⟨xi, xn, xs, xt⟩ := x
  dsimp only at hk h1 h42 hn hss hst
  have HX : Hid (oneB ⟨xi, xn, xs, xt⟩ = var xi.toNat ++ sayB 3 ⟨xi, xn, xs, xt⟩) := Lib.hid (by rw [← hk]; rfl)
  have hv4 := varB_len' xi.toNat
  replace h0 := Lib.hid h0
  replace hp := Lib.hid hp
  replace hfr0 := Lib.hid hfr0
  go_enter Try.func87, Try.ntmps87
  go_wp2_with fail
  refine (outvar_any b o l xi _ h0.out (by omega) (by omega) (by omega)).mono ?_
  rintro _ w1 ⟨rfl, o1, q1, ho1, g1⟩
  have fr1 := hfr0.out.trans g1 (by intro z hz h; exact h)
  have hp1 := g1.blk hp.out (by simp; omega)
  have z1 := g1.size
  have lo1 : o1 = o ∨ w.heap.size ≤ o1 := by omega
  replace q1 := Lib.hid q1
  replace fr1 := Lib.hid fr1
  clear g1
  obtain ⟨⟨c0, c1, c2, c3⟩, ⟨f0, f1, f2, f3⟩, hpl⟩ := blk4_facts hp1
  go_wp2_with fail
  refine (pkind_any _ _).mono ?_
  rintro _ w2 ⟨rfl, g2⟩
  rw [hk]
  have fr2 := Lib.hid (fr1.out.trans g2 (by simp))
  have q2 := Lib.hid (q1.out.fr g2 (by simp) (by simp))
  have hp2 := g2.blk hp1 (by simp)
  have z2 := g2.size
  have hlq := q1.out.lt
  clear g2 hp1 c0 c1 c2 c3 f0 f1 f2 f3
  obtain ⟨⟨c0, c1, c2, c3⟩, ⟨f0, f1, f2, f3⟩, hpl2⟩ := blk4_facts hp2
  clear hp2
  go_wp2_with fail
  refine (outfour_any b o1 _ (xn : Int) _ q2.out (by omega) (by omega) (by rw [List.length_append]; omega)).mono ?_
  rintro _ w3 ⟨rfl, o3, q3, ho3, g3⟩
  go_wp2
  go_end0
  rw [HX.out, ← List.append_assoc]
  refine ⟨rfl, OutTo.step lo1 fr2.out ⟨o3, ?_, ho3, g3⟩⟩
  have e : sayB 3 ⟨xi, xn, xs, xt⟩ = four xn := rfl
  rw [e]
  first | exact q3 | (rw [Int.toNat_natCast] at q3; exact q3) | (rw [show ((xn : Int) % 256).toNat = xn % 256 from by omega, b8_eq (show xn % 256 % 256 = xn % 256 from by omega)] at q3; exact q3)
set_option maxRecDepth 100000 in
set_option maxHeartbeats 1000000 in
theorem put4_pany (b o : Nat) (l : List UInt8) (x : Pr) (w : World) (h : OutAt w b o l) (hk : (ruleOf x.id).kind = 4) (hn : x.n < 4294967296) (hss : x.s.length ≤ 9223372036854775807) (hst : x.t.length ≤ 9223372036854775807) (hl : l.length < 70368740000000) :
    Calls Try.prog 87 #[.pointer (some ⟨b, 0, none⟩), .agg #[.int .i64 x.id, .int .u32 x.n, .string ⟨x.s.toArray⟩, .string ⟨x.t.toArray⟩]] w fun e w' => e = .returned (.tuple #[]) ∧ OutTo w w' b o (l ++ oneB x) := by
  obtain ⟨h1, h42⟩ := kind_id x.id (by rw [hk]; decide)
  have hfr0 : Fr [b, o] w (w.alloc (.cells (prE x).toArray 116)) := (Fr.refl _ _).alloc _
  have hp := blk_new w (.cells (prE x).toArray 116)
  have h0 := h.fr (Fr.alloc (Fr.refl [] w) (.cells (prE x).toArray 116)) (by simp) (by simp)
  have hlt := h.lt
  have hlt0 : (w.alloc (.cells (prE x).toArray 116)).heap.size = w.heap.size + 1 := by simp
  obtain ⟨xi, xn, xs, xt⟩ := x
  dsimp only at hk h1 h42 hn hss hst
  have HX : Hid (oneB ⟨xi, xn, xs, xt⟩ = var xi.toNat ++ sayB 4 ⟨xi, xn, xs, xt⟩) := Lib.hid (by rw [← hk]; rfl)
  have hv4 := varB_len' xi.toNat
  replace h0 := Lib.hid h0
  replace hp := Lib.hid hp
  replace hfr0 := Lib.hid hfr0
  go_enter Try.func87, Try.ntmps87
  go_wp2_with fail
  refine (outvar_any b o l xi _ h0.out (by omega) (by omega) (by omega)).mono ?_
  rintro _ w1 ⟨rfl, o1, q1, ho1, g1⟩
  have fr1 := hfr0.out.trans g1 (by intro z hz h; exact h)
  have hp1 := g1.blk hp.out (by simp; omega)
  have z1 := g1.size
  have lo1 : o1 = o ∨ w.heap.size ≤ o1 := by omega
  replace q1 := Lib.hid q1
  replace fr1 := Lib.hid fr1
  clear g1
  obtain ⟨⟨c0, c1, c2, c3⟩, ⟨f0, f1, f2, f3⟩, hpl⟩ := blk4_facts hp1
  go_wp2_with fail
  refine (pkind_any _ _).mono ?_
  rintro _ w2 ⟨rfl, g2⟩
  rw [hk]
  have fr2 := Lib.hid (fr1.out.trans g2 (by simp))
  have q2 := Lib.hid (q1.out.fr g2 (by simp) (by simp))
  have hp2 := g2.blk hp1 (by simp)
  have z2 := g2.size
  have hlq := q1.out.lt
  clear g2 hp1 c0 c1 c2 c3 f0 f1 f2 f3
  obtain ⟨⟨c0, c1, c2, c3⟩, ⟨f0, f1, f2, f3⟩, hpl2⟩ := blk4_facts hp2
  clear hp2
  go_wp2_with fail
  refine (outvar_any b o1 _ (xn : Int) _ q2.out (by omega) (by omega) (by rw [List.length_append]; omega)).mono ?_
  rintro _ w3 ⟨rfl, o3, q3, ho3, g3⟩
  go_wp2
  go_end0
  rw [HX.out, ← List.append_assoc]
  refine ⟨rfl, OutTo.step lo1 fr2.out ⟨o3, ?_, ho3, g3⟩⟩
  have e : sayB 4 ⟨xi, xn, xs, xt⟩ = var xn := rfl
  rw [e]
  first | exact q3 | (rw [Int.toNat_natCast] at q3; exact q3) | (rw [show ((xn : Int) % 256).toNat = xn % 256 from by omega, b8_eq (show xn % 256 % 256 = xn % 256 from by omega)] at q3; exact q3)
set_option maxRecDepth 100000 in
set_option maxHeartbeats 1000000 in
theorem put5_pany (b o : Nat) (l : List UInt8) (x : Pr) (w : World) (h : OutAt w b o l) (hk : (ruleOf x.id).kind = 5) (hn : x.n < 4294967296) (hss : x.s.length ≤ 9223372036854775807) (hst : x.t.length ≤ 9223372036854775807) (hl : l.length < 70368740000000) :
    Calls Try.prog 87 #[.pointer (some ⟨b, 0, none⟩), .agg #[.int .i64 x.id, .int .u32 x.n, .string ⟨x.s.toArray⟩, .string ⟨x.t.toArray⟩]] w fun e w' => e = .returned (.tuple #[]) ∧ OutTo w w' b o (l ++ oneB x) := by
  obtain ⟨h1, h42⟩ := kind_id x.id (by rw [hk]; decide)
  have hfr0 : Fr [b, o] w (w.alloc (.cells (prE x).toArray 116)) := (Fr.refl _ _).alloc _
  have hp := blk_new w (.cells (prE x).toArray 116)
  have h0 := h.fr (Fr.alloc (Fr.refl [] w) (.cells (prE x).toArray 116)) (by simp) (by simp)
  have hlt := h.lt
  have hlt0 : (w.alloc (.cells (prE x).toArray 116)).heap.size = w.heap.size + 1 := by simp
  obtain ⟨xi, xn, xs, xt⟩ := x
  dsimp only at hk h1 h42 hn hss hst
  have HX : Hid (oneB ⟨xi, xn, xs, xt⟩ = var xi.toNat ++ sayB 5 ⟨xi, xn, xs, xt⟩) := Lib.hid (by rw [← hk]; rfl)
  have hv4 := varB_len' xi.toNat
  replace h0 := Lib.hid h0
  replace hp := Lib.hid hp
  replace hfr0 := Lib.hid hfr0
  go_enter Try.func87, Try.ntmps87
  go_wp2_with fail
  refine (outvar_any b o l xi _ h0.out (by omega) (by omega) (by omega)).mono ?_
  rintro _ w1 ⟨rfl, o1, q1, ho1, g1⟩
  have fr1 := hfr0.out.trans g1 (by intro z hz h; exact h)
  have hp1 := g1.blk hp.out (by simp; omega)
  have z1 := g1.size
  have lo1 : o1 = o ∨ w.heap.size ≤ o1 := by omega
  replace q1 := Lib.hid q1
  replace fr1 := Lib.hid fr1
  clear g1
  obtain ⟨⟨c0, c1, c2, c3⟩, ⟨f0, f1, f2, f3⟩, hpl⟩ := blk4_facts hp1
  go_wp2_with fail
  refine (pkind_any _ _).mono ?_
  rintro _ w2 ⟨rfl, g2⟩
  rw [hk]
  have fr2 := Lib.hid (fr1.out.trans g2 (by simp))
  have q2 := Lib.hid (q1.out.fr g2 (by simp) (by simp))
  have hp2 := g2.blk hp1 (by simp)
  have z2 := g2.size
  have hlq := q1.out.lt
  clear g2 hp1 c0 c1 c2 c3 f0 f1 f2 f3
  obtain ⟨⟨c0, c1, c2, c3⟩, ⟨f0, f1, f2, f3⟩, hpl2⟩ := blk4_facts hp2
  clear hp2
  go_wp2_with fail
  refine (outdata_any b o1 _ xs _ q2.out hss (by rw [List.length_append]; omega)).mono ?_
  rintro _ w3 ⟨rfl, o3, q3, ho3, g3⟩
  go_wp2
  go_end0
  rw [HX.out, ← List.append_assoc]
  exact ⟨rfl, OutTo.step lo1 fr2.out ⟨o3, q3, ho3, g3⟩⟩
set_option maxRecDepth 100000 in
set_option maxHeartbeats 1000000 in
theorem put6_pany (b o : Nat) (l : List UInt8) (x : Pr) (w : World) (h : OutAt w b o l) (hk : (ruleOf x.id).kind = 6) (hn : x.n < 4294967296) (hss : x.s.length ≤ 9223372036854775807) (hst : x.t.length ≤ 9223372036854775807) (hl : l.length < 70368740000000) :
    Calls Try.prog 87 #[.pointer (some ⟨b, 0, none⟩), .agg #[.int .i64 x.id, .int .u32 x.n, .string ⟨x.s.toArray⟩, .string ⟨x.t.toArray⟩]] w fun e w' => e = .returned (.tuple #[]) ∧ OutTo w w' b o (l ++ oneB x) := by
  obtain ⟨h1, h42⟩ := kind_id x.id (by rw [hk]; decide)
  have hfr0 : Fr [b, o] w (w.alloc (.cells (prE x).toArray 116)) := (Fr.refl _ _).alloc _
  have hp := blk_new w (.cells (prE x).toArray 116)
  have h0 := h.fr (Fr.alloc (Fr.refl [] w) (.cells (prE x).toArray 116)) (by simp) (by simp)
  have hlt := h.lt
  have hlt0 : (w.alloc (.cells (prE x).toArray 116)).heap.size = w.heap.size + 1 := by simp
  obtain ⟨xi, xn, xs, xt⟩ := x
  dsimp only at hk h1 h42 hn hss hst
  have HX : Hid (oneB ⟨xi, xn, xs, xt⟩ = var xi.toNat ++ sayB 6 ⟨xi, xn, xs, xt⟩) := Lib.hid (by rw [← hk]; rfl)
  have hv4 := varB_len' xi.toNat
  replace h0 := Lib.hid h0
  replace hp := Lib.hid hp
  replace hfr0 := Lib.hid hfr0
  go_enter Try.func87, Try.ntmps87
  go_wp2_with fail
  refine (outvar_any b o l xi _ h0.out (by omega) (by omega) (by omega)).mono ?_
  rintro _ w1 ⟨rfl, o1, q1, ho1, g1⟩
  have fr1 := hfr0.out.trans g1 (by intro z hz h; exact h)
  have hp1 := g1.blk hp.out (by simp; omega)
  have z1 := g1.size
  have lo1 : o1 = o ∨ w.heap.size ≤ o1 := by omega
  replace q1 := Lib.hid q1
  replace fr1 := Lib.hid fr1
  clear g1
  obtain ⟨⟨c0, c1, c2, c3⟩, ⟨f0, f1, f2, f3⟩, hpl⟩ := blk4_facts hp1
  go_wp2_with fail
  refine (pkind_any _ _).mono ?_
  rintro _ w2 ⟨rfl, g2⟩
  rw [hk]
  have fr2 := Lib.hid (fr1.out.trans g2 (by simp))
  have q2 := Lib.hid (q1.out.fr g2 (by simp) (by simp))
  have hp2 := g2.blk hp1 (by simp)
  have z2 := g2.size
  have hlq := q1.out.lt
  clear g2 hp1 c0 c1 c2 c3 f0 f1 f2 f3
  obtain ⟨⟨c0, c1, c2, c3⟩, ⟨f0, f1, f2, f3⟩, hpl2⟩ := blk4_facts hp2
  clear hp2
  go_wp2_with fail
  refine (outdata_any b o1 _ xs _ q2.out hss (by rw [List.length_append]; omega)).mono ?_
  rintro _ w3 ⟨rfl, o3, q3, ho3, g3⟩
  go_wp2
  go_end0
  rw [HX.out, ← List.append_assoc]
  exact ⟨rfl, OutTo.step lo1 fr2.out ⟨o3, q3, ho3, g3⟩⟩
set_option maxRecDepth 100000 in
set_option maxHeartbeats 1000000 in
theorem put7_pany (b o : Nat) (l : List UInt8) (x : Pr) (w : World) (h : OutAt w b o l) (hk : (ruleOf x.id).kind = 7) (hn : x.n < 4294967296) (hss : x.s.length ≤ 9223372036854775807) (hst : x.t.length ≤ 9223372036854775807) (hl : l.length < 70368740000000) :
    Calls Try.prog 87 #[.pointer (some ⟨b, 0, none⟩), .agg #[.int .i64 x.id, .int .u32 x.n, .string ⟨x.s.toArray⟩, .string ⟨x.t.toArray⟩]] w fun e w' => e = .returned (.tuple #[]) ∧ OutTo w w' b o (l ++ oneB x) := by
  obtain ⟨h1, h42⟩ := kind_id x.id (by rw [hk]; decide)
  have hfr0 : Fr [b, o] w (w.alloc (.cells (prE x).toArray 116)) := (Fr.refl _ _).alloc _
  have hp := blk_new w (.cells (prE x).toArray 116)
  have h0 := h.fr (Fr.alloc (Fr.refl [] w) (.cells (prE x).toArray 116)) (by simp) (by simp)
  have hlt := h.lt
  have hlt0 : (w.alloc (.cells (prE x).toArray 116)).heap.size = w.heap.size + 1 := by simp
  obtain ⟨xi, xn, xs, xt⟩ := x
  dsimp only at hk h1 h42 hn hss hst
  have HX : Hid (oneB ⟨xi, xn, xs, xt⟩ = var xi.toNat ++ sayB 7 ⟨xi, xn, xs, xt⟩) := Lib.hid (by rw [← hk]; rfl)
  have hv4 := varB_len' xi.toNat
  replace h0 := Lib.hid h0
  replace hp := Lib.hid hp
  replace hfr0 := Lib.hid hfr0
  go_enter Try.func87, Try.ntmps87
  go_wp2_with fail
  refine (outvar_any b o l xi _ h0.out (by omega) (by omega) (by omega)).mono ?_
  rintro _ w1 ⟨rfl, o1, q1, ho1, g1⟩
  have fr1 := hfr0.out.trans g1 (by intro z hz h; exact h)
  have hp1 := g1.blk hp.out (by simp; omega)
  have z1 := g1.size
  have lo1 : o1 = o ∨ w.heap.size ≤ o1 := by omega
  replace q1 := Lib.hid q1
  replace fr1 := Lib.hid fr1
  clear g1
  obtain ⟨⟨c0, c1, c2, c3⟩, ⟨f0, f1, f2, f3⟩, hpl⟩ := blk4_facts hp1
  go_wp2_with fail
  refine (pkind_any _ _).mono ?_
  rintro _ w2 ⟨rfl, g2⟩
  rw [hk]
  have fr2 := Lib.hid (fr1.out.trans g2 (by simp))
  have q2 := Lib.hid (q1.out.fr g2 (by simp) (by simp))
  have hp2 := g2.blk hp1 (by simp)
  have z2 := g2.size
  have hlq := q1.out.lt
  clear g2 hp1 c0 c1 c2 c3 f0 f1 f2 f3
  obtain ⟨⟨c0, c1, c2, c3⟩, ⟨f0, f1, f2, f3⟩, hpl2⟩ := blk4_facts hp2
  clear hp2
  have hds := dataB_len xs
  go_upto_region 15 with (fail)
  have hwl : w.heap.size < w2.heap.size := hpl2
  have Y0 : Hid (w2.cell? ⟨w.heap.size, 2, none⟩ = some (.string ⟨xs.toArray⟩) ∧ w2.cell? ⟨w.heap.size, 3, none⟩ = some (.string ⟨xt.toArray⟩)) := Lib.hid ⟨c2, c3⟩
  have HL1 : Hid ((l ++ var xi.toNat).length < 70368744100000) := Lib.hid (by rw [List.length_append]; omega)
  have HL2 : Hid ((l ++ var xi.toNat ++ dataB xs).length < 70368744100000) := Lib.hid (by simp only [List.length_append]; omega)
  have HQ2 := Lib.hid (show OutAt w2.drew b o1 (l ++ var (xi.toNat)) from q2.out)
  clear c0 c1 c2 c3 f0 f1 f2 f3
  go_region_held3 (fun w' => w'.cell? ⟨w.heap.size, 2, none⟩ = some (.string ⟨xs.toArray⟩) ∧ w'.cell? ⟨w.heap.size, 3, none⟩ = some (.string ⟨xt.toArray⟩)) (first | exact Y2.out | exact Y1.out | exact Y0.out) (first
    | (go_at_call 42; (with_reducible refine (outdata_any b o1 (l ++ var xi.toNat) xs w2.drew HQ2.out hss HL1.out).mono ?_); rintro _ w3 ⟨rfl, o3, q3, ho3, g3⟩; have z3 : w2.heap.size ≤ w3.heap.size := g3.size; have lo3 : o3 = o1 ∨ w2.heap.size ≤ o3 := ho3; have Y1 := Lib.hid (show _ ∧ _ from ⟨g3.cell Y0.out.1 (by simp; omega), g3.cell Y0.out.2 (by simp; omega)⟩))
    | (go_at_call 42; (with_reducible refine (outdata_any b o3 (l ++ var xi.toNat ++ dataB xs) xt w3 q3 hst HL2.out).mono ?_); rintro _ w4 ⟨rfl, o4, q4, ho4, g4⟩; have Y2 := Lib.hid (show _ ∧ _ from ⟨g4.cell Y1.out.1 (by simp; omega), g4.cell Y1.out.2 (by simp; omega)⟩)))
  go_wp2
  go_end0
  rw [HX.out]
  have e : sayB 7 ⟨xi, xn, xs, xt⟩ = dataB xs ++ dataB xt := rfl
  rw [e, ← List.append_assoc, ← List.append_assoc]
  refine ⟨rfl, OutTo.step lo1 fr2.out ?_⟩
  exact OutTo.step lo3 ((Fr.refl [b, o1] w2).drew.trans g3 (by intro z hz h; exact h)) ⟨o4, q4, ho4, g4⟩
theorem putp_any (b o : Nat) (l : List UInt8) (x : Pr) (w : World) (h : OutAt w b o l) (hk : 0 < (ruleOf x.id).kind) (hn : x.n < 4294967296) (hss : x.s.length ≤ 9223372036854775807) (hst : x.t.length ≤ 9223372036854775807) (hl : l.length < 70368740000000) :
    Calls Try.prog 87 #[.pointer (some ⟨b, 0, none⟩), .agg #[.int .i64 x.id, .int .u32 x.n, .string ⟨x.s.toArray⟩, .string ⟨x.t.toArray⟩]] w fun e w' => e = .returned (.tuple #[]) ∧ OutTo w w' b o (l ++ oneB x) := by
  have h7 := (ruleOf_cases x.id).2.2.1
  by_cases k1 : (ruleOf x.id).kind = 1
  · exact put1_pany b o l x w h k1 hn hss hst hl
  by_cases k2 : (ruleOf x.id).kind = 2
  · exact put2_pany b o l x w h k2 hn hss hst hl
  by_cases k3 : (ruleOf x.id).kind = 3
  · exact put3_pany b o l x w h k3 hn hss hst hl
  by_cases k4 : (ruleOf x.id).kind = 4
  · exact put4_pany b o l x w h k4 hn hss hst hl
  by_cases k5 : (ruleOf x.id).kind = 5
  · exact put5_pany b o l x w h k5 hn hss hst hl
  by_cases k6 : (ruleOf x.id).kind = 6
  · exact put6_pany b o l x w h k6 hn hss hst hl
  by_cases k7 : (ruleOf x.id).kind = 7
  · exact put7_pany b o l x w h k7 hn hss hst hl
  omega
set_option maxRecDepth 100000 in
set_option maxHeartbeats 2000000 in
theorem puts_any (b o : Nat) (l0 : List UInt8) (v : Value) (l : List Pr) (w : World) (h : OutAt w b o l0) (hv : View w v l.length (l.flatMap prE)) (hl : l.length ≤ 1000) (hok : ∀ x ∈ l, x.n < 4294967296 ∧ x.s.length ≤ 9223372036854775807 ∧ x.t.length ≤ 9223372036854775807) (hl0 : l0.length < 1000000000) :
    Calls Try.prog 66 #[.pointer (some ⟨b, 0, none⟩), v] w fun e w' => e = .returned (.tuple #[]) ∧ OutTo w w' b o (l0 ++ (var (putsB l).length ++ putsB l)) := by
  have hn := OutAt.new w
  have hfr0 : Fr [] w (w.alloc (.cells #[.slice none 0 0] 118)) := (Fr.refl _ _).alloc _
  have hbl := h.lt
  have HC : Hid (0 < l.length → ∃ bb off c, v = .slice (some ⟨bb, off, none⟩) l.length c ∧ bb < w.heap.size ∧ ∀ (i : Nat) (hi : i < l.length) j u, (prE l[i])[j]? = some u → w.cell? ⟨bb, off + i * 4 + j, none⟩ = some u) := Lib.hid (fun hl => hv.at prE_len (by decide) hl)
  obtain ⟨A, c, rfl, _⟩ := hv
  have HK := Lib.hid hok
  have H := Lib.hid h
  clear hok h
  go_enter Try.func66, Try.ntmps66
  go_wp2
  go_loopw [9] (fun i wr => ∃ (k o' : Nat), i = .int .i64 k ∧ k ≤ l.length ∧ OutAt wr w.heap.size o' (putsB (l.take k)) ∧ w.heap.size ≤ o' ∧ Fr [] w wr) (fun i _ => l.length - (intOf i).toNat)
  case atStart => exact ⟨0, w.heap.size, rfl, by omega, hn, Nat.le_refl _, hfr0⟩
  case round =>
    obtain ⟨k, o', rfl, hk, hout, hoo, hfr⟩ := hrel
    have HO := Lib.hid hout
    have HF := Lib.hid hfr
    have hpl := putsB_len (l.take k)
    have htl : (l.take k).length ≤ 1000 := Nat.le_trans (List.length_take_le _ _) (by omega)
    clear hout hfr hn hfr0
    by_cases hlt : k < l.length
    · obtain ⟨bb, off, c', hsl, hbb, hc⟩ := HC.out (by omega)
      cases hsl
      have hcell := hc k hlt
      have hok := HK.out l[k] (List.getElem_mem hlt)
      have hsn : Hid (putsB (l.take (k + 1)) = putsB (l.take k) ++ if 0 < (ruleOf l[k].id).kind then oneB l[k] else []) := Lib.hid (by rw [List.take_succ_eq_append_getElem hlt, putsB_snoc])
      generalize l[k] = x at *
      obtain ⟨hx1, hx2, hx3⟩ := hok
      have HX := Lib.hid (show 0 < (ruleOf x.id).kind → 1 ≤ x.id from fun h => (kind_id x.id (by omega)).1)
      have HPX := fun W (o' : Nat) (ll : List UInt8) (hh : OutAt W w.heap.size o' ll) (h0 : 0 < (ruleOf x.id).kind) (h2 : ll.length < 70368740000000) => putp_any w.heap.size o' ll x W hh h0 hx1 hx2 hx3 h2
      replace HPX := Lib.hid HPX
      obtain ⟨xi, xn, xs, xt⟩ := x
      have c0 : wr.cell? ⟨bb, off + k * 4, none⟩ = some (.int .i64 xi) := HF.out.cell (hcell 0 _ rfl) (by simp)
      have c1 : wr.cell? ⟨bb, off + k * 4 + 1, none⟩ = some (.int .u32 xn) := HF.out.cell (hcell 1 _ rfl) (by simp)
      have c2 : wr.cell? ⟨bb, off + k * 4 + 2, none⟩ = some (.string ⟨xs.toArray⟩) := HF.out.cell (hcell 2 _ rfl) (by simp)
      have c3 : wr.cell? ⟨bb, off + k * 4 + 3, none⟩ = some (.string ⟨xt.toArray⟩) := HF.out.cell (hcell 3 _ rfl) (by simp)
      clear hcell hc hx1 hx2 hx3
      dsimp only at hsn HX
      have hp := Lib.hid (blk_new wr (.cells #[.int .i64 xi, .int .u32 xn, .string ⟨xs.toArray⟩, .string ⟨xt.toArray⟩] 116))
      have fr1 := Lib.hid (HF.out.alloc (.cells #[.int .i64 xi, .int .u32 xn, .string ⟨xs.toArray⟩, .string ⟨xt.toArray⟩] 116))
      have q1 := Lib.hid (HO.out.fr ((Fr.refl [] wr).alloc (.cells #[.int .i64 xi, .int .u32 xn, .string ⟨xs.toArray⟩, .string ⟨xt.toArray⟩] 116)) (by simp) (by simp))
      by_cases h0 : 0 < xi
      rotate_left
      · have hs := Lib.hid (show putsB (l.take (k + 1)) = putsB (l.take k) from by
          rw [hsn.out, if_neg (fun h => by have := HX.out h; omega), List.append_nil])
        go_wp2
        go_roundw
        case rel => exact ⟨k + 1, o', by go_num, by omega, by rw [hs.out]; exact q1.out, hoo, fr1.out⟩
        case measure => simp [intOf]; omega
      go_wp2_with fail
      refine (pkind_any _ _).mono ?_
      rintro _ w2 ⟨rfl, g2⟩
      have fr2 := Lib.hid (fr1.out.trans g2 (by simp))
      have q2 := Lib.hid (q1.out.fr g2 (by simp) (by simp))
      have hp2 := g2.blk hp.out (by simp)
      clear g2 c0 c1 c2 c3
      obtain ⟨⟨c0, c1, c2, c3⟩, ⟨f0, f1, f2, f3⟩, _⟩ := blk4_facts hp2
      by_cases hkd : 0 < (ruleOf xi).kind
      · have hs := Lib.hid (show putsB (l.take (k + 1)) = putsB (l.take k) ++ oneB ⟨xi, xn, xs, xt⟩ from by rw [hsn.out, if_pos hkd])
        go_wp2_with fail
        refine (HPX.out _ o' _ q2.out hkd (by omega)).mono ?_
        rintro _ w3 ⟨rfl, o3, q3, ho3, g3⟩
        have fr3 := Lib.hid (fr2.out.trans g3 (by intro z hz h; simp at h; omega))
        have z2 := fr2.out.size
        go_wp2
        go_roundw
        case rel => exact ⟨k + 1, o3, by go_num, by omega, by rw [hs.out]; exact q3, by omega, fr3.out⟩
        case measure => simp [intOf]; omega
      · have hs := Lib.hid (show putsB (l.take (k + 1)) = putsB (l.take k) from by rw [hsn.out, if_neg hkd, List.append_nil])
        go_wp2
        go_roundw
        case rel => exact ⟨k + 1, o', by go_num, by omega, by rw [hs.out]; exact q2.out, hoo, fr2.out⟩
        case measure => simp [intOf]; omega
    · obtain rfl : k = l.length := by omega
      rw [List.take_length] at hpl HO
      have hout := HO.out
      go_wp2_with fail
      refine (outlen_any _ _ _ _ hout).mono ?_
      rintro _ w2 ⟨rfl, rfl⟩
      go_wp2_with fail
      refine (outvar_any b o l0 _ _ (H.out.fr HF.out (by simp) (by simp)) (by omega) (by omega) (by omega)).mono ?_
      rintro _ w2 ⟨rfl, o2, q2, ho2, g2⟩
      rw [Int.toNat_natCast] at q2
      have hout2 := hout.fr g2 (by simp; omega) (by simp; omega)
      have hv4 := varB_len' (putsB l).length
      go_wp2_with fail
      refine (outtext_any _ _ _ _ hout2).mono ?_
      rintro _ w3 ⟨rfl, rfl⟩
      go_wp2_with fail
      refine (outraw_any b o2 _ (putsB l) _ q2 (by rw [List.length_append]; omega)).mono ?_
      rintro _ w3 ⟨rfl, o3, q3, ho3, g3⟩
      go_wp2
      go_end0
      have zr := HF.out.size
      refine ⟨rfl, o3, by rw [← List.append_assoc]; exact q3, ?_, ?_⟩
      · have := g2.size; omega
      · refine (HF.out.mono (by simp)).trans (g2.trans g3 ?_ (S := [b, o])) ?_
        · intro z hz h; simp at h ⊢; omega
        · intro z hz h; exact h
end Go.Proofs.Ythioageiebchlaa
