/- The walk of the law PropElse. -/
import Derived.Test.YtlnlolhihodgoaaPropBack
import Derived.Test.YtlnlolhihodgoaaAppend
import Derived.Lib.SmallJoins
import Derived.Deep.DeepCutAuto
import Derived.Deep.DrawnRows
namespace Go.Proofs.Ytlnlolhihodgoaa
open Go.RowKit
theorem prE_one (x : Pr) : ∀ u ∈ prE x, u.oneCell' = true := by intro u hu; simp [prE] at hu; rcases hu with rfl | rfl | rfl | rfl <;> rfl
theorem cells4 {w w' : World} {B : Nat} {v0 v1 v2 v3 : Value} (h : Fr [] w w') (c0 : w.cell? ⟨B, 0, none⟩ = some v0) (c1 : w.cell? ⟨B, 1, none⟩ = some v1) (c2 : w.cell? ⟨B, 2, none⟩ = some v2) (c3 : w.cell? ⟨B, 3, none⟩ = some v3) :
    w'.cell? ⟨B, 0, none⟩ = some v0 ∧ w'.cell? ⟨B, 1, none⟩ = some v1 ∧ w'.cell? ⟨B, 2, none⟩ = some v2 ∧ w'.cell? ⟨B, 3, none⟩ = some v3 :=
  ⟨h.cell c0 (by simp), h.cell c1 (by simp), h.cell c2 (by simp), h.cell c3 (by simp)⟩
theorem cells4' {S : List Nat} {w w' : World} {B : Nat} {v0 v1 v2 v3 : Value} (h : Fr S w w') (hB : B ∉ S) (c : w.cell? ⟨B, 0, none⟩ = some v0 ∧ w.cell? ⟨B, 1, none⟩ = some v1 ∧ w.cell? ⟨B, 2, none⟩ = some v2 ∧ w.cell? ⟨B, 3, none⟩ = some v3) :
    w'.cell? ⟨B, 0, none⟩ = some v0 ∧ w'.cell? ⟨B, 1, none⟩ = some v1 ∧ w'.cell? ⟨B, 2, none⟩ = some v2 ∧ w'.cell? ⟨B, 3, none⟩ = some v3 :=
  ⟨h.cell c.1 hB, h.cell c.2.1 hB, h.cell c.2.2.1 hB, h.cell c.2.2.2 hB⟩
theorem nilEqE (w : World) : (binOp .eql 56 (.slice none 0 0) (.slice none 0 0)).run Try.prog w = .ok (.bool true) w := by kernel_rfl
section
open Go.ChangeShapes Go.WideShapes Go.Deep
set_option maxRecDepth 100000 in
/-- A property, handed in. -/
theorem open_Pr {H : Type} {enc : TypeId × Value → H} {w : World} {base b0 : Nat} {spare : Nat → Bool} {held : Bool} {r : Reach} {v : Value} {d : DataW H} {ps : List MemPlace} (hv : Value.okWide Try.prog w r b0 68 v) (h : DataW.Trod enc Try.prog w base spare held 68 v d ps) :
    ∃ x : Pr, v = prV x ∧ x.n < 4294967296 ∧ x.s.length ≤ 9223372036854775807 ∧ x.t.length ≤ 9223372036854775807 := by
  obtain ⟨v0, v1, v2, v3, y0, y1, y2, y3, n, rfl, _, _, h0, h1, h2, h3⟩ := Go.Joins.open_agg4 Try.underlying68 (by kernel_rfl) (by kernel_rfl) hv h
  obtain ⟨k, e0, _, _⟩ := DataW.trod_int Try.underlying3 h0
  obtain ⟨n, e1, _, wn⟩ := DataW.trod_int Try.underlying66 h1
  obtain ⟨s, e2, _, hs⟩ := DataW.trod_string Try.underlying9 h2
  obtain ⟨u, e3, _, hu⟩ := DataW.trod_string Try.underlying9 h3
  obtain ⟨l, rfl, hl⟩ := str_list s
  obtain ⟨m, rfl, hm⟩ := str_list u
  obtain ⟨g0, g1⟩ := wf_u32 wn
  obtain ⟨N, rfl⟩ := Int.eq_ofNat_of_zero_le g0
  simp only [List.cons.injEq, and_true] at e0 e1 e2 e3
  unfold maxLen at hs hu
  subst e0 e1 e2 e3
  exact ⟨⟨k, N, l, m⟩, rfl, by show N < _; omega, by show l.length ≤ _; omega, by show m.length ≤ _; omega⟩
end
set_option maxRecDepth 100000 in
set_option maxHeartbeats 4000000 in
theorem propElse_walk (A : Option Addr) (n cc : Nat) (l0 : List Pr) (kind : Int) (isWill : Bool) (p : Pr) (wk : (Lit.int .i64 kind).wf = true) (hp : p.n < 4294967296 ∧ p.s.length ≤ 9223372036854775807 ∧ p.t.length ≤ 9223372036854775807) (w : World) (hH : n = l0.length ∧ n ≤ 9223372036854775807 ∧ View w (.slice A n cc) l0.length (l0.flatMap prE) ∧ ∀ x ∈ l0, x.n < 4294967296 ∧ x.s.length ≤ 9223372036854775807 ∧ x.t.length ≤ 9223372036854775807) :
    Calls Try.prog 9 #[.slice A n cc, .int .i64 kind, .bool isWill, prV p] w fun e w' => e = .returned (.bool true) ∧ Fr [] w w' := by
  obtain ⟨rfl, hn, hv, hok⟩ := hH
  obtain ⟨i0, hi, hz0, hz1, hz2⟩ := info_parts Try.infoPr
  obtain ⟨hO, hR8, hRok⟩ := right_all kind isWill l0 hok
  obtain ⟨hO1, hQ8, hQok⟩ := right_all kind isWill [p] (by intro x hx; simp at hx; subst hx; exact hp)
  have HQ : Hid (rightGo kind isWill (fewR [p]) = if mayB p.id kind isWill = true then [rightP (cutP p)] else []) := Lib.hid (by
    show (if keepB kind isWill [] (cutP p) = true then [] ++ [rightP (cutP p)] else []) = _
    have : keepB kind isWill [] (cutP p) = mayB p.id kind isWill := by simp [keepB, getR, cutP]
    rw [this]; rfl)
  have HV := Lib.hid hv
  have HO := Lib.hid hok
  have HP := Lib.hid hp
  have HL := Lib.hid (And.intro hO (And.intro hR8 hRok))
  have _ := wk
  have hb0 := Lib.hid (blk_new w (.cells (prE p).toArray 68))
  have hf0 : Fr [] w (w.alloc (.cells (prE p).toArray 68)) := (Fr.refl _ _).alloc _
  clear hv hok hRok hO hp hO1 hQ8 hQok hR8
  obtain ⟨pi, pn, ps, pt⟩ := p
  unfold prV
  dsimp only at HQ
  go_enter Try.func9, Try.ntmps9
  go_wp2_with fail
  refine (awake3_any _).mono ?_
  rintro _ w1 ⟨rfl, g1⟩
  have hb1 := g1.blk hb0.out (by simp)
  have hf1 := hf0.trans g1 (by simp)
  obtain ⟨⟨c0, c1, c2, c3⟩, ⟨f0, f1, f2, f3⟩, hbl⟩ := blk4_facts hb1
  have hb1 := Lib.hid hb1
  clear hb0 hf0 g1
  go_wp2_with fail
  refine (rkind_any _ _).mono ?_
  rintro _ _ ⟨rfl, rfl⟩
  by_cases hk0 : (ruleOf pi).kind = 0
  · rw [hk0]
    go_wp2_with fail
    refine (awake3_any _).mono ?_
    rintro _ w2 ⟨rfl, g2⟩
    go_wp2
    go_ret
    exact ⟨rfl, hf1.trans g2 (by simp)⟩
  have hke : ((ruleOf pi).kind == 0) = false := by simpa using hk0
  replace hk0 := Lib.hid hk0
  go_wp2_with fail
  refine (right_any _ l0 kind isWill _ (HV.out.fr hf1 (by simp)) hn HO.out).mono ?_
  rintro _ w2 ⟨v, rfl, own2, g2⟩
  have hb2 := g2.blk hb1.out (by simp)
  have hf2 := hf1.trans g2 (by simp)
  obtain ⟨⟨c0, c1, c2, c3⟩, ⟨f0, f1, f2, f3⟩, hbl⟩ := blk4_facts hb2
  have z2 := hf2.size
  clear hb1 hf1 g2 HV HO
  go_wp2_with fail
  refine (right_any _ [⟨pi, pn, ps, pt⟩] kind isWill _ (view_blk _ w2.heap.size [⟨pi, pn, ps, pt⟩] 1 rfl _ rfl 68 (blk_new w2 _)) (by simp) (by intro x hx; simp at hx; subst hx; exact HP.out)).mono ?_
  rintro _ w3 ⟨v3, rfl, own3, g3⟩
  have f3' := (hf2.alloc (.cells (List.flatMap prE [⟨pi, pn, ps, pt⟩]).toArray 68)).trans g3 (by simp)
  have hb3 := Lib.hid ((blk_old hb2 (.cells (List.flatMap prE [⟨pi, pn, ps, pt⟩]).toArray 68)))
  have hb3 := Lib.hid (g3.blk hb3.out (by simp))
  have ownx := Lib.hid (own_fr g3 (own2.alloc (.cells (List.flatMap prE [⟨pi, pn, ps, pt⟩]).toArray 68)) (by simp))
  have hlow := Lib.hid (fun k hk => (own2.lt k hk).1)
  have hf3 := Lib.hid f3'
  clear own2 hb2 hf2 f3' g3
  obtain ⟨⟨c0, c1, c2, c3⟩, ⟨f0, f1, f2, f3⟩, hbl⟩ := blk4_facts hb3.out
  rw [HQ.out] at own3
  generalize rightGo kind isWill (fewR l0) = R at *
  cases hm : mayB pi kind isWill
  · rw [hm] at own3
    rw [if_neg (by simp)] at own3
    obtain ⟨A3, cp3, rfl⟩ := own_shape own3
    have HT := Lib.hid (fun hl => else_form HL.out.1 (cutP ⟨pi, pn, ps, pt⟩) hk0.out hm hl [])
    clear own3
    go_upto_region 12 with (fail)
    have HB := hb3
    have hqn := Lib.hid HP.out.1
    have hqs := Lib.hid HP.out.2.1
    have hqt := Lib.hid HP.out.2.2
    clear c0 c1 c2 c3 f0 f1 f2 f3 hbl
    obtain ⟨⟨c0, c1, c2, c3⟩, ⟨f0, f1, f2, f3⟩, hbl⟩ := blk4_facts HB.out
    go_cut [] (fun wx => wx.heap[w.heap.size]? = some (.cells (prE (cutP ⟨pi, pn, ps, pt⟩)).toArray 68 (0, 0)) ∧ Fr [w.heap.size] w3 wx)
    case first =>
      go_region_with ((first | (go_at_call 13; (with_reducible refine (cut_any ps 20 _ hqs.out (by decide)).mono ?_); rintro _ _ ⟨rfl, rfl⟩) | (go_at_call 13; (with_reducible refine (cut_any pt 20 _ hqt.out (by decide)).mono ?_); rintro _ _ ⟨rfl, rfl⟩)))
      all_goals go_wp2_with fail
      all_goals go_meet
      all_goals first | exact ⟨blk_set (blk_set HB.out 2 _) 3 _, ((((Fr.refl _ _).setCell (Or.inr (by simp)) _).setCell (Or.inr (by simp)) _).drew)⟩ | exact ⟨blk_set (blk_set HB.out 3 _) 2 _, ((((Fr.refl _ _).setCell (Or.inr (by simp)) _).setCell (Or.inr (by simp)) _).drew)⟩
    case rest =>
      obtain ⟨hb4, g4⟩ := hcut
      have own4 := own_fr g4 ownx.out (by intro k hk h; have := hlow.out k hk; simp at h; omega)
      have hf4 := (hf3.out.trans g4 (by intro x hx h; simp at h; omega)).alloc (.cells #[.slice none 0 0] 73)
      have hOB : w.heap.size < wc.heap.size := blk_lt hb4
      have hQl : (cutP ⟨pi, pn, ps, pt⟩).s.length ≤ 20 ∧ (cutP ⟨pi, pn, ps, pt⟩).t.length ≤ 20 := ⟨List.length_take_le _ _, List.length_take_le _ _⟩
      have hQn : (cutP ⟨pi, pn, ps, pt⟩).n < 4294967296 := hqn.out
      generalize cutP ⟨pi, pn, ps, pt⟩ = q at *
      obtain ⟨qi, qn, qs, qt⟩ := q
      dsimp only at hQl hQn
      replace hb4 := blk_old hb4 (.cells #[.slice none 0 0] 73)
      have hno := OutAt.new wc
      have ov := (own_view own4).fr ((Fr.refl [] wc).alloc (.cells #[.slice none 0 0] 73)) (by simp)
      clear c0 c1 c2 c3 f0 f1 f2 f3 hbl own4 g4
      go_upto_region 14 with (fail)
      obtain ⟨y, hy⟩ : ∃ y, wc.alloc (.cells #[.slice none 0 0] 73) = y := ⟨_, rfl⟩
      have hyo : wc.heap.size < y.heap.size := by rw [← hy]; simp
      rw [hy] at hb4 hno ov hf4 ⊢
      generalize wc.heap.size = OB at *
      obtain ⟨⟨c0, c1, c2, c3⟩, ⟨f0, f1, f2, f3⟩, hbl⟩ := blk4_facts hb4
      have HQ := Lib.hid hb4
      have OV := Lib.hid ov
      have HN := Lib.hid hno
      have hRl : R.length ≤ 8 := HL.out.2.1
      have HOK : Hid (∀ x ∈ R ++ [(⟨qi, qn, qs, qt⟩ : Pr)], x.n < 4294967296 ∧ x.s.length ≤ 9223372036854775807 ∧ x.t.length ≤ 9223372036854775807) := Lib.hid (by intro x hx; rcases List.mem_append.1 hx with hx | hx; (have := HL.out.2.2 x hx; omega); (simp at hx; subst hx; dsimp only; omega))
      have HF := Lib.hid hf4
      clear hy ov hno hf4 hb4
      go_cut [14] (fun s14 wx => s14 = .pointer (some ⟨OB, 0, none⟩) ∧ ∃ o, OutAt wx OB o (var (putsB (R ++ [⟨qi, qn, qs, qt⟩])).length ++ putsB (R ++ [⟨qi, qn, qs, qt⟩])) ∧ Fr [] w wx)
      case first =>
        go_region_held3 (fun w' => w'.cell? ⟨w.heap.size, 0, none⟩ = some (.int .i64 qi) ∧ w'.cell? ⟨w.heap.size, 1, none⟩ = some (.int .u32 (qn : Int)) ∧ w'.cell? ⟨w.heap.size, 2, none⟩ = some (.string ⟨qs.toArray⟩) ∧ w'.cell? ⟨w.heap.size, 3, none⟩ = some (.string ⟨qt.toArray⟩)) (first | go_keep | exact kk) (first | (refine step_first y (.tmp 67) (.tmp 68) 56 68 i0 (.agg #[.int .i64 0, .int .u32 0, .string ⟨#[]⟩, .string ⟨#[]⟩]) 4 48 Try.underlying56 hi hz0 hz1 hz2 rfl (by decide) (by decide) prE prE_len prE_one R (by omega) _ OV.out (by rfl) (by rfl) _ (by rfl) (by rfl) (by repeat (first | exact Fr.refl _ _ | (with_reducible apply Fr.alloc) | (with_reducible apply Fr.drew) | (with_reducible apply Fr.drewN) | (with_reducible refine Fr.setCell ?_ (by simp) _))) (by first | exact blk_new _ _ | exact blk_old (blk_new _ _) _ | exact blk_at1 _ _ _) (by simp) ?_; intro v5 y5 own5 fr5 k5; have kk := cells4 fr5 c0 c1 c2 c3; (first | have kP5 : y5.heap[y.heap.size + 1]? = some (.cells #[.int .i64 qi, .int .u32 (qn : Int), .string ⟨qs.toArray⟩, .string ⟨qt.toArray⟩] 68 (0, 0)) := k5 _ _ (blk_at1 _ _ _) (by simp) | have kP5 : y5.heap[y.heap.size]? = some (.cells #[.int .i64 qi, .int .u32 (qn : Int), .string ⟨qs.toArray⟩, .string ⟨qt.toArray⟩] 68 (0, 0)) := k5 _ _ (blk_old (blk_new _ _) _) (by simp) | skip)) | (refine step_second y (.tmp 69) (.tmp 71) 56 68 i0 (.agg #[.int .i64 0, .int .u32 0, .string ⟨#[]⟩, .string ⟨#[]⟩]) 4 48 Try.underlying56 hi hz0 hz1 hz2 rfl (by decide) (by decide) prE prE_len prE_one R (by omega) ⟨qi, qn, qs, qt⟩ _ (by rfl) (by rfl) (by rfl) _ _ (by rfl) (by first | exact fr5 | exact fr5.alloc _) (by first | exact own5 | exact own5.alloc _) (by first | exact kP5 | exact blk_new _ _) rfl ?_; intro v6 y6 own6 fr6; have kk := cells4 fr6 c0 c1 c2 c3) | (go_at_call 37; refine (puts_any OB OB [] _ (R ++ [⟨qi, qn, qs, qt⟩]) _ (HN.out.fr fr6 (by simp) (by simp)) (own_view own6) (by rw [List.length_append]; simp; omega) HOK.out (by simp)).mono ?_; rintro _ y7 ⟨rfl, o7, q7, ho7, g7⟩; have kk := cells4' g7 (by simp; omega) (cells4 fr6 c0 c1 c2 c3)))
        all_goals go_wp2_with fail
        all_goals go_meet
        all_goals exact ⟨rfl, o7, by rw [List.nil_append] at q7; exact q7, (HF.out.trans fr6 (by simp)).trans g7 (by intro x hx h; simp at h; omega)⟩
      case rest =>
        obtain ⟨rfl, o5, q5, hf5⟩ := hcut
        have hpl := putsB_small (R ++ [⟨qi, qn, qs, qt⟩]) (by intro x hx; rcases List.mem_append.1 hx with hx | hx; (exact (HL.out.2.2 x hx).2); (simp at hx; subst hx; exact hQl))
        rw [List.length_append, List.length_singleton] at hpl
        have hvl := varB_len' (putsB (R ++ [⟨qi, qn, qs, qt⟩])).length
        replace HT := Lib.hid (HT.out (by omega))
        rw [List.append_nil] at HT
        generalize putsB (R ++ [⟨qi, qn, qs, qt⟩]) = B at *
        generalize hV : var B.length = V at *
        have hBl : (⟨V ++ B, 0⟩ : Rd).s.length ≤ 1000000 := by simp only [List.length_append]; omega
        clear c0 c1 c2 c3 f0 f1 f2 f3 hbl OV HN HOK hV
        go_wp2_with fail
        refine (outtext_any _ _ _ _ q5).mono ?_
        rintro _ _ ⟨rfl, rfl⟩
        go_wp2_with fail
        refine (over_any _ _).mono ?_
        rintro _ w6 ⟨rfl, h6, g6⟩
        have hf6 := hf5.trans g6 (by simp)
        have z6 := hf5.size
        clear g6 hf5 q5
        go_wp2_with fail
        refine (ptake_any wc.heap.size _ kind isWill _ h6 hBl).mono ?_
        rw [HT.out]
        rintro _ w7 ⟨v7, rfl, _, hnil, h7, g7⟩
        have hf7 := hf6.trans g7 (by intro x hx h; simp at h; omega)
        obtain rfl := hnil (by trivial)
        have heqn : ∀ w, (binOp .eql 56 (.slice none 0 0) (.slice none 0 0)).run Try.prog w = .ok (.bool true) w := fun w => nilEqE w
        clear g7 h6 hf6 hnil
        go_wp2_with fail
        refine (err_any _ _ _ h7).mono ?_
        rintro _ _ ⟨rfl, rfl⟩
        go_wp2
        go_ret
        exact ⟨rfl, hf7⟩
  · rw [hm] at own3
    rw [if_pos rfl] at own3
    have hRd := Lib.hid (fun q (hq : rightP (cutP ⟨pi, pn, ps, pt⟩) = q) => (show q.id = pi ∧ q.n < 4294967296 ∧ q.s.length ≤ 20 ∧ q.t.length ≤ 20 from by subst hq; exact ⟨rfl, rightP_small _ (List.length_take_le _ _) (List.length_take_le _ _)⟩))
    generalize hq0 : rightP (cutP ⟨pi, pn, ps, pt⟩) = q0 at own3 HQ
    have hRd := hRd.out q0 hq0
    obtain ⟨qi, qn, qs, qt⟩ := q0
    obtain ⟨rfl, hq1, hq2, hq3⟩ := hRd
    dsimp only at hq1 hq2 hq3
    have hqn := Lib.hid hq1
    have hqs : Hid (qs.length ≤ 9223372036854775807) := Lib.hid (by omega)
    have hqt : Hid (qt.length ≤ 9223372036854775807) := Lib.hid (by omega)
    obtain ⟨A3, cp3, rfl⟩ := own_shape own3
    obtain ⟨bb, off, c', hsl, hbb, hc⟩ := (own_view own3).at prE_len (by decide) (by simp)
    cases hsl
    have hcell := hc 0 (by simp)
    have d0 : w3.cell? ⟨bb, off, none⟩ = some (.int .i64 qi) := by simpa using hcell 0 _ rfl
    have d1 : w3.cell? ⟨bb, off + 1, none⟩ = some (.int .u32 qn) := by simpa using hcell 1 _ rfl
    have d2 : w3.cell? ⟨bb, off + 2, none⟩ = some (.string ⟨qs.toArray⟩) := by simpa using hcell 2 _ rfl
    have d3 : w3.cell? ⟨bb, off + 3, none⟩ = some (.string ⟨qt.toArray⟩) := by simpa using hcell 3 _ rfl
    have hb5 := Lib.hid (blk4_set hb3.out (.int .i64 qi) (.int .u32 qn) (.string ⟨qs.toArray⟩) (.string ⟨qt.toArray⟩))
    have g5 : Fr [w.heap.size] w3 (set4 w3 w.heap.size (.int .i64 qi) (.int .u32 qn) (.string ⟨qs.toArray⟩) (.string ⟨qt.toArray⟩)) := by
      unfold set4
      exact ((((Fr.refl _ _).setCell (Or.inr (by simp)) _).setCell (Or.inr (by simp)) _).setCell (Or.inr (by simp)) _).setCell (Or.inr (by simp)) _
    have own5 := Lib.hid (own_fr g5 ownx.out (by intro k hk h; have := hlow.out k hk; simp at h; omega))
    have hf5 := Lib.hid (hf3.out.trans g5 (by intro x hx h; simp at h; omega))
    clear own3 hc hcell g5 hb3 ownx hf3
    unfold set4 at hb5 own5 hf5
    go_upto_region 8 with (fail)
    obtain ⟨y5, hy5⟩ : ∃ y5, (((w3.setCell ⟨w.heap.size, 0, none⟩ (.int .i64 qi)).setCell ⟨w.heap.size, 1, none⟩ (.int .u32 qn)).setCell ⟨w.heap.size, 2, none⟩ (.string ⟨qs.toArray⟩)).setCell ⟨w.heap.size, 3, none⟩ (.string ⟨qt.toArray⟩) = y5 := ⟨_, rfl⟩
    rw [hy5] at hb5 own5 hf5 ⊢
    clear hy5 d0 d1 d2 d3 c0 c1 c2 c3 f0 f1 f2 f3 hbl
    obtain ⟨⟨c0, c1, c2, c3⟩, ⟨f0, f1, f2, f3⟩, hbl⟩ := blk4_facts hb5.out
    go_wp2_with fail
    refine (get_any _ R qi _ (own_view own5.out) (by have := HL.out.2.1; omega)).mono ?_
    rintro _ w6 ⟨rfl, g6⟩
    obtain ⟨⟨⟨Gi, Gn, Gs, Gt⟩, gb⟩, hG⟩ : ∃ x, getR R qi = x := ⟨_, rfl⟩
    rw [hG]
    dsimp only
    have hb6 := Lib.hid (blk_old (g6.blk hb5.out (by simp)) (.cells #[.int .i64 Gi, .int .u32 Gn, .string ⟨Gs.toArray⟩, .string ⟨Gt.toArray⟩] 68))
    have g7 := g6.alloc (.cells #[.int .i64 Gi, .int .u32 Gn, .string ⟨Gs.toArray⟩, .string ⟨Gt.toArray⟩] 68)
    have ownx := Lib.hid (own_fr g7 own5.out (by simp))
    have hf3 := Lib.hid (hf5.out.trans g7 (by simp))
    clear hb5 own5 hf5 g6 g7 c0 c1 c2 c3 f0 f1 f2 f3 hbl
    go_upto_region 9 with (fail)
    obtain ⟨y6, hy6⟩ : ∃ y6, w6.alloc (.cells #[.int .i64 Gi, .int .u32 Gn, .string ⟨Gs.toArray⟩, .string ⟨Gt.toArray⟩] 68) = y6 := ⟨_, rfl⟩
    rw [hy6] at hb6 ownx hf3 ⊢
    obtain ⟨⟨c0, c1, c2, c3⟩, ⟨f0, f1, f2, f3⟩, hbl⟩ := blk4_facts hb6.out
    cases gb
    · go_wp2
      go_ret
      exact ⟨rfl, hf3.out⟩
    by_cases h38 : qi = 38
    · have e38 : (qi == 38) = true := by simpa using h38
      go_wp2
      go_ret
      exact ⟨rfl, hf3.out⟩
    by_cases h11 : qi = 11
    · have e38 : (qi == 38) = false := by simpa using h38
      have e11 : (qi == 11) = true := by simpa using h11
      go_wp2
      go_ret
      exact ⟨rfl, hf3.out⟩
    have e38 : (qi == 38) = false := by simpa using h38
    have e11 : (qi == 11) = false := by simpa using h11
    have HT := Lib.hid (fun hl => else_twice HL.out.1 (cutP ⟨qi, qn, qs, qt⟩) hm (by show (getR R qi).2 = true; rw [hG]) h38 h11 hl [])
    have HB := hb6
    clear hG hq0 HQ hRd hy6 hb3 hk0 hb1 h38 h11
    go_upto_region 12 with (fail)
    clear c0 c1 c2 c3 f0 f1 f2 f3 hbl
    obtain ⟨⟨c0, c1, c2, c3⟩, ⟨f0, f1, f2, f3⟩, hbl⟩ := blk4_facts HB.out
    go_cut [] (fun wx => wx.heap[w.heap.size]? = some (.cells (prE (cutP ⟨qi, qn, qs, qt⟩)).toArray 68 (0, 0)) ∧ Fr [w.heap.size] y6 wx)
    case first =>
      go_region_with ((first | (go_at_call 13; (with_reducible refine (cut_any qs 20 _ hqs.out (by decide)).mono ?_); rintro _ _ ⟨rfl, rfl⟩) | (go_at_call 13; (with_reducible refine (cut_any qt 20 _ hqt.out (by decide)).mono ?_); rintro _ _ ⟨rfl, rfl⟩)))
      all_goals go_wp2_with fail
      all_goals go_meet
      all_goals first | exact ⟨blk_set (blk_set HB.out 2 _) 3 _, ((((Fr.refl _ _).setCell (Or.inr (by simp)) _).setCell (Or.inr (by simp)) _).drew)⟩ | exact ⟨blk_set (blk_set HB.out 3 _) 2 _, ((((Fr.refl _ _).setCell (Or.inr (by simp)) _).setCell (Or.inr (by simp)) _).drew)⟩
    case rest =>
      obtain ⟨hb4, g4⟩ := hcut
      have own4 := own_fr g4 ownx.out (by intro k hk h; have := hlow.out k hk; simp at h; omega)
      have hf4 := (hf3.out.trans g4 (by intro x hx h; simp at h; omega)).alloc (.cells #[.slice none 0 0] 73)
      have hOB : w.heap.size < wc.heap.size := blk_lt hb4
      have hQl : (cutP ⟨qi, qn, qs, qt⟩).s.length ≤ 20 ∧ (cutP ⟨qi, qn, qs, qt⟩).t.length ≤ 20 := ⟨List.length_take_le _ _, List.length_take_le _ _⟩
      have hQn : (cutP ⟨qi, qn, qs, qt⟩).n < 4294967296 := hqn.out
      generalize cutP ⟨qi, qn, qs, qt⟩ = q at *
      obtain ⟨qi, qn, qs, qt⟩ := q
      dsimp only at hQl hQn
      replace hb4 := blk_old hb4 (.cells #[.slice none 0 0] 73)
      have hno := OutAt.new wc
      have ov := (own_view own4).fr ((Fr.refl [] wc).alloc (.cells #[.slice none 0 0] 73)) (by simp)
      clear c0 c1 c2 c3 f0 f1 f2 f3 hbl own4 g4
      go_upto_region 14 with (fail)
      obtain ⟨y, hy⟩ : ∃ y, wc.alloc (.cells #[.slice none 0 0] 73) = y := ⟨_, rfl⟩
      have hyo : wc.heap.size < y.heap.size := by rw [← hy]; simp
      rw [hy] at hb4 hno ov hf4 ⊢
      generalize wc.heap.size = OB at *
      obtain ⟨⟨c0, c1, c2, c3⟩, ⟨f0, f1, f2, f3⟩, hbl⟩ := blk4_facts hb4
      have HQ := Lib.hid hb4
      have OV := Lib.hid ov
      have HN := Lib.hid hno
      have hRl : R.length ≤ 8 := HL.out.2.1
      have HOK : Hid (∀ x ∈ R ++ [(⟨qi, qn, qs, qt⟩ : Pr)], x.n < 4294967296 ∧ x.s.length ≤ 9223372036854775807 ∧ x.t.length ≤ 9223372036854775807) := Lib.hid (by intro x hx; rcases List.mem_append.1 hx with hx | hx; (have := HL.out.2.2 x hx; omega); (simp at hx; subst hx; dsimp only; omega))
      have HF := Lib.hid hf4
      clear hy ov hno hf4 hb4
      go_cut [14] (fun s14 wx => s14 = .pointer (some ⟨OB, 0, none⟩) ∧ ∃ o, OutAt wx OB o (var (putsB (R ++ [⟨qi, qn, qs, qt⟩])).length ++ putsB (R ++ [⟨qi, qn, qs, qt⟩])) ∧ Fr [] w wx)
      case first =>
        go_region_held3 (fun w' => w'.cell? ⟨w.heap.size, 0, none⟩ = some (.int .i64 qi) ∧ w'.cell? ⟨w.heap.size, 1, none⟩ = some (.int .u32 (qn : Int)) ∧ w'.cell? ⟨w.heap.size, 2, none⟩ = some (.string ⟨qs.toArray⟩) ∧ w'.cell? ⟨w.heap.size, 3, none⟩ = some (.string ⟨qt.toArray⟩)) (first | go_keep | exact kk) (first | (refine step_first y (.tmp 67) (.tmp 68) 56 68 i0 (.agg #[.int .i64 0, .int .u32 0, .string ⟨#[]⟩, .string ⟨#[]⟩]) 4 48 Try.underlying56 hi hz0 hz1 hz2 rfl (by decide) (by decide) prE prE_len prE_one R (by omega) _ OV.out (by rfl) (by rfl) _ (by rfl) (by rfl) (by repeat (first | exact Fr.refl _ _ | (with_reducible apply Fr.alloc) | (with_reducible apply Fr.drew) | (with_reducible apply Fr.drewN) | (with_reducible refine Fr.setCell ?_ (by simp) _))) (by first | exact blk_new _ _ | exact blk_old (blk_new _ _) _ | exact blk_at1 _ _ _) (by simp) ?_; intro v5 y5 own5 fr5 k5; have kk := cells4 fr5 c0 c1 c2 c3; (first | have kP5 : y5.heap[y.heap.size + 1]? = some (.cells #[.int .i64 qi, .int .u32 (qn : Int), .string ⟨qs.toArray⟩, .string ⟨qt.toArray⟩] 68 (0, 0)) := k5 _ _ (blk_at1 _ _ _) (by simp) | have kP5 : y5.heap[y.heap.size]? = some (.cells #[.int .i64 qi, .int .u32 (qn : Int), .string ⟨qs.toArray⟩, .string ⟨qt.toArray⟩] 68 (0, 0)) := k5 _ _ (blk_old (blk_new _ _) _) (by simp) | skip)) | (refine step_second y (.tmp 69) (.tmp 71) 56 68 i0 (.agg #[.int .i64 0, .int .u32 0, .string ⟨#[]⟩, .string ⟨#[]⟩]) 4 48 Try.underlying56 hi hz0 hz1 hz2 rfl (by decide) (by decide) prE prE_len prE_one R (by omega) ⟨qi, qn, qs, qt⟩ _ (by rfl) (by rfl) (by rfl) _ _ (by rfl) (by first | exact fr5 | exact fr5.alloc _) (by first | exact own5 | exact own5.alloc _) (by first | exact kP5 | exact blk_new _ _) rfl ?_; intro v6 y6 own6 fr6; have kk := cells4 fr6 c0 c1 c2 c3) | (go_at_call 37; refine (puts_any OB OB [] _ (R ++ [⟨qi, qn, qs, qt⟩]) _ (HN.out.fr fr6 (by simp) (by simp)) (own_view own6) (by rw [List.length_append]; simp; omega) HOK.out (by simp)).mono ?_; rintro _ y7 ⟨rfl, o7, q7, ho7, g7⟩; have kk := cells4' g7 (by simp; omega) (cells4 fr6 c0 c1 c2 c3)))
        all_goals go_wp2_with fail
        all_goals go_meet
        all_goals exact ⟨rfl, o7, by rw [List.nil_append] at q7; exact q7, (HF.out.trans fr6 (by simp)).trans g7 (by intro x hx h; simp at h; omega)⟩
      case rest =>
        obtain ⟨rfl, o5, q5, hf5⟩ := hcut
        have hpl := putsB_small (R ++ [⟨qi, qn, qs, qt⟩]) (by intro x hx; rcases List.mem_append.1 hx with hx | hx; (exact (HL.out.2.2 x hx).2); (simp at hx; subst hx; exact hQl))
        rw [List.length_append, List.length_singleton] at hpl
        have hvl := varB_len' (putsB (R ++ [⟨qi, qn, qs, qt⟩])).length
        replace HT := Lib.hid (HT.out (by omega))
        rw [List.append_nil] at HT
        generalize putsB (R ++ [⟨qi, qn, qs, qt⟩]) = B at *
        generalize hV : var B.length = V at *
        have hBl : (⟨V ++ B, 0⟩ : Rd).s.length ≤ 1000000 := by simp only [List.length_append]; omega
        clear c0 c1 c2 c3 f0 f1 f2 f3 hbl OV HN HOK hV
        go_wp2_with fail
        refine (outtext_any _ _ _ _ q5).mono ?_
        rintro _ _ ⟨rfl, rfl⟩
        go_wp2_with fail
        refine (over_any _ _).mono ?_
        rintro _ w6 ⟨rfl, h6, g6⟩
        have hf6 := hf5.trans g6 (by simp)
        have z6 := hf5.size
        clear g6 hf5 q5
        go_wp2_with fail
        refine (ptake_any wc.heap.size _ kind isWill _ h6 hBl).mono ?_
        rw [HT.out]
        rintro _ w7 ⟨v7, rfl, _, hnil, h7, g7⟩
        have hf7 := hf6.trans g7 (by intro x hx h; simp at h; omega)
        obtain rfl := hnil (by trivial)
        have heqn : ∀ w, (binOp .eql 56 (.slice none 0 0) (.slice none 0 0)).run Try.prog w = .ok (.bool true) w := fun w => nilEqE w
        clear g7 h6 hf6 hnil
        go_wp2_with fail
        refine (err_any _ _ _ h7).mono ?_
        rintro _ _ ⟨rfl, rfl⟩
        go_wp2
        go_ret
        exact ⟨rfl, hf7⟩
end Go.Proofs.Ytlnlolhihodgoaa
