/- What Push, Pop and List of package queue come to. Conditions: sizes that may be. -/
import Derived.Test.YtnplinohoflabaaQueF
namespace Go.Proofs.Ytnplinohoflabaa
open Go.RowKit
set_option linter.unusedVariables false
set_option linter.unusedSimpArgs false

theorem qpush_any (base q : Nat) (v : Value) (L : List Ms) (most : Nat) (x : Ms) (w : World) (h : QAt w base q v L most) (hb : base ≤ w.heap.size) (hl : L.length < 1000000) (hm : most ≤ 9223372036854775807) :
    Calls Try.prog 17 #[.pointer (some ⟨q, 0, none⟩), .agg (msC x).toArray] w (PushTo base q v L most x w) := by
  by_cases hr : L.length < most
  · exact qpush_room base q v L most x w h hb hl hm hr
  · cases hf : L.findIdx? ltMs with
    | none => exact qpush_none base q v L most x w h hb hl hm hr hf
    | some i =>
      cases hx : ltMs x with
      | true => exact qpush_light base q v L most x w h hb hl hm hr i hf hx
      | false => exact qpush_swap base q v L most x w h hb hl hm hr i hf hx
def PopTo (base q : Nat) (L : List Ms) (most : Nat) (w : World) (e : Ending) (w' : World) : Prop :=
  e = .returned (.tuple #[.agg (msC (L.headD ms0)).toArray, .bool (!L.isEmpty)]) ∧ ∃ v', QAt w' base q v' L.tail most ∧ Fr [q] w w'
def PopTo2 (base q : Nat) (v : Value) (L : List Ms) (most : Nat) (w : World) (e : Ending) (w' : World) : Prop :=
  e = .returned (.tuple #[.agg (msC (L.headD ms0)).toArray, .bool (!L.isEmpty)]) ∧ ∃ v', QAt w' base q v' L.tail most ∧ Fr [q] w w' ∧ ∀ k, v'.ownBlock = some k → w.heap.size ≤ k ∨ v.ownBlock = some k
set_option maxHeartbeats 2000000 in
theorem qpop_any2 (base q : Nat) (v : Value) (L : List Ms) (most : Nat) (w : World) (h : QAt w base q v L most) (hb : base ≤ w.heap.size) (hl : L.length < 1000000) :
    Calls Try.prog 22 #[.pointer (some ⟨q, 0, none⟩)] w (PopTo2 base q v L most w) := by
  have hF := fun W H => qfirst_any base q v L most W H
  cases L with
  | nil =>
    simp only [List.headD_nil, List.isEmpty_nil, Bool.not_true] at hF
    unfold msC ms0 at hF
    have HF := Lib.hid hF
    have F0 : Fr [q] w (w.alloc (.cells #[.string ⟨#[]⟩, .int .i64 0, .int .u8 0, .bool false, .slice none 0 0, .string ⟨#[]⟩, .string ⟨#[]⟩] 29)) := (Fr.refl _ _).alloc _
    have hb0 := blk_new w (.cells #[.string ⟨#[]⟩, .int .i64 0, .int .u8 0, .bool false, .slice none 0 0, .string ⟨#[]⟩, .string ⟨#[]⟩] 29)
    have hqw := blk_lt h.1
    have HL := Lib.hid (fun k hk => (h.2.lt k hk).2)
    have H0 := Lib.hid (h.fr0 ((Fr.refl [] w).alloc (.cells #[.string ⟨#[]⟩, .int .i64 0, .int .u8 0, .bool false, .slice none 0 0, .string ⟨#[]⟩, .string ⟨#[]⟩] 29)))
    clear hF h
    go_enter Try.func22, Try.ntmps22
    go_wp2_with fail
    refine (HF.out _ H0.out).mono ?_
    rintro _ w1 ⟨rfl, g1⟩
    have hq1 := blk_old (g1.blk H0.out.1 (by simp)) (.cells #[.string ⟨#[]⟩, .int .i64 0, .int .u8 0, .bool false, .slice none 0 0, .string ⟨#[]⟩, .string ⟨#[]⟩] 29)
    have ho1 := (own_fr g1 H0.out.2 (by simp)).alloc (.cells #[.string ⟨#[]⟩, .int .i64 0, .int .u8 0, .bool false, .slice none 0 0, .string ⟨#[]⟩, .string ⟨#[]⟩] 29)
    have hb1 := blk_old (g1.blk hb0 (by simp)) (.cells #[.string ⟨#[]⟩, .int .i64 0, .int .u8 0, .bool false, .slice none 0 0, .string ⟨#[]⟩, .string ⟨#[]⟩] 29)
    have hc1 := blk_new w1 (.cells #[.string ⟨#[]⟩, .int .i64 0, .int .u8 0, .bool false, .slice none 0 0, .string ⟨#[]⟩, .string ⟨#[]⟩] 29)
    have F1 := (F0.trans g1 (by simp)).alloc (.cells #[.string ⟨#[]⟩, .int .i64 0, .int .u8 0, .bool false, .slice none 0 0, .string ⟨#[]⟩, .string ⟨#[]⟩] 29)
    clear hb0 F0 g1
    go_upto_region 4 with (fail)
    obtain ⟨y, hy⟩ : ∃ y, w1.alloc (.cells #[.string ⟨#[]⟩, .int .i64 0, .int .u8 0, .bool false, .slice none 0 0, .string ⟨#[]⟩, .string ⟨#[]⟩] 29) = y := ⟨_, rfl⟩
    rw [hy] at hq1 ho1 hb1 hc1 F1 ⊢
    clear hy
    have hb2 := hb1
    have hc2 := hc1
    have hq2 := hq1
    have ho2 := ho1
    have F2 := F1
    clear hb1 hc1 hq1 ho1 F1
    obtain ⟨⟨e0, e1, e2, e3, e4, e5, e6⟩, _, _⟩ := blk7_facts hc2
    obtain ⟨⟨d0, d1, d2, d3, d4, d5, d6⟩, ⟨k0, k1, k2, k3, k4, k5, k6⟩, _⟩ := blk7_facts hb2
    have HZ := Lib.hid (blk7_set hb2 (.string ⟨#[]⟩) (.int .i64 0) (.int .u8 0) (.bool false) (.slice none 0 0) (.string ⟨#[]⟩) (.string ⟨#[]⟩))
    have HF2 := Lib.hid (fr7_set F2 (b := w.heap.size) (by omega) (.string ⟨#[]⟩) (.int .i64 0) (.int .u8 0) (.bool false) (.slice none 0 0) (.string ⟨#[]⟩) (.string ⟨#[]⟩))
    have HQ2 := Lib.hid ((set7_fr y (w.heap.size) (.string ⟨#[]⟩) (.int .i64 0) (.int .u8 0) (.bool false) (.slice none 0 0) (.string ⟨#[]⟩) (.string ⟨#[]⟩)).blk hq2 (by simp; omega))
    have HO2 := Lib.hid (own_set7 ho2 (b := w.heap.size) (by intro e; have := HL.out _ e.symm; omega) (.string ⟨#[]⟩) (.int .i64 0) (.int .u8 0) (.bool false) (.slice none 0 0) (.string ⟨#[]⟩) (.string ⟨#[]⟩))
    clear hb2 hc2 F2 hq2 ho2
    go_wp2
    change bodyPost _ _ _ _ _ (set7 y w.heap.size (.string ⟨#[]⟩) (.int .i64 0) (.int .u8 0) (.bool false) (.slice none 0 0) (.string ⟨#[]⟩) (.string ⟨#[]⟩))
    generalize set7 y w.heap.size (.string ⟨#[]⟩) (.int .i64 0) (.int .u8 0) (.bool false) (.slice none 0 0) (.string ⟨#[]⟩) (.string ⟨#[]⟩) = W5 at *
    clear e0 e1 e2 e3 e4 e5 e6 k0 k1 k2 k3 k4 k5 k6 d0 d1 d2 d3 d4 d5 d6
    obtain ⟨e0, e1, e2, e3, e4, e5, e6⟩ := (blk7_facts HZ.out).1
    refine bodyPost_ret (v := .tuple #[.agg #[.string ⟨#[]⟩, .int .i64 0, .int .u8 0, .bool false, .slice none 0 0, .string ⟨#[]⟩, .string ⟨#[]⟩], .bool false]) (by simp [results, Try.results22, go_sem, e0, e1, e2, e3, e4, e5, e6]) rfl ?_
    exact ⟨rfl, _, ⟨HQ2.out, HO2.out⟩, HF2.out, fun k hk => Or.inr hk⟩
  | cons x L =>
    simp only [List.headD_cons, List.isEmpty_cons, Bool.not_false] at hF
    obtain ⟨fr, at_, qs, rt, pA, pn, pc, tp, py⟩ := x
    unfold msC at hF
    have HF := Lib.hid hF
    have F0 : Fr [q] w (w.alloc (.cells #[.string ⟨#[]⟩, .int .i64 0, .int .u8 0, .bool false, .slice none 0 0, .string ⟨#[]⟩, .string ⟨#[]⟩] 29)) := (Fr.refl _ _).alloc _
    have hb0 := blk_new w (.cells #[.string ⟨#[]⟩, .int .i64 0, .int .u8 0, .bool false, .slice none 0 0, .string ⟨#[]⟩, .string ⟨#[]⟩] 29)
    have hqw := blk_lt h.1
    have H0 := Lib.hid (h.fr0 ((Fr.refl [] w).alloc (.cells #[.string ⟨#[]⟩, .int .i64 0, .int .u8 0, .bool false, .slice none 0 0, .string ⟨#[]⟩, .string ⟨#[]⟩] 29)))
    clear hF h
    go_enter Try.func22, Try.ntmps22
    go_wp2_with fail
    refine (HF.out _ H0.out).mono ?_
    rintro _ w1 ⟨rfl, g1⟩
    have hq1 := blk_old (g1.blk H0.out.1 (by simp)) (.cells #[.string ⟨fr.toArray⟩, .int .i64 at_, .int .u8 qs, .bool rt, .slice pA pn pc, .string ⟨tp.toArray⟩, .string ⟨py.toArray⟩] 29)
    have ho1 := (own_fr g1 H0.out.2 (by simp)).alloc (.cells #[.string ⟨fr.toArray⟩, .int .i64 at_, .int .u8 qs, .bool rt, .slice pA pn pc, .string ⟨tp.toArray⟩, .string ⟨py.toArray⟩] 29)
    have hb1 := blk_old (g1.blk hb0 (by simp)) (.cells #[.string ⟨fr.toArray⟩, .int .i64 at_, .int .u8 qs, .bool rt, .slice pA pn pc, .string ⟨tp.toArray⟩, .string ⟨py.toArray⟩] 29)
    have hc1 := blk_new w1 (.cells #[.string ⟨fr.toArray⟩, .int .i64 at_, .int .u8 qs, .bool rt, .slice pA pn pc, .string ⟨tp.toArray⟩, .string ⟨py.toArray⟩] 29)
    have F1 := (F0.trans g1 (by simp)).alloc (.cells #[.string ⟨fr.toArray⟩, .int .i64 at_, .int .u8 qs, .bool rt, .slice pA pn pc, .string ⟨tp.toArray⟩, .string ⟨py.toArray⟩] 29)
    have hz1 : w.heap.size + 1 ≤ w1.heap.size := by have := g1.size; simpa using this
    have hw1 : w1.heap.size < (w1.alloc (.cells #[.string ⟨fr.toArray⟩, .int .i64 at_, .int .u8 qs, .bool rt, .slice pA pn pc, .string ⟨tp.toArray⟩, .string ⟨py.toArray⟩] 29)).heap.size := by simp
    clear hb0 F0 g1
    go_upto_region 3 with (fail)
    obtain ⟨y, hy⟩ : ∃ y, w1.alloc (.cells #[.string ⟨fr.toArray⟩, .int .i64 at_, .int .u8 qs, .bool rt, .slice pA pn pc, .string ⟨tp.toArray⟩, .string ⟨py.toArray⟩] 29) = y := ⟨_, rfl⟩
    rw [hy] at hq1 ho1 hb1 hc1 F1 hw1 ⊢
    clear hy
    obtain ⟨g, cap, cur, rfl, hbg, hg, hh, h1, h2, h3, h4, hcell⟩ := own_cells ho1 msC_len (by decide) (by simp)
    obtain ⟨A', hA, hview⟩ : ∃ A : Option Addr, (if cap = 1 then some (⟨g, 0, none⟩ : Addr) else some ⟨g, 7, none⟩) = A ∧ Hid (View y (.slice A L.length (cap - 1)) L.length (L.flatMap msC)) := by
      refine ⟨_, rfl, Lib.hid ⟨_, _, rfl, ?_⟩⟩
      cases L with
      | nil => exact Or.inl rfl
      | cons a L =>
        rw [if_neg (by simp at h1; omega)]
        refine Or.inr ⟨g, 7, rfl, fun j u hj => ?_⟩
        rw [blk_cell hh, ← Array.getElem?_toList]
        have e : ((⟨fr, at_, qs, rt, pA, pn, pc, tp, py⟩ : Ms) :: a :: L).flatMap msC = msC ⟨fr, at_, qs, rt, pA, pn, pc, tp, py⟩ ++ (a :: L).flatMap msC := rfl
        have e2 : (((⟨fr, at_, qs, rt, pA, pn, pc, tp, py⟩ : Ms) :: a :: L).flatMap msC)[7 + j]? = some u := by
          rw [e, List.getElem?_append_right (by rw [msC_len]; omega), msC_len, show 7 + j - 7 = j from by omega]; exact hj
        rw [← h4, List.getElem?_take] at e2
        split at e2
        · exact e2
        · cases e2
    have HH := Lib.hid hq1
    obtain ⟨c0, c1, z0, z1, _⟩ := blk2_facts hq1
    have l1 : (1 : Int) ≤ ((L.length + 1 : Nat) : Int) := by omega
    simp only [List.length_cons] at h1 c0 hl
    unfold maxLen at h2
    clear hcell h4 h3 hh ho1 hq1
    go_wp2_with fail
    refine (qclone_any _ L _ hview.out (by omega)).mono ?_
    rintro _ w2 ⟨v2, rfl, own2, g2⟩
    obtain ⟨A2, cp2, rfl⟩ := own_shape own2
    have hlow := Lib.hid (fun k hk => (own2.lt k hk).1)
    have hq3 := blk_set (g2.blk HH.out (by simp)) 0 (.slice A2 L.length cp2)
    have ho3 := own_base (base' := base) (own_set own2 (p := ⟨q, 0, none⟩) (by intro e; have := hlow.out _ e.symm; simp at this; omega) (.slice A2 L.length cp2)) (fun k hk => by have := hlow.out k hk; omega)
    have hb3 := blk_far (g2.blk hb1 (by simp)) (p := ⟨q, 0, none⟩) (by simp; omega) (.slice A2 L.length cp2)
    have hc3 := blk_far (g2.blk hc1 (by simp)) (p := ⟨q, 0, none⟩) (by simp; omega) (.slice A2 L.length cp2)
    have F3 := (F1.trans g2 (by simp)).setCell (p := ⟨q, 0, none⟩) (Or.inr (by simp)) (.slice A2 L.length cp2)
    obtain ⟨_, _, z0, z1, _⟩ := blk2_facts (g2.blk HH.out (by simp))
    have y0 := (blk2_facts (g2.blk HH.out (by simp))).1
    clear hb1 hc1 F1 own2 c0 c1
    go_upto_region 4 with (fail)
    obtain ⟨u, hu⟩ : ∃ u, w2.setCell ⟨q, 0, none⟩ (.slice A2 L.length cp2) = u := ⟨_, rfl⟩
    rw [hu] at hq3 ho3 hb3 hc3 F3 ⊢
    clear hu z0 z1 y0
    obtain ⟨⟨e0, e1, e2, e3, e4, e5, e6⟩, _, _⟩ := blk7_facts hc3
    obtain ⟨⟨d0, d1, d2, d3, d4, d5, d6⟩, ⟨k0, k1, k2, k3, k4, k5, k6⟩, _⟩ := blk7_facts hb3
    have HZ := Lib.hid (blk7_set hb3 (.string ⟨fr.toArray⟩) (.int .i64 at_) (.int .u8 qs) (.bool rt) (.slice pA pn pc) (.string ⟨tp.toArray⟩) (.string ⟨py.toArray⟩))
    have HF2 := Lib.hid (fr7_set F3 (b := w.heap.size) (by omega) (.string ⟨fr.toArray⟩) (.int .i64 at_) (.int .u8 qs) (.bool rt) (.slice pA pn pc) (.string ⟨tp.toArray⟩) (.string ⟨py.toArray⟩))
    have HQ2 := Lib.hid ((set7_fr u (w.heap.size) (.string ⟨fr.toArray⟩) (.int .i64 at_) (.int .u8 qs) (.bool rt) (.slice pA pn pc) (.string ⟨tp.toArray⟩) (.string ⟨py.toArray⟩)).blk hq3 (by simp; omega))
    have HO2 := Lib.hid (own_set7 ho3 (b := w.heap.size) (by intro e; have := hlow.out _ e.symm; omega) (.string ⟨fr.toArray⟩) (.int .i64 at_) (.int .u8 qs) (.bool rt) (.slice pA pn pc) (.string ⟨tp.toArray⟩) (.string ⟨py.toArray⟩))
    clear hb3 hc3 F3 hq3 ho3
    go_wp2
    change bodyPost _ _ _ _ _ (set7 u w.heap.size (.string ⟨fr.toArray⟩) (.int .i64 at_) (.int .u8 qs) (.bool rt) (.slice pA pn pc) (.string ⟨tp.toArray⟩) (.string ⟨py.toArray⟩))
    generalize set7 u w.heap.size (.string ⟨fr.toArray⟩) (.int .i64 at_) (.int .u8 qs) (.bool rt) (.slice pA pn pc) (.string ⟨tp.toArray⟩) (.string ⟨py.toArray⟩) = W5 at *
    clear e0 e1 e2 e3 e4 e5 e6 k0 k1 k2 k3 k4 k5 k6 d0 d1 d2 d3 d4 d5 d6
    obtain ⟨e0, e1, e2, e3, e4, e5, e6⟩ := (blk7_facts HZ.out).1
    refine bodyPost_ret (v := .tuple #[.agg #[.string ⟨fr.toArray⟩, .int .i64 at_, .int .u8 qs, .bool rt, .slice pA pn pc, .string ⟨tp.toArray⟩, .string ⟨py.toArray⟩], .bool true]) (by simp [results, Try.results22, go_sem, e0, e1, e2, e3, e4, e5, e6]) rfl ?_
    exact ⟨rfl, _, ⟨HQ2.out, HO2.out⟩, HF2.out, fun k hk => Or.inl (by have := hlow.out k hk; omega)⟩
theorem qpop_any (base q : Nat) (v : Value) (L : List Ms) (most : Nat) (w : World) (h : QAt w base q v L most) (hb : base ≤ w.heap.size) (hl : L.length < 1000000) :
    Calls Try.prog 22 #[.pointer (some ⟨q, 0, none⟩)] w (PopTo base q L most w) :=
  (qpop_any2 base q v L most w h hb hl).mono fun _ _ ⟨he, v', h1, h2, _⟩ => ⟨he, v', h1, h2⟩
def ListTo (L : List Ms) (w : World) (e : Ending) (w' : World) : Prop := ∃ v', e = .returned v' ∧ w'.ownsRow w.heap.size 29 7 v' L.length (L.flatMap msC) ∧ Fr [] w w'
theorem qlist_any (base q : Nat) (v : Value) (L : List Ms) (most : Nat) (w : World) (h : QAt w base q v L most) (hl : L.length ≤ 1000000) :
    Calls Try.prog 19 #[.pointer (some ⟨q, 0, none⟩)] w (ListTo L w) := by
  obtain ⟨hq, ho⟩ := h
  have HV := Lib.hid (own_view ho)
  obtain ⟨A, c, rfl⟩ := own_shape ho
  obtain ⟨c0, c1, z0, z1, _⟩ := blk2_facts hq
  clear hq ho
  go_enter Try.func19, Try.ntmps19
  go_wp2_with fail
  refine (qclone_any _ L w HV.out hl).mono ?_
  rintro _ w1 ⟨v', rfl, ho, g1⟩
  obtain ⟨A', c', rfl⟩ := own_shape ho
  go_wp2
  go_ret
  exact ⟨_, rfl, ho, g1⟩
end Go.Proofs.Ytnplinohoflabaa
