/- What Clone and Delete of package slices come to at messages; Push, Pop, List of package queue. Conditions: sizes that may be. -/
import Derived.Test.YtnplinohoflabaaQue
import Derived.Deep.RegionHeld3
import Derived.Deep.DrawnRows
import Derived.Deep.AppendLies
namespace Go.Proofs.Ytnplinohoflabaa
open Go.RowKit
set_option linter.unusedVariables false
set_option linter.unusedSimpArgs false
attribute [local go_sem ↓] Go.wp_at_zero Go.wp_at_succ

theorem clearMs {P : Program} (w : World) (ht : P.underlying 22 = some (.slice 29)) (hz : ∀ w, (zeroValue 29).run P w = .ok (.agg (msC ms0).toArray) w) (b o c : Nat) (ty : TypeId)
    (hc : ∀ j, j < 7 → (w.cell? ⟨b, o + j, none⟩).isSome = true) (hf : ∀ j, j < 7 → w.frozen? ⟨b, o + j, none⟩ = false) :
    (Builtin.clear_ #[22] ty #[.slice (some ⟨b, o, none⟩) 1 c]).run P w = .ok (.tuple #[]) (w.setCells b o (msC ms0)) := by
  have hst := run_storeCells_cells (P := P) b o (msC ms0) 0 w (by simpa [msC] using hc) (by simpa [msC] using hf) (msC_one ms0)
  simp only [Nat.add_zero] at hst
  have hzc : (Builtin.zeroCells (Value.agg (msC ms0).toArray).cells 1).toList = msC ms0 := by kernel_rfl
  simp [Builtin.clear_, run_underlying ht, hz, hzc, hst]
theorem Try.zeroMs (w : World) : (zeroValue 29).run Try.prog w = .ok (.agg (msC ms0).toArray) w := by kernel_rfl
def cloneTo (L : List Ms) (w : World) (e : Ending) (w' : World) : Prop := ∃ v', e = .returned v' ∧ w'.ownsRow w.heap.size 29 7 v' L.length (L.flatMap msC) ∧ Fr [] w w'
theorem qclone_any (v : Value) (L : List Ms) (w : World) (hv : View w v L.length (L.flatMap msC)) (hl : L.length ≤ 1000000) :
    Calls Try.prog 48 #[v] w (cloneTo L w) := by
  obtain ⟨i0, hi, hz0, hz1, hz2⟩ := info_parts Try.infoMs
  have HV := Lib.hid hv
  obtain ⟨A, c, rfl, hA⟩ := hv
  have hnil := fun (W : World) (a : Option Addr) (n c : Nat) => Lib.run_eql_slice_nil (P := Try.prog) W 22 29 a n c 0 0 Try.underlying22
  cases A with
  | none =>
    have h0 : L.flatMap msC = [] := by
      rcases hA with h | ⟨b, off, h, _⟩
      · exact h
      · cases h
    obtain rfl : L = [] := by
      cases L with
      | nil => rfl
      | cons x L => simp [msC] at h0
    clear hA
    go_enter Try.func48, Try.ntmps48
    go_wp2
    go_ret
    exact ⟨_, rfl, World.ownsRow_nil _ _ _ _, Fr.refl _ _⟩
  | some a =>
    clear hA
    have ho := own_emp w 29 7 w.heap.size (Nat.le_refl _)
    have hf0 : Fr [] w (w.alloc (.cells #[] 29)) := (Fr.refl _ _).alloc _
    have HW := Lib.hid ho
    have HF := Lib.hid hf0
    clear ho hf0
    go_enter Try.func48, Try.ntmps48
    go_wp2_with (at_builtin; refine wpl_appv _ rfl (.tmp 5) (.tmp 6) 22 rfl w.heap.size 29 i0 _ 7 88 Try.underlying22 hi hz0 hz1 hz2 rfl (by decide) _ 0 [] rfl HW.out _ L.length (L.flatMap msC) rfl (flat_len 7 msC msC_len L) (HV.out.fr HF.out (by simp)) (enc_mem msC_one L) ?c3 ?c4 ?c5 ?_)
    case c3 => unfold maxLen; omega
    case c4 => omega
    case c5 => simp
    intro v' w2 hown2 hg _
    have fr2 : Fr [] w w2 := HF.out.app HW.out (Nat.le_refl _) hg
    obtain ⟨A4, cp4, rfl⟩ := own_shape hown2
    go_wp2
    go_ret
    exact ⟨_, rfl, hown2, fr2⟩
set_option maxHeartbeats 2000000 in
set_option maxRecDepth 100000 in
theorem qdelete_any (base : Nat) (v : Value) (L : List Ms) (i : Nat) (w : World) (ho : w.ownsRow base 29 7 v L.length (L.flatMap msC)) (hi : i < L.length) (hl : L.length ≤ 1000000) :
    Calls Try.prog 47 #[v, .int .i64 (i : Int), .int .i64 ((i : Int) + 1)] w fun e w' => ∃ g c, v = .slice (some ⟨g, 0, none⟩) L.length c ∧ e = .returned (.slice (some ⟨g, 0, none⟩) (L.length - 1) c) ∧ w'.ownsRow base 29 7 (.slice (some ⟨g, 0, none⟩) (L.length - 1) c) (L.length - 1) ((L.eraseIdx i).flatMap msC) ∧ Fr [g] w w' := by
  obtain ⟨g, cap, cur, rfl, hbg, hg, hh, h1, h2, h3, h4, hcell⟩ := own_cells ho msC_len (by decide) (by omega)
  obtain ⟨i0, hi0, hz0, hz1, hz2⟩ := info_parts Try.infoMs
  obtain ⟨m, hn⟩ : ∃ m, L.length = m + 1 := ⟨L.length - 1, by omega⟩
  have hall : ∀ j, j < cap * 7 → (w.cell? ⟨g, j, none⟩).isSome = true ∧ w.frozen? ⟨g, j, none⟩ = false := by
    intro j hj
    rw [blk_cell hh, blk_frozen hh]
    exact ⟨by simp [h3, hj], rfl⟩
  have hmlen : ((L.drop (i + 1)).flatMap msC).length = (L.length - (i + 1)) * 7 := by rw [flat_len 7 msC msC_len, List.length_drop]
  have hmv : ∀ j u, ((L.drop (i + 1)).flatMap msC)[j]? = some u → w.cell? ⟨g, (i + 1) * 7 + j, none⟩ = some u := by
    intro j u hu
    rw [← flat_drop 7 msC msC_len, List.getElem?_drop] at hu
    rw [blk_cell hh, ← Array.getElem?_toList]
    rw [← h4, List.getElem?_take] at hu
    split at hu
    · exact hu
    · cases hu
  have HE := own_erase (w := w.drew) msC_len hbg hh h1 h2 h3 h4 i hi (msC ms0) rfl
  rw [hn, Nat.add_sub_cancel] at HE
  replace HE := Lib.hid HE
  obtain ⟨A, hA, hnews⟩ : ∃ A : Addr, (if cap = i + 1 then some (⟨g, 0, none⟩ : Addr) else some ⟨g, (i + 1) * 7, none⟩) = some A ∧ Hid (∀ j u, ((L.drop (i + 1)).flatMap msC)[j]? = some u → w.drew.cell? (A.add j) = some u) := by
    by_cases h : cap = i + 1
    · refine ⟨⟨g, 0, none⟩, by simp [h], Lib.hid fun j u hu => ?_⟩
      have := (List.getElem?_eq_some_iff.1 hu).1
      rw [hmlen] at this
      omega
    · refine ⟨⟨g, (i + 1) * 7, none⟩, by simp [h], Lib.hid fun j u hu => ?_⟩
      rw [Addr.add_lit]
      exact hmv j u hu
  have s1 : Hid (((L.drop (i + 1)).flatMap msC).length = (m - i) * 7) := Lib.hid (by rw [hmlen, hn]; congr 1; omega)
  have s2 : Hid (∀ u ∈ (L.drop (i + 1)).flatMap msC, u.oneCell' = true) := Lib.hid (enc_mem msC_one _)
  have s3 : Hid (∀ j, j < ((L.drop (i + 1)).flatMap msC).length → (w.drew.cell? ⟨g, 0 + i * 7 + j, none⟩).isSome = true ∧ w.drew.frozen? ⟨g, 0 + i * 7 + j, none⟩ = false) := Lib.hid (fun j hj => by
    rw [hmlen] at hj
    exact hall _ (by omega))
  have s4 : Hid (∀ j, j < 7 → ((w.drew.setCells g (i * 7) ((L.drop (i + 1)).flatMap msC)).cell? ⟨g, m * 7 + j, none⟩).isSome = true) := Lib.hid (fun j hj => World.isSome_setCells g _ _ w.drew _ (hall _ (by omega)).1)
  have s5 : Hid (∀ j, j < 7 → (w.drew.setCells g (i * 7) ((L.drop (i + 1)).flatMap msC)).frozen? ⟨g, m * 7 + j, none⟩ = false) := Lib.hid (fun j hj => by
    rw [World.frozen?_setCells]; exact (hall _ (by omega)).2)
  unfold maxLen at h2
  have hic : i ≤ cap := by omega
  have hwr : IntKind.i64.wrap ((i : Int) + 1) = (i : Int) + 1 := by rw [IntKind.wrap_i64]; omega
  have hp0 : (0 : Int) ≤ (i : Int) + 1 := by omega
  have hp1 : (i : Int) + 1 ≤ ((m + 1 : Nat) : Int) := by omega
  have hp2 : ((i : Int) + 1).toNat = i + 1 := by omega
  have hp3 : ((m + 1 : Nat) : Int) ≤ (cap : Int) := by omega
  have hp4 : ((i : Int) == (i : Int) + 1) = false := by rw [beq_eq_false_iff_ne]; omega
  rw [hn] at hi hl h1 ⊢
  have him : i ≤ m := by omega
  rw [Nat.add_sub_cancel]
  clear hcell hmv hmlen hall h3 h4 hh ho hn
  go_enter Try.func47, Try.ntmps47
  go_wp2
  go_region_law (refine step_append_room rfl (.tmp 22) (.tmp 25) 22 rfl 29 i0 7 Try.underlying22 hi0 hz1 g 0 i cap (by simp [Act.eval, Act.put]) A (m - i) (cap - (i + 1)) ((L.drop (i + 1)).flatMap msC) (by simp [Act.eval, Act.put]) s1.out hnews.out s2.out (by omega) s3.out ?_)
  obtain ⟨y, hy⟩ : ∃ y, w.drew.setCells g (i * 7) ((L.drop (i + 1)).flatMap msC) = y := ⟨_, rfl⟩
  rw [hy] at s4 s5 ⊢
  have HY := Lib.hid hy
  clear hy
  have hcl := clearMs y Try.underlying22 Try.zeroMs g (m * 7) (cap - m) 0 s4.out s5.out
  go_wp2
  go_ret
  refine ⟨g, cap, rfl, rfl, ?_, ?_⟩
  · rw [← HY.out]; exact HE.out
  · rw [← HY.out]
    exact Fr.setCells (Or.inr (by simp)) _ _ _ (Fr.setCells (Or.inr (by simp)) _ _ _ ((Fr.refl _ _).drew))
def pushG {α : Type} (lt : α → Bool) (l : List α) (x : α) (most : Nat) : List α × Option α :=
  if l.length < most then (l ++ [x], none) else
  match l.findIdx? lt with
  | none => (l, some x)
  | some i => if lt x = true then (l, some x) else (l.eraseIdx i ++ [x], l[i]?)
def ltMs (x : Ms) : Bool := x.q == 0
def PushTo (base q : Nat) (v : Value) (L : List Ms) (most : Nat) (x : Ms) (w : World) (e : Ending) (w' : World) : Prop :=
  ∃ v', e = .returned (.tuple #[.agg (msC ((pushG ltMs L x most).2.getD ms0)).toArray, .bool (pushG ltMs L x most).2.isSome]) ∧ QAt w' base q v' (pushG ltMs L x most).1 most ∧ Fr (q :: v.ownBlock.toList) w w'
set_option maxHeartbeats 4000000 in
set_option maxRecDepth 100000 in
theorem qpush_room (base q : Nat) (v : Value) (L : List Ms) (most : Nat) (x : Ms) (w : World) (h : QAt w base q v L most) (hb : base ≤ w.heap.size) (hl : L.length < 1000000) (hm : most ≤ 9223372036854775807) (hr : L.length < most) :
    Calls Try.prog 17 #[.pointer (some ⟨q, 0, none⟩), .agg (msC x).toArray] w (PushTo base q v L most x w) := by
  obtain ⟨i0, hi0, hz0, hz1, hz2⟩ := info_parts Try.infoMs
  have HG : Hid (pushG ltMs L x most = (L ++ [x], none)) := Lib.hid (by rw [pushG, if_pos hr])
  obtain ⟨hq, ho⟩ := h
  obtain ⟨A, c, rfl⟩ := own_shape ho
  have hd : decide (L.length < most) = true := by simp; omega
  have hx7 := msC_one x
  have HX : Hid ((L ++ [x]).flatMap msC = L.flatMap msC ++ msC x) := Lib.hid (by simp)
  obtain ⟨fr, at_, qs, rt, pA, pn, pc, tp, py⟩ := x
  unfold msC at hx7 ⊢
  have hq1 := blk_old (blk_old hq (.cells (msC ⟨fr, at_, qs, rt, pA, pn, pc, tp, py⟩).toArray 29)) (.cells (msC ms0).toArray 29)
  have hb0 := blk_old (blk_new w (.cells (msC ⟨fr, at_, qs, rt, pA, pn, pc, tp, py⟩).toArray 29)) (.cells (msC ms0).toArray 29)
  have hb1 := blk_at1 w (.cells (msC ⟨fr, at_, qs, rt, pA, pn, pc, tp, py⟩).toArray 29) (.cells (msC ms0).toArray 29)
  have F0 : Fr (q :: (Value.slice A L.length c).ownBlock.toList) w ((w.alloc (.cells (msC ⟨fr, at_, qs, rt, pA, pn, pc, tp, py⟩).toArray 29)).alloc (.cells (msC ms0).toArray 29)) := ((Fr.refl _ _).alloc _).alloc _
  have ho1 := (ho.alloc (.cells (msC ⟨fr, at_, qs, rt, pA, pn, pc, tp, py⟩).toArray 29)).alloc (.cells (msC ms0).toArray 29)
  have hqw := blk_lt hq
  simp only [msC, ms0] at hq1 hb0 hb1 F0 ho1
  obtain ⟨c0, c1, z0, z1, _⟩ := blk2_facts hq1
  have HLT := Lib.hid (fun k hk => (ho.lt k hk).2)
  clear hr hq ho
  go_enter Try.func17, Try.ntmps17
  go_wp2
  obtain ⟨y, hy⟩ : ∃ y, (w.alloc (.cells #[.string ⟨fr.toArray⟩, .int .i64 at_, .int .u8 qs, .bool rt, .slice pA pn pc, .string ⟨tp.toArray⟩, .string ⟨py.toArray⟩] 29)).alloc (.cells #[.string ⟨#[]⟩, .int .i64 0, .int .u8 0, .bool false, .slice none 0 0, .string ⟨#[]⟩, .string ⟨#[]⟩] 29) = y := ⟨_, rfl⟩
  have hys : y.heap.size = w.heap.size + 2 := by rw [← hy]; simp
  rw [hy] at hq1 hb0 hb1 F0 ho1 c0 c1 z0 z1 ⊢
  clear hy
  go_quiet (fail)
  have G1 : Fr [] y (y.drewN nq) := (Fr.refl _ _).drewN nq
  obtain ⟨z, hz⟩ : ∃ z, y.drewN nq = z := ⟨_, rfl⟩
  rw [hz] at G1 ⊢
  have G1s : z.heap.size = w.heap.size + 2 := by rw [← hz]; exact hys
  clear hz c0 c1 z0 z1
  replace hq1 := G1.blk hq1 (by simp)
  replace hb0 := G1.blk hb0 (by simp)
  replace hb1 := Lib.hid (G1.blk hb1 (by simp))
  replace ho1 := own_fr G1 ho1 (by simp)
  replace F0 := Lib.hid (F0.trans G1 (by simp))
  obtain ⟨c0, c1, z0, z1, _⟩ := blk2_facts hq1
  obtain ⟨⟨e0, e1, e2, e3, e4, e5, e6⟩, _, _⟩ := blk7_facts hb0
  have HQ := Lib.hid hq1
  have HO := Lib.hid ho1
  have HM := Lib.hid (own_ne ho1 hq1 (by decide))
  have HB0 := Lib.hid hb0
  have hqz : q < w.heap.size + 2 := by omega
  clear hb0 ho1 hq1 G1
  go_wp2
  go_region_law ((refine step_append_lies _ (by rfl) (.tmp 22) (.tmp 24) 22 (by rfl) base 29 i0 _ 7 88 Try.underlying22 hi0 hz0 hz1 hz2 (by rfl) (by decide) _ L.length (L.flatMap msC) (by rfl) ((World.ownsRow.drew HO.out).alloc _) ⟨w.heap.size + 2, 0, none⟩ 1 1 (msC ⟨fr, at_, qs, rt, pA, pn, pc, tp, py⟩) (by rfl) (by rfl) (news_at z.drew _ G1s (msC ⟨fr, at_, qs, rt, pA, pn, pc, tp, py⟩) _) (msC_one _) (by decide) (by unfold maxLen; omega) (by omega) (by simp; omega) (w.heap.size + 3) (by simp [G1s]) ?_; intro g cap y2 own2 hg2 hat hlt; have hq2 := grown_blk hg2 (blk_old (w := z.drew) HQ.out (.cells (msC ⟨fr, at_, qs, rt, pA, pn, pc, tp, py⟩).toArray 29)) HM.out; have hb2 := grown_blk hg2 (blk_old (w := z.drew) HB0.out (.cells (msC ⟨fr, at_, qs, rt, pA, pn, pc, tp, py⟩).toArray 29)) (fun e => absurd (HLT.out _ e) (by omega)); have kk := And.intro (blk2_facts hq2).1 (blk7_facts hb2).1; obtain ⟨c0', c1', z0', z1', _⟩ := blk2_facts hq2))
  all_goals
    have hqg : q ≠ g := by
      rcases hat with hat | hat
      · intro e; subst e; exact HM.out hat
      · omega
    have hgB : w.heap.size + 1 ≠ g := by
      rcases hat with hat | hat
      · have := HLT.out _ hat; omega
      · omega
    have hb3 := blk_far (grown_blk hg2 (blk_old (w := z.drew) hb1.out (.cells (msC ⟨fr, at_, qs, rt, pA, pn, pc, tp, py⟩).toArray 29)) (fun e => absurd (HLT.out _ e) (by omega))) (p := ⟨q, 0, none⟩) (by simp; omega) (.slice (some ⟨g, 0, none⟩) (L.length + 1) cap)
    have hq3 := blk_set hq2 0 (.slice (some ⟨g, 0, none⟩) (L.length + 1) cap)
    have own3 := own_set own2 (p := ⟨q, 0, none⟩) (by simp [Value.ownBlock]; exact hqg) (.slice (some ⟨g, 0, none⟩) (L.length + 1) cap)
    have F3 := ((((F0.out.drew).alloc (.cells (msC ⟨fr, at_, qs, rt, pA, pn, pc, tp, py⟩).toArray 29)).grown hg2 (fun k hk => Or.inr (by simp [hk]))).setCell (p := ⟨q, 0, none⟩) (Or.inr (by simp)) (.slice (some ⟨g, 0, none⟩) (L.length + 1) cap))
    obtain ⟨y3, hy3⟩ : ∃ y3, y2.setCell ⟨q, 0, none⟩ (.slice (some ⟨g, 0, none⟩) (L.length + 1) cap) = y3 := ⟨_, rfl⟩
    rw [hy3] at hb3 hq3 own3 F3 ⊢
    clear hy3 c0 c1 z0 z1 c0' c1' z0' z1' kk hq2 hb2 own2 hg2 e0 e1 e2 e3 e4 e5 e6
    obtain ⟨⟨e0, e1, e2, e3, e4, e5, e6⟩, ⟨k0, k1, k2, k3, k4, k5, k6⟩, _⟩ := blk7_facts hb3
    have HZ := Lib.hid (blk7_set hb3 (.string ⟨#[]⟩) (.int .i64 0) (.int .u8 0) (.bool false) (.slice none 0 0) (.string ⟨#[]⟩) (.string ⟨#[]⟩))
    have HF := Lib.hid (fr7_set F3 (b := w.heap.size + 1) (by omega) (.string ⟨#[]⟩) (.int .i64 0) (.int .u8 0) (.bool false) (.slice none 0 0) (.string ⟨#[]⟩) (.string ⟨#[]⟩))
    have HQ3 := Lib.hid ((set7_fr y3 (w.heap.size + 1) (.string ⟨#[]⟩) (.int .i64 0) (.int .u8 0) (.bool false) (.slice none 0 0) (.string ⟨#[]⟩) (.string ⟨#[]⟩)).blk hq3 (by simp; omega))
    have HO3 := Lib.hid (own_set7 own3 (b := w.heap.size + 1) (by simp [Value.ownBlock]; exact hgB) (.string ⟨#[]⟩) (.int .i64 0) (.int .u8 0) (.bool false) (.slice none 0 0) (.string ⟨#[]⟩) (.string ⟨#[]⟩))
    clear hb3 hq3 own3 F3 hat
    go_wp2
    change bodyPost _ _ _ _ _ (set7 y3 (w.heap.size + 1) (.string ⟨#[]⟩) (.int .i64 0) (.int .u8 0) (.bool false) (.slice none 0 0) (.string ⟨#[]⟩) (.string ⟨#[]⟩))
    generalize set7 y3 (w.heap.size + 1) (.string ⟨#[]⟩) (.int .i64 0) (.int .u8 0) (.bool false) (.slice none 0 0) (.string ⟨#[]⟩) (.string ⟨#[]⟩) = W5 at *
    clear e0 e1 e2 e3 e4 e5 e6 k0 k1 k2 k3 k4 k5 k6
    obtain ⟨e0, e1, e2, e3, e4, e5, e6⟩ := (blk7_facts HZ.out).1
    refine bodyPost_ret (v := .tuple #[.agg #[.string ⟨#[]⟩, .int .i64 0, .int .u8 0, .bool false, .slice none 0 0, .string ⟨#[]⟩, .string ⟨#[]⟩], .bool false]) (by simp [results, Try.results17, go_sem, e0, e1, e2, e3, e4, e5, e6]) rfl ?_
    refine ⟨.slice (some ⟨g, 0, none⟩) (L.length + 1) cap, by rw [HG.out]; rfl, ⟨HQ3.out, ?_⟩, HF.out⟩
    rw [HG.out]
    dsimp only
    rw [HX.out, List.length_append]
    exact HO3.out
end Go.Proofs.Ytnplinohoflabaa
