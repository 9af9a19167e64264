/- The walk of the law PropTakes. -/
import Derived.Test.YtlnlolhihodgoaaPropM
import Derived.Test.YtlnlolhihodgoaaPropO
import Derived.Test.YtlnlolhihodgoaaPropP
import Derived.Deep.RegionWith
namespace Go.Proofs.Ytlnlolhihodgoaa
open Go.RowKit
set_option linter.unusedSimpArgs false

theorem fail_s (r : Rd) (x : Int) : (r.fail x).s = r.s := by unfold Rd.fail; split <;> rfl
theorem propsGo_cnt (kind : Int) (isWill : Bool) : ∀ (n : Nat) (q : Rd) (l : List Pr), (propsGo kind isWill n q l).1.length ≤ l.length + n
  | 0, _, _ => by simp [propsGo]
  | n + 1, q, l => by
    rw [propsGo]
    split
    · exact Nat.le_add_right _ _
    split
    · exact Nat.le_add_right _ _
    split
    · exact Nat.le_add_right _ _
    split
    · exact Nat.le_add_right _ _
    · have := propsGo_cnt kind isWill n (valR (ruleOf q.var.1) q.var.1 q.var.2).2 (l ++ [(valR (ruleOf q.var.1) q.var.1 q.var.2).1])
      simp at this; omega
theorem takeP_small (r : Rd) (kind : Int) (isWill : Bool) (h : r.s.length ≤ 1000000) : (takeP r kind isWill).1.length ≤ 1000000 ∧ (takeP r kind isWill).2.s.length ≤ r.s.length := by
  have h1 := Rd.raw_le r.var.2 r.var.1
  have h2 := Rd.raw_left r.var.2 r.var.1
  have h3 := var_left r
  have h4 := propsGo_cnt kind isWill (r.var.2.raw r.var.1).1.length ⟨(r.var.2.raw r.var.1).1, 0⟩ []
  unfold takeP
  split
  · exact ⟨by simp, by dsimp only; omega⟩
  split
  · exact ⟨by simp at h4 ⊢; omega, by dsimp only; omega⟩
  · exact ⟨by simp, by dsimp only; rw [fail_s]; omega⟩
set_option maxRecDepth 100000 in
set_option maxHeartbeats 2000000 in
theorem propTakes_walk (a0 : ByteArray) (a1 : Int) (a2 : Bool) (w0 : a0.size ≤ maxLen) (w1 : (Lit.int .i64 a1).wf = true) (w : World) :
    Calls Try.prog 8 #[.string a0, .int .i64 a1, .bool a2] w fun e w' => e = .returned (.bool true) ∧ Fr [] w w' := by
  obtain ⟨s, rfl, hs⟩ := str_list a0
  rw [← hs] at w0
  unfold maxLen at w0
  have _ := w1
  clear hs w1
  go_enter Try.func8, Try.ntmps8
  go_wp2_with fail
  refine (cut_any s 120 w (by omega) (by decide)).mono ?_
  rintro _ w2 ⟨rfl, rfl⟩
  rw [show (120 : Int).toNat = 120 from rfl]
  have hl : (s.take 120).length ≤ 120 := List.length_take_le _ _
  generalize s.take 120 = S at *
  go_wp2_with fail
  refine (awake3_any w).mono ?_
  rintro _ v1 ⟨rfl, hf1⟩
  go_wp2_with fail
  refine (over_any S _).mono ?_
  rintro _ v2 ⟨rfl, h2, g2⟩
  have hf2 := hf1.trans g2 (by simp)
  have z1 := hf1.size
  have z2 := g2.size
  clear g2 hf1
  go_wp2_with fail
  refine (ptake_any v1.heap.size ⟨S, 0⟩ a1 a2 _ h2 (by show S.length ≤ _; omega)).mono ?_
  rintro _ v3 ⟨v, rfl, own3, _, h3, g3⟩
  have hf3 := hf2.trans g3 (by intro x hx h; simp at h; omega)
  have hsm := takeP_small ⟨S, 0⟩ a1 a2 (by show S.length ≤ _; omega)
  have z3 := g3.size
  clear g3 hf2 h2
  go_wp2_with fail
  refine (rprops_any ⟨S, 0⟩ a1 a2 _ (by show S.length ≤ _; omega)).mono ?_
  rintro _ v4 ⟨u, rfl, own4, g4⟩
  obtain ⟨⟨L, R⟩, hR⟩ : ∃ R, takeP ⟨S, 0⟩ a1 a2 = R := ⟨_, rfl⟩
  rw [hR] at own3 own4 h3 hsm ⊢
  dsimp only at own3 own4 h3 hsm ⊢
  clear hR
  have own3' := own_fr g4 own3 (by simp)
  have h4 := h3.fr g4 (by simp)
  have hf4 := hf3.trans g4 (by simp)
  have z4 := g4.size
  have b4 := blk_lt h4
  have V1 := Lib.hid (View.fr (own_view own3') ((Fr.refl [] v4).alloc (.cells #[.string ⟨R.s.toArray⟩, .int .i64 R.e] 59)) (by simp))
  have V2 := Lib.hid (View.fr (own_view own4) ((Fr.refl [] v4).alloc (.cells #[.string ⟨R.s.toArray⟩, .int .i64 R.e] 59)) (by simp))
  obtain ⟨A, cp, rfl⟩ := own_shape own3'
  obtain ⟨A', cp', rfl⟩ := own_shape own4
  have hin := Lib.hid (blk_old h4 (.cells #[.string ⟨R.s.toArray⟩, .int .i64 R.e] 59))
  have hcr := Lib.hid (blk_new v4 (.cells #[.string ⟨R.s.toArray⟩, .int .i64 R.e] 59))
  have hf5 := Lib.hid (hf4.alloc (.cells #[.string ⟨R.s.toArray⟩, .int .i64 R.e] 59))
  clear own3' own4 own3 h4 h3 g4 hf3 hf4
  go_upto_region 7 with (fail)
  obtain ⟨y, hy⟩ : ∃ y, v4.alloc (.cells #[.string ⟨R.s.toArray⟩, .int .i64 R.e] 59) = y := ⟨_, rfl⟩
  rw [hy] at V1 V2 hin hcr hf5 ⊢
  clear hy
  obtain ⟨c0, c1, _, _, _⟩ := blk2_facts hcr.out
  have VD1 := Lib.hid (show View y.drew _ _ _ from V1.out)
  have VD2 := Lib.hid (show View y.drew _ _ _ from V2.out)
  have hsame : sameP L L = 0 := if_pos rfl
  clear c0 c1
  by_cases he : R.e = 0
  · have t1 : (R.e != 0) = false := by simpa using he
    clear he
    go_region_with ((first | (go_at_call 31; (with_reducible refine (same3_any _ _ L L y.drew VD1.out VD2.out (by omega) (by omega)).mono ?_); rintro _ z1 ⟨rfl, q1⟩; rw [hsame]; have gx : Fr [] y z1 := ((Fr.refl [] y).drew.trans q1 (by simp)); have hz : InAt z1 v1.heap.size R := (gx.blk hin.out (by simp)); obtain ⟨e0, e1, _, _, _⟩ := blk2_facts (gx.blk hcr.out (by simp))) | (go_at_call 32; (with_reducible refine (err_any v1.heap.size R z1 hz).mono ?_); rintro _ _ ⟨rfl, rfl⟩) | (go_at_call 33; (with_reducible refine (left_any v1.heap.size R z1 hz).mono ?_); rintro _ _ ⟨rfl, rfl⟩)))
    all_goals go_wp2
    all_goals go_ret
    all_goals exact ⟨rfl, hf5.out.trans gx (by simp)⟩
  · have t1 : (R.e != 0) = true := by simpa using he
    clear he
    first | (go_region_with ((first | (go_at_call 31; (with_reducible refine (same3_any _ _ L L y.drew VD1.out VD2.out (by omega) (by omega)).mono ?_); rintro _ z1 ⟨rfl, q1⟩; rw [hsame]; have gx : Fr [] y z1 := ((Fr.refl [] y).drew.trans q1 (by simp)); have hz : InAt z1 v1.heap.size R := (gx.blk hin.out (by simp)); obtain ⟨e0, e1, _, _, _⟩ := blk2_facts (gx.blk hcr.out (by simp))) | (go_at_call 32; (with_reducible refine (err_any v1.heap.size R z1 hz).mono ?_); rintro _ _ ⟨rfl, rfl⟩) | (go_at_call 33; (with_reducible refine (left_any v1.heap.size R z1 hz).mono ?_); rintro _ _ ⟨rfl, rfl⟩)))) | (fail "held")
    all_goals try simp only [Act.put, List.getElem_toArray, List.getElem_cons_succ, List.getElem_cons_zero, List.setIfInBounds_toArray, List.set_cons_zero, List.set_cons_succ]
    all_goals go_wp2
    all_goals go_ret
    all_goals exact ⟨rfl, hf5.out.trans gx (by simp)⟩
end Go.Proofs.Ytlnlolhihodgoaa
