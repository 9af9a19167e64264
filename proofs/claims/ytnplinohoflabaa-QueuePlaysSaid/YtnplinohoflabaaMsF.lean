/- What Left, Gone of package retain and of its reference, Tick, Few, Told, Same, Is of the law package of layer 12 come to. Conditions: numbers and strings that may be. -/
import Derived.Test.YtnplinohoflabaaMs
import Derived.Test.YtnplinohoflabaaFew
import Derived.Test.YtnplinohoflabaaSameP
import Derived.Deep.DeepCutAuto
import Derived.Deep.RegionHeld3
import Derived.Deep.RegionWith
import Derived.Deep.DrawnRows
namespace Go.Proofs.Ytnplinohoflabaa
open Go.RowKit
set_option linter.unusedVariables false
set_option linter.unusedSimpArgs false
attribute [local go_sem ↓] Go.wp_at_zero Go.wp_at_succ

def tickN (n : Int) : Int := (n.tmod 100000 + 100000) % 100000
theorem tickN_le (n : Int) : 0 ≤ tickN n ∧ tickN n < 100000 := by unfold tickN; omega
theorem tick_any (n : Int) (w : World) : Calls Try.prog 23 #[.int .i64 n] w fun e w' => e = .returned (.int .i64 (tickN n)) ∧ w = w' := by
  have h1 : n.tmod 100000 < 100000 := Int.tmod_lt_of_pos n (by decide)
  have h2 : -100000 < n.tmod 100000 := by
    have := Int.tmod_lt_of_pos (-n) (show (0 : Int) < 100000 by decide)
    rw [Int.neg_tmod] at this; omega
  go_enter Try.func23, Try.ntmps23
  go_wp2
  go_ret
  exact ⟨rfl, rfl⟩
def leftB (ps : List Pr) : Bool := (getR ps 2).2
def leftI (at_ : Int) (ps : List Pr) (now : Int) : Int := if (getR ps 2).2 = true then at_ + ((getR ps 2).1.n : Int) - now else 0
def goneB (at_ : Int) (ps : List Pr) (now : Int) : Bool := leftB ps && decide (leftI at_ ps now ≤ 0)
theorem getR_lt (ps : List Pr) (id : Int) (h : ∀ x ∈ ps, x.n < 4294967296) : (getR ps id).1.n < 4294967296 := by
  unfold getR
  cases hf : ps.find? (fun x => x.id == id) with
  | none => decide
  | some p => exact h p (List.mem_of_find?_eq_some hf)
set_option maxHeartbeats 1000000 in
theorem left_any (x : Ms) (ps : List Pr) (now : Int) (w : World) (hv : View w (.slice x.A x.n x.c) ps.length (ps.flatMap prE)) (hl : ps.length ≤ 1000000) (hn : ∀ p ∈ ps, p.n < 4294967296) (h0 : 0 ≤ x.at_) (h1 : x.at_ ≤ 1000000) (h2 : 0 ≤ now) (h3 : now ≤ 1000000) :
    Calls Try.prog 51 #[.agg (msC x).toArray, .int .i64 now] w fun e w' => e = .returned (.tuple #[.int .i64 (leftI x.at_ ps now), .bool (leftB ps)]) ∧ Fr [] w w' := by
  have hp := getR_lt ps 2 hn
  obtain ⟨fr, at_, qs, rt, A, n, c, tp, py⟩ := x
  dsimp only at hv h0 h1 ⊢
  unfold msC
  have hb := blk_new w (.cells #[.string ⟨fr.toArray⟩, .int .i64 at_, .int .u8 qs, .bool rt, .slice A n c, .string ⟨tp.toArray⟩, .string ⟨py.toArray⟩] 29)
  have F0 : Fr [] w (w.alloc (.cells #[.string ⟨fr.toArray⟩, .int .i64 at_, .int .u8 qs, .bool rt, .slice A n c, .string ⟨tp.toArray⟩, .string ⟨py.toArray⟩] 29)) := (Fr.refl _ _).alloc _
  have HV := Lib.hid (hv.fr F0 (by simp))
  have HG := get_any (.slice A n c) ps 2 _ HV.out (by omega)
  have HI : Hid (leftI at_ ps now = if (getR ps 2).2 = true then at_ + ((getR ps 2).1.n : Int) - now else 0) := Lib.hid rfl
  have HB : Hid (leftB ps = (getR ps 2).2) := Lib.hid rfl
  generalize getR ps 2 = R at *
  obtain ⟨⟨pi, pn, pss, pt⟩, b⟩ := R
  dsimp only at hp HG HI HB
  replace HG := Lib.hid HG
  clear hv HV hn
  cases b
  all_goals
    go_enter Try.func51, Try.ntmps51
    go_wp2_with fail
    refine HG.out.mono ?_
    rintro _ w1 ⟨rfl, g1⟩
    obtain ⟨⟨e0, e1, e2, e3, e4, e5, e6⟩, _, _⟩ := blk7_facts (g1.blk hb (by simp))
    have F1 := Lib.hid ((F0.trans g1 (by simp)).alloc (.cells #[.int .i64 pi, .int .u32 (pn : Int), .string ⟨pss.toArray⟩, .string ⟨pt.toArray⟩] 136))
    clear hb F0 g1
    go_wp2
    go_ret2
    rw [HI.out, HB.out]
    exact ⟨rfl, F1.out⟩
theorem gone_any (x : Ms) (ps : List Pr) (now : Int) (w : World) (hv : View w (.slice x.A x.n x.c) ps.length (ps.flatMap prE)) (hl : ps.length ≤ 1000000) (hn : ∀ p ∈ ps, p.n < 4294967296) (h0 : 0 ≤ x.at_) (h1 : x.at_ ≤ 1000000) (h2 : 0 ≤ now) (h3 : now ≤ 1000000) :
    Calls Try.prog 25 #[.agg (msC x).toArray, .int .i64 now] w fun e w' => e = .returned (.bool (goneB x.at_ ps now)) ∧ Fr [] w w' := by
  have F0 : Fr [] w (w.alloc (.cells (msC x).toArray 29)) := (Fr.refl _ _).alloc _
  have HG := Lib.hid (left_any x ps now _ (hv.fr F0 (by simp)) hl hn h0 h1 h2 h3)
  have HB : Hid (goneB x.at_ ps now = (leftB ps && decide (leftI x.at_ ps now ≤ 0))) := Lib.hid rfl
  generalize leftB ps = b at *
  generalize leftI x.at_ ps now = d at *
  generalize goneB x.at_ ps now = gb at *
  obtain ⟨fr, at_, qs, rt, A, n, c, tp, py⟩ := x
  unfold msC at HG F0 ⊢
  clear hv hn h0 h1 h2 h3
  cases b
  all_goals
    go_enter Try.func25, Try.ntmps25
    go_wp2_with fail
    refine HG.out.mono ?_
    rintro _ w1 ⟨rfl, g1⟩
    have F1 := Lib.hid (F0.trans g1 (by simp))
    clear F0 g1
    go_wp2
    go_ret
    rw [HB.out]
    exact ⟨ret_bool (by simp), F1.out⟩
set_option maxHeartbeats 1000000 in
theorem rleft_any (x : Ms) (ps : List Pr) (now : Int) (w : World) (hv : View w (.slice x.A x.n x.c) ps.length (ps.flatMap prE)) (hl : ps.length ≤ 1000000) (hn : ∀ p ∈ ps, p.n < 4294967296) (h0 : 0 ≤ x.at_) (h1 : x.at_ ≤ 1000000) (h2 : 0 ≤ now) (h3 : now ≤ 1000000) :
    Calls Try.prog 72 #[.agg (msC x).toArray, .int .i64 now] w fun e w' => e = .returned (.tuple #[.int .i64 (leftI x.at_ ps now), .bool (leftB ps)]) ∧ Fr [] w w' := by
  have HC : Hid (0 < ps.length → ∃ bb off c, Value.slice x.A x.n x.c = .slice (some ⟨bb, off, none⟩) ps.length c ∧ bb < w.heap.size ∧ ∀ (i : Nat) (hi : i < ps.length) j u, (prE ps[i])[j]? = some u → w.cell? ⟨bb, off + i * 4 + j, none⟩ = some u) := Lib.hid (fun hl => hv.at prE_len (by decide) hl)
  have hxn : x.n = ps.length := by
    obtain ⟨_, _, he, _⟩ := hv
    injection he
  obtain ⟨fr, at_, qs, rt, A, n, c, tp, py⟩ := x
  dsimp only at hv h0 h1 HC hxn ⊢
  subst hxn
  unfold msC
  have HN := Lib.hid hn
  have hb := blk_new w (.cells #[.string ⟨fr.toArray⟩, .int .i64 at_, .int .u8 qs, .bool rt, .slice A ps.length c, .string ⟨tp.toArray⟩, .string ⟨py.toArray⟩] 42)
  have F0 : Fr [] w (w.alloc (.cells #[.string ⟨fr.toArray⟩, .int .i64 at_, .int .u8 qs, .bool rt, .slice A ps.length c, .string ⟨tp.toArray⟩, .string ⟨py.toArray⟩] 42)) := (Fr.refl _ _).alloc _
  clear hv hn
  go_enter Try.func72, Try.ntmps72
  go_wp2
  go_loopw [11] (fun i wr => ∃ k : Nat, i = .int .i64 k ∧ k ≤ ps.length ∧ Hid (∀ p ∈ ps.take k, p.id ≠ 2) ∧ wr.heap[w.heap.size]? = some (.cells #[.string ⟨fr.toArray⟩, .int .i64 at_, .int .u8 qs, .bool rt, .slice A ps.length c, .string ⟨tp.toArray⟩, .string ⟨py.toArray⟩] 42 (0, 0)) ∧ Fr [] w wr) (fun i _ => ps.length - (intOf i).toNat)
  case atStart => exact ⟨0, rfl, by omega, Lib.hid (by simp), hb, F0⟩
  case round =>
    clear hb F0
    obtain ⟨k, rfl, hk, HP, hbk, hfr⟩ := hrel
    have HF := Lib.hid hfr
    have HB := Lib.hid hbk
    have hbl := blk_lt hbk
    obtain ⟨⟨e0, e1, e2, e3, e4, e5, e6⟩, _, _⟩ := blk7_facts hbk
    clear hfr hbk
    by_cases hlt : k < ps.length
    · obtain ⟨bb, off, c', hsl, hbb, hc⟩ := HC.out (by omega)
      cases hsl
      have hcell := hc k hlt
      have hpn := HN.out ps[k] (List.getElem_mem hlt)
      have hat := fun h => getR_at ps 2 k hlt HP.out h
      have hst : Hid (ps[k].id ≠ 2 → ∀ p ∈ ps.take (k + 1), p.id ≠ 2) := Lib.hid (fun hne x hx => by
        rw [List.take_succ_eq_append_getElem hlt] at hx
        rcases List.mem_append.1 hx with hx | hx
        · exact HP.out x hx
        · rw [List.mem_singleton.1 hx]; exact hne)
      generalize ps[k] = y at *
      obtain ⟨xi, xn, xs, xt⟩ := y
      have c0 : wr.cell? ⟨bb, off + k * 4, none⟩ = some (.int .i64 xi) := HF.out.cell (hcell 0 _ rfl) (by simp)
      have c1 : wr.cell? ⟨bb, off + k * 4 + 1, none⟩ = some (.int .u32 xn) := HF.out.cell (hcell 1 _ rfl) (by simp)
      have c2 : wr.cell? ⟨bb, off + k * 4 + 2, none⟩ = some (.string ⟨xs.toArray⟩) := HF.out.cell (hcell 2 _ rfl) (by simp)
      have c3 : wr.cell? ⟨bb, off + k * 4 + 3, none⟩ = some (.string ⟨xt.toArray⟩) := HF.out.cell (hcell 3 _ rfl) (by simp)
      have fr1 := Lib.hid (HF.out.alloc (.cells #[.int .i64 xi, .int .u32 xn, .string ⟨xs.toArray⟩, .string ⟨xt.toArray⟩] 139))
      have hb1 := Lib.hid (blk_old HB.out (.cells #[.int .i64 xi, .int .u32 xn, .string ⟨xs.toArray⟩, .string ⟨xt.toArray⟩] 139))
      have Hat := Lib.hid hat
      clear hcell hc hat
      dsimp only at Hat hst hpn
      by_cases he : xi = 2
      · have HI : Hid (leftI at_ ps now = at_ + (xn : Int) - now) := Lib.hid (by rw [leftI, Hat.out he, if_pos rfl])
        have HB2 : Hid (leftB ps = true) := Lib.hid (by rw [leftB, Hat.out he])
        subst he
        go_wp2
        go_ret2
        rw [HI.out, HB2.out]
        exact ⟨rfl, fr1.out⟩
      · have he1 : (xi == 2) = false := by simpa using he
        have HS := Lib.hid (hst.out he)
        clear he
        go_wp2
        go_roundw
        case rel => exact ⟨k + 1, by go_num, by omega, HS, hb1.out, fr1.out⟩
        case measure => simp [intOf]; omega
    · have hno := getR_no ps 2 (by have := HP.out; rwa [List.take_of_length_le (by omega)] at this)
      have HI : Hid (leftI at_ ps now = 0) := Lib.hid (by rw [leftI, hno]; rfl)
      have HB2 : Hid (leftB ps = false) := Lib.hid (by rw [leftB, hno])
      clear hno
      go_wp2
      go_ret2
      rw [HI.out, HB2.out]
      exact ⟨rfl, HF.out⟩
theorem rgone_any (x : Ms) (ps : List Pr) (now : Int) (w : World) (hv : View w (.slice x.A x.n x.c) ps.length (ps.flatMap prE)) (hl : ps.length ≤ 1000000) (hn : ∀ p ∈ ps, p.n < 4294967296) (h0 : 0 ≤ x.at_) (h1 : x.at_ ≤ 1000000) (h2 : 0 ≤ now) (h3 : now ≤ 1000000) :
    Calls Try.prog 52 #[.agg (msC x).toArray, .int .i64 now] w fun e w' => e = .returned (.bool (goneB x.at_ ps now)) ∧ Fr [] w w' := by
  have F0 : Fr [] w (w.alloc (.cells (msC x).toArray 42)) := (Fr.refl _ _).alloc _
  have HG := Lib.hid (rleft_any x ps now _ (hv.fr F0 (by simp)) hl hn h0 h1 h2 h3)
  have HB : Hid (goneB x.at_ ps now = (leftB ps && decide (leftI x.at_ ps now ≤ 0))) := Lib.hid rfl
  generalize leftB ps = b at *
  generalize leftI x.at_ ps now = d at *
  generalize goneB x.at_ ps now = gb at *
  obtain ⟨fr, at_, qs, rt, A, n, c, tp, py⟩ := x
  unfold msC at HG F0 ⊢
  clear hv hn h0 h1 h2 h3
  cases b
  all_goals
    go_enter Try.func52, Try.ntmps52
    go_wp2_with fail
    refine HG.out.mono ?_
    rintro _ w1 ⟨rfl, g1⟩
    have F1 := Lib.hid (F0.trans g1 (by simp))
    clear F0 g1
    go_wp2
    go_ret
    rw [HB.out]
    exact ⟨ret_bool (by simp <;> omega), F1.out⟩
end Go.Proofs.Ytnplinohoflabaa
