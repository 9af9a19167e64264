/- What New, Len, First, Weigh and light of package queue come to; Clone and Delete of slices at messages. Conditions: numbers that may be. -/
import Derived.Test.YtnplinohoflabaaProg
import Derived.Test.YtnplinohoflabaaMs
import Derived.Laws.ComplexArith
import Derived.WalkSpells
import Derived.Deep.RegionLaw
import Derived.Deep.QuietTactic
import Derived.BigQuiet
namespace Go.Proofs.Ytnplinohoflabaa
open Go.RowKit
set_option linter.unusedVariables false
set_option linter.unusedSimpArgs false

/-- A queue: the block of its two cells, its row. -/
def QAt (w : World) (base q : Nat) (v : Value) (L : List Ms) (most : Nat) : Prop :=
  w.heap[q]? = some (.cells #[v, .int .i64 (most : Int)] 100 (0, 0)) ∧ w.ownsRow base 29 7 v L.length (L.flatMap msC)
theorem QAt.fr {S : List Nat} {w w' : World} {base q : Nat} {v : Value} {L : List Ms} {most : Nat} (h : QAt w base q v L most) (hf : Fr S w w') (hq : q ∉ S) (hv : ∀ k, v.ownBlock = some k → k ∉ S) : QAt w' base q v L most :=
  ⟨hf.blk h.1 hq, own_fr hf h.2 hv⟩
theorem QAt.fr0 {w w' : World} {base q : Nat} {v : Value} {L : List Ms} {most : Nat} (h : QAt w base q v L most) (hf : Fr [] w w') : QAt w' base q v L most := h.fr hf (by simp) (by simp)

theorem qnew_any (n : Int) (w : World) :
    Calls Try.prog 14 #[.int .i64 n] w fun e w' => e = .returned (.pointer (some ⟨w.heap.size, 0, none⟩)) ∧ w' = w.alloc (.cells #[.slice none 0 0, .int .i64 (max n 0)] 100) := by
  go_enter Try.func14, Try.ntmps14
  go_wp2
  all_goals go_ret
  all_goals refine ⟨rfl, ?_⟩
  all_goals first | (rw [show max n 0 = n from by omega]) | (rw [show max n 0 = 0 from by omega])
theorem qlen_any (base q : Nat) (v : Value) (L : List Ms) (most : Nat) (w : World) (h : QAt w base q v L most) :
    Calls Try.prog 18 #[.pointer (some ⟨q, 0, none⟩)] w fun e w' => e = .returned (.int .i64 (L.length : Int)) ∧ w = w' := by
  obtain ⟨hq, ho⟩ := h
  obtain ⟨A, c, rfl⟩ := own_shape ho
  obtain ⟨c0, c1, z0, z1, _⟩ := blk2_facts hq
  clear hq ho
  go_enter Try.func18, Try.ntmps18
  go_wp2
  go_ret
  exact ⟨rfl, rfl⟩
set_option maxHeartbeats 1000000 in
theorem qfirst_any (base q : Nat) (v : Value) (L : List Ms) (most : Nat) (w : World) (h : QAt w base q v L most) :
    Calls Try.prog 27 #[.pointer (some ⟨q, 0, none⟩)] w fun e w' => e = .returned (.tuple #[.agg (msC (L.headD ms0)).toArray, .bool (!L.isEmpty)]) ∧ Fr [] w w' := by
  obtain ⟨hq, ho⟩ := h
  cases L with
  | nil =>
    obtain ⟨A, c, rfl⟩ := own_shape ho
    obtain ⟨c0, c1, z0, z1, _⟩ := blk2_facts hq
    clear hq ho
    simp only [List.length_nil] at c0
    go_enter Try.func27, Try.ntmps27
    go_wp2
    refine bodyPost_ret (v := .tuple #[.agg #[.string ⟨#[]⟩, .int .i64 0, .int .u8 0, .bool false, .slice none 0 0, .string ⟨#[]⟩, .string ⟨#[]⟩], .bool false]) (by simp [results, Try.results27, go_sem, *]) rfl ?_
    exact ⟨rfl, (Fr.refl _ _).alloc _⟩
  | cons x L =>
    have hc := (own_cells ho msC_len (by decide) (by simp))
    obtain ⟨g, cap, cur, rfl, hbg, hg, hh, h1, h2, h3, h4, hcell⟩ := hc
    obtain ⟨c0, c1, z0, z1, _⟩ := blk2_facts hq
    have hc0 := hcell 0 (by simp)
    rw [List.getElem_cons_zero] at hc0
    obtain ⟨fr, at_, qs, rt, A, n, c, tp, py⟩ := x
    have a0 : w.cell? ⟨g, 0, none⟩ = some (.string ⟨fr.toArray⟩) := hc0 0 _ rfl
    have a1 : w.cell? ⟨g, 1, none⟩ = some (.int .i64 at_) := hc0 1 _ rfl
    have a2 : w.cell? ⟨g, 2, none⟩ = some (.int .u8 qs) := hc0 2 _ rfl
    have a3 : w.cell? ⟨g, 3, none⟩ = some (.bool rt) := hc0 3 _ rfl
    have a4 : w.cell? ⟨g, 4, none⟩ = some (.slice A n c) := hc0 4 _ rfl
    have a5 : w.cell? ⟨g, 5, none⟩ = some (.string ⟨tp.toArray⟩) := hc0 5 _ rfl
    have a6 : w.cell? ⟨g, 6, none⟩ = some (.string ⟨py.toArray⟩) := hc0 6 _ rfl
    have l0 : ((L.length : Int) + 1 == 0) = false := by simp; omega
    have l1 : (0 : Int) < (L.length : Int) + 1 := by omega
    clear hq ho hh h4 hcell hc0
    simp only [List.length_cons] at c0
    go_enter Try.func27, Try.ntmps27
    go_wp2
    refine bodyPost_ret (v := .tuple #[.agg #[.string ⟨fr.toArray⟩, .int .i64 at_, .int .u8 qs, .bool rt, .slice A n c, .string ⟨tp.toArray⟩, .string ⟨py.toArray⟩], .bool true]) (by simp [results, Try.results27, go_sem, *]) rfl ?_
    exact ⟨rfl, (Fr.refl _ _).alloc _⟩
theorem qpred_any (x : Ms) (w : World) : Calls Try.prog 69 #[.agg (msC x).toArray] w fun e w' => e = .returned (.bool (x.q == 0)) ∧ Fr [] w w' := by
  obtain ⟨fr, at_, qs, rt, A, n, c, tp, py⟩ := x
  unfold msC
  go_enter Try.func69, Try.ntmps69
  go_wp2
  go_ret
  exact ⟨rfl, (Fr.refl _ _).alloc _⟩
/-- The place of the first light one. -/
def lightI (L : List Ms) : Int := match L.findIdx? (fun x => x.q == 0) with | some i => (i : Int) | none => -1
theorem lightI_no (L : List Ms) (h : ∀ x ∈ L, (x.q == 0) = false) : lightI L = -1 := by
  rw [lightI, List.findIdx?_eq_none_iff.2 h]
theorem lightI_at (L : List Ms) (k : Nat) (hk : k < L.length) (h : ∀ x ∈ L.take k, (x.q == 0) = false) (he : (L[k].q == 0) = true) : lightI L = (k : Int) := by
  have : L.findIdx? (fun x => x.q == 0) = some k := by
    rw [List.findIdx?_eq_some_iff_getElem]
    refine ⟨hk, he, fun j hj => ?_⟩
    have := h L[j] (by rw [List.mem_take_iff_getElem]; exact ⟨j, by omega, rfl⟩)
    simp [this]
  rw [lightI, this]
set_option maxHeartbeats 1000000 in
theorem qindex_any (v : Value) (L : List Ms) (w : World) (hv : View w v L.length (L.flatMap msC)) (hl : L.length ≤ 9223372036854775807) :
    Calls Try.prog 68 #[v, .func (.func 69) #[] #[]] w fun e w' => e = .returned (.int .i64 (lightI L)) ∧ Fr [] w w' := by
  have HC := Lib.hid (fun h => hv.at msC_len (by decide) h)
  obtain ⟨A, c, rfl, _⟩ := hv
  go_enter Try.func68, Try.ntmps68
  go_wp2
  go_loopw [8] (fun i wr => ∃ k : Nat, i = .int .i64 k ∧ k ≤ L.length ∧ Hid (∀ x ∈ L.take k, (x.q == 0) = false) ∧ Fr [] w wr) (fun i _ => L.length - (intOf i).toNat)
  case atStart => exact ⟨0, rfl, by omega, Lib.hid (by simp), Fr.refl _ _⟩
  case round =>
    obtain ⟨k, rfl, hk, HN, hfr⟩ := hrel
    have HF := Lib.hid hfr
    clear hfr
    by_cases hlt : k < L.length
    · obtain ⟨bb, off, c', hsl, hbb, hc⟩ := HC.out (by omega)
      cases hsl
      have hcell := hc k hlt
      have hat := fun he => lightI_at L k hlt HN.out he
      have hst : Hid ((L[k].q == 0) = false → ∀ x ∈ L.take (k + 1), (x.q == 0) = false) := Lib.hid (fun hne x hx => by
        rw [List.take_succ_eq_append_getElem hlt] at hx
        rcases List.mem_append.1 hx with hx | hx
        · exact HN.out x hx
        · rw [List.mem_singleton.1 hx]; exact hne)
      generalize L[k] = x at *
      have hpr := qpred_any x
      obtain ⟨fr, at_, qs, rt, A, n, c, tp, py⟩ := x
      have c0 : wr.cell? ⟨bb, off + k * 7, none⟩ = some (.string ⟨fr.toArray⟩) := HF.out.cell (hcell 0 _ rfl) (by simp)
      have c1 : wr.cell? ⟨bb, off + k * 7 + 1, none⟩ = some (.int .i64 at_) := HF.out.cell (hcell 1 _ rfl) (by simp)
      have c2 : wr.cell? ⟨bb, off + k * 7 + 2, none⟩ = some (.int .u8 qs) := HF.out.cell (hcell 2 _ rfl) (by simp)
      have c3 : wr.cell? ⟨bb, off + k * 7 + 3, none⟩ = some (.bool rt) := HF.out.cell (hcell 3 _ rfl) (by simp)
      have c4 : wr.cell? ⟨bb, off + k * 7 + 4, none⟩ = some (.slice A n c) := HF.out.cell (hcell 4 _ rfl) (by simp)
      have c5 : wr.cell? ⟨bb, off + k * 7 + 5, none⟩ = some (.string ⟨tp.toArray⟩) := HF.out.cell (hcell 5 _ rfl) (by simp)
      have c6 : wr.cell? ⟨bb, off + k * 7 + 6, none⟩ = some (.string ⟨py.toArray⟩) := HF.out.cell (hcell 6 _ rfl) (by simp)
      have Hat := Lib.hid hat
      have Hpr := Lib.hid hpr
      clear hcell hc hat hpr
      dsimp only [msC] at Hat hst Hpr
      by_cases hq : (qs == 0) = true
      · have HG := Lib.hid (Hat.out hq)
        have HQ := Lib.hid hq
        clear hq
        go_wp2_with fail
        refine (Hpr.out _).mono ?_
        rintro _ w1 ⟨rfl, g1⟩
        have hq := HQ.out
        have fr1 := Lib.hid (HF.out.trans g1 (by simp))
        clear g1
        go_wp2
        go_ret
        rw [HG.out]
        exact ⟨rfl, fr1.out⟩
      · have hq1 : (qs == 0) = false := by simpa using hq
        have HS := Lib.hid (hst.out hq1)
        have HQ := Lib.hid hq1
        clear hq hq1
        go_wp2_with fail
        refine (Hpr.out _).mono ?_
        rintro _ w1 ⟨rfl, g1⟩
        have hq := HQ.out
        have fr1 := Lib.hid (HF.out.trans g1 (by simp))
        clear g1
        go_wp2
        go_roundw
        case rel => exact ⟨k + 1, by go_num, by omega, HS, fr1.out⟩
        case measure => simp [intOf]; omega
    · have HG := Lib.hid (lightI_no L (by have := HN.out; rwa [List.take_of_length_le (by omega)] at this))
      go_wp2
      go_ret
      rw [HG.out]
      exact ⟨rfl, HF.out⟩
theorem qlight_any (base q : Nat) (v : Value) (L : List Ms) (most : Nat) (w : World) (h : QAt w base q v L most) (hl : L.length ≤ 9223372036854775807) :
    Calls Try.prog 46 #[.pointer (some ⟨q, 0, none⟩)] w fun e w' => e = .returned (.int .i64 (lightI L)) ∧ Fr [] w w' := by
  obtain ⟨hq, ho⟩ := h
  have HV := Lib.hid (own_view ho)
  obtain ⟨A, c, rfl⟩ := own_shape ho
  obtain ⟨c0, c1, z0, z1, _⟩ := blk2_facts hq
  clear hq ho
  go_enter Try.func46, Try.ntmps46
  go_wp2_with fail
  refine (qindex_any _ L w HV.out hl).mono ?_
  rintro _ w1 ⟨rfl, g1⟩
  go_wp2
  go_ret
  exact ⟨rfl, g1⟩
end Go.Proofs.Ytnplinohoflabaa
