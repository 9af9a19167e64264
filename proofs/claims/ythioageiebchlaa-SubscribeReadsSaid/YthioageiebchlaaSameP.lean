/- Two lists of properties, compared by the reference of layer 6. No condition. -/
import Derived.Test.YthioageiebchlaaProg
import Derived.Test.YthioageiebchlaaPr
import Derived.Deep.RegionHeld3
import Derived.BigQuiet
namespace Go.Proofs.Ythioageiebchlaa
open Go.RowKit
set_option linter.unusedVariables false
set_option linter.unusedSimpArgs false

set_option maxRecDepth 100000 in
set_option maxHeartbeats 2000000 in
theorem same6_any (v u : Value) (l : List Pr) (w : World) (hv : View w v l.length (l.flatMap prE)) (hu : View w u l.length (l.flatMap prE)) (hl : l.length ≤ 9223372036854775807) :
    Calls Try.prog 70 #[v, u] w fun e w' => e = .returned (.bool true) ∧ Fr [] w w' := by
  by_cases hm0 : l.length = 0
  · obtain rfl : l = [] := List.eq_nil_of_length_eq_zero hm0
    obtain ⟨A, c, rfl, _⟩ := hv
    obtain ⟨A', c', rfl, _⟩ := hu
    go_enter Try.func70, Try.ntmps70
    go_wp2
    go_rounds 1
    all_goals go_ret
    all_goals exact ⟨rfl, Fr.refl _ _⟩
  obtain ⟨b, off, c, rfl, hb, hc⟩ := hv.at prE_len (by decide) (by omega)
  obtain ⟨b', off', c', rfl, hb', hc'⟩ := hu.at prE_len (by decide) (by omega)
  have HC := Lib.hid hc
  have HC' := Lib.hid hc'
  clear hc hc' hv hu
  go_enter Try.func70, Try.ntmps70
  go_wp2
  go_loopw [13] (fun i wr => ∃ k : Nat, i = .int .i64 k ∧ k ≤ l.length ∧ Fr [] w wr) (fun i _ => l.length - (intOf i).toNat)
  case atStart => exact ⟨0, rfl, by omega, Fr.refl _ _⟩
  case round =>
    obtain ⟨k, rfl, hk, hfr⟩ := hrel
    have HF := Lib.hid hfr
    clear hfr
    by_cases hkm : k < l.length
    · obtain ⟨x, hx⟩ : ∃ x, l[k] = x := ⟨_, rfl⟩
      have c0 := HC.out k hkm
      have d0 := HC'.out k hkm
      rw [hx] at c0 d0
      clear hx
      obtain ⟨xi, xn, xs, xt⟩ := x
      have a0 : wr.cell? ⟨b, off + k * 4, none⟩ = some (.int .i64 xi) := HF.out.cell (c0 0 _ rfl) (by simp)
      have a1 : wr.cell? ⟨b, off + k * 4 + 1, none⟩ = some (.int .u32 xn) := HF.out.cell (c0 1 _ rfl) (by simp)
      have a2 : wr.cell? ⟨b, off + k * 4 + 2, none⟩ = some (.string ⟨xs.toArray⟩) := HF.out.cell (c0 2 _ rfl) (by simp)
      have a3 : wr.cell? ⟨b, off + k * 4 + 3, none⟩ = some (.string ⟨xt.toArray⟩) := HF.out.cell (c0 3 _ rfl) (by simp)
      have b0 : wr.cell? ⟨b', off' + k * 4, none⟩ = some (.int .i64 xi) := HF.out.cell (d0 0 _ rfl) (by simp)
      have b1 : wr.cell? ⟨b', off' + k * 4 + 1, none⟩ = some (.int .u32 xn) := HF.out.cell (d0 1 _ rfl) (by simp)
      have b2 : wr.cell? ⟨b', off' + k * 4 + 2, none⟩ = some (.string ⟨xs.toArray⟩) := HF.out.cell (d0 2 _ rfl) (by simp)
      have b3 : wr.cell? ⟨b', off' + k * 4 + 3, none⟩ = some (.string ⟨xt.toArray⟩) := HF.out.cell (d0 3 _ rfl) (by simp)
      clear c0 d0
      have hff := Lib.hid (HF.out.drew)
      go_wp2
      go_region_held3 (fun w' => w'.cell? ⟨b, off + k * 4, none⟩ = some (.int .i64 xi) ∧ w'.cell? ⟨b, off + k * 4 + 1, none⟩ = some (.int .u32 xn) ∧ w'.cell? ⟨b, off + k * 4 + 2, none⟩ = some (.string ⟨xs.toArray⟩) ∧ w'.cell? ⟨b, off + k * 4 + 3, none⟩ = some (.string ⟨xt.toArray⟩) ∧ w'.cell? ⟨b', off' + k * 4, none⟩ = some (.int .i64 xi) ∧ w'.cell? ⟨b', off' + k * 4 + 1, none⟩ = some (.int .u32 xn) ∧ w'.cell? ⟨b', off' + k * 4 + 2, none⟩ = some (.string ⟨xs.toArray⟩) ∧ w'.cell? ⟨b', off' + k * 4 + 3, none⟩ = some (.string ⟨xt.toArray⟩)) (exact ⟨a0, a1, a2, a3, b0, b1, b2, b3⟩) (fail)
      go_wp2
      go_roundw
      case rel => exact ⟨k + 1, by go_num, by omega, hff.out⟩
      case measure => simp [intOf]; omega
    · go_wp2
      go_ret
      exact ⟨rfl, HF.out⟩
theorem props6_any (v u : Value) (l : List Pr) (w : World) (hv : View w v l.length (l.flatMap prE)) (hu : View w u l.length (l.flatMap prE)) (hl : l.length ≤ 9223372036854775807) :
    Calls Try.prog 51 #[v, u] w fun e w' => e = .returned (.bool true) ∧ Fr [] w w' := by
  have HV := Lib.hid hv
  have HU := Lib.hid hu
  obtain ⟨A, c, rfl, _⟩ := hv
  obtain ⟨A', c', rfl, _⟩ := hu
  go_enter Try.func51, Try.ntmps51
  go_wp2_with fail
  refine (same6_any _ _ l _ HV.out HU.out hl).mono ?_
  rintro _ w1 ⟨rfl, g1⟩
  go_wp2
  go_ret
  exact ⟨rfl, g1⟩
end Go.Proofs.Ythioageiebchlaa
