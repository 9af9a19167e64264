/- What Same, Told, Few of the law package of layer 3 come to. Conditions: strings that may be. -/
import Derived.Test.YtlnlolhihodgoaaPropD
import Derived.Test.YtlnlolhihodgoaaLawA
import Derived.Test.YtlnlolhihodgoaaFrameNext
import Derived.Deep.RegionHeld3
import Derived.BigQuiet
namespace Go.Proofs.Ytlnlolhihodgoaa
open Go.RowKit

def sameP (l m : List Pr) : Int := if l = m then 0 else -1
set_option maxRecDepth 100000 in
set_option maxHeartbeats 2000000 in
theorem same3_any (v u : Value) (l m : List Pr) (w : World) (hv : View w v l.length (l.flatMap prE)) (hu : View w u m.length (m.flatMap prE)) (hl : l.length ≤ 9223372036854775807) (hm : m.length ≤ 9223372036854775807) :
    Calls Try.prog 31 #[v, u] w fun e w' => e = .returned (.int .i64 (sameP l m)) ∧ Fr [] w w' := by
  by_cases hlen : l.length = m.length
  rotate_left
  · have h1 : ((l.length : Int) != (m.length : Int)) = true := by simp; omega
    have HE : Hid (sameP l m = -1) := Lib.hid (if_neg (fun h => hlen (by rw [h])))
    obtain ⟨A, c, rfl, _⟩ := hv
    obtain ⟨A', c', rfl, _⟩ := hu
    clear hlen
    go_enter Try.func31, Try.ntmps31
    go_wp2
    go_ret
    rw [HE.out]
    exact ⟨rfl, Fr.refl _ _⟩
  have h1 : ((l.length : Int) != (m.length : Int)) = false := by simp; omega
  by_cases hm0 : m.length = 0
  · obtain rfl : m = [] := List.eq_nil_of_length_eq_zero hm0
    obtain rfl : l = [] := List.eq_nil_of_length_eq_zero (by omega)
    obtain ⟨A, c, rfl, _⟩ := hv
    obtain ⟨A', c', rfl, _⟩ := hu
    go_enter Try.func31, Try.ntmps31
    go_wp2
    go_rounds 1
    all_goals go_ret
    all_goals exact ⟨rfl, Fr.refl _ _⟩
  obtain ⟨b, off, c, rfl, hb, hc⟩ := hv.at prE_len (by decide) (by omega)
  obtain ⟨b', off', c', rfl, hb', hc'⟩ := hu.at prE_len (by decide) (by omega)
  have HL := Lib.hid hlen
  have HC := Lib.hid hc
  have HC' := Lib.hid hc'
  clear hc hc' hv hu hlen
  go_enter Try.func31, Try.ntmps31
  go_wp2
  go_loopw [13] (fun i wr => ∃ k : Nat, i = .int .i64 k ∧ k ≤ m.length ∧ Hid (l.take k = m.take k) ∧ Fr [] w wr) (fun i _ => m.length - (intOf i).toNat)
  case atStart => exact ⟨0, rfl, by omega, Lib.hid rfl, Fr.refl _ _⟩
  case round =>
    obtain ⟨k, rfl, hk, HT, hfr⟩ := hrel
    have HF := Lib.hid hfr
    clear hfr
    by_cases hkm : k < m.length
    · have hkl : k < l.length := by have := HL.out; omega
      have hkl2 : (k : Int) < (l.length : Int) := by omega
      obtain ⟨x, hx⟩ : ∃ x, l[k] = x := ⟨_, rfl⟩
      obtain ⟨y, hy⟩ : ∃ y, m[k] = y := ⟨_, rfl⟩
      have c0 := HC.out k hkl
      have d0 := HC'.out k hkm
      rw [hx] at c0
      rw [hy] at d0
      have hxy : Hid (l.take (k + 1) = m.take (k + 1) ↔ x = y) := Lib.hid (by
        rw [List.take_succ_eq_append_getElem hkl, List.take_succ_eq_append_getElem hkm, HT.out, hx, hy]; simp)
      have hxy2 : Hid (l = m → x = y) := Lib.hid (by rintro rfl; rw [← hx, ← hy])
      clear hx hy
      obtain ⟨xi, xn, xs, xt⟩ := x
      obtain ⟨yi, yn, ys, yt⟩ := y
      have a0 : wr.cell? ⟨b, off + k * 4, none⟩ = some (.int .i64 xi) := HF.out.cell (c0 0 _ rfl) (by simp)
      have a1 : wr.cell? ⟨b, off + k * 4 + 1, none⟩ = some (.int .u32 xn) := HF.out.cell (c0 1 _ rfl) (by simp)
      have a2 : wr.cell? ⟨b, off + k * 4 + 2, none⟩ = some (.string ⟨xs.toArray⟩) := HF.out.cell (c0 2 _ rfl) (by simp)
      have a3 : wr.cell? ⟨b, off + k * 4 + 3, none⟩ = some (.string ⟨xt.toArray⟩) := HF.out.cell (c0 3 _ rfl) (by simp)
      have b0 : wr.cell? ⟨b', off' + k * 4, none⟩ = some (.int .i64 yi) := HF.out.cell (d0 0 _ rfl) (by simp)
      have b1 : wr.cell? ⟨b', off' + k * 4 + 1, none⟩ = some (.int .u32 yn) := HF.out.cell (d0 1 _ rfl) (by simp)
      have b2 : wr.cell? ⟨b', off' + k * 4 + 2, none⟩ = some (.string ⟨ys.toArray⟩) := HF.out.cell (d0 2 _ rfl) (by simp)
      have b3 : wr.cell? ⟨b', off' + k * 4 + 3, none⟩ = some (.string ⟨yt.toArray⟩) := HF.out.cell (d0 3 _ rfl) (by simp)
      clear c0 d0
      have hff := Lib.hid (HF.out.drew)
      by_cases heq : (Pr.mk xi xn xs xt) = (Pr.mk yi yn ys yt)
      · have HQ := Lib.hid (hxy.out.2 heq)
        cases heq
        go_wp2
        go_region_held3 (fun w' => w'.cell? ⟨b, off + k * 4, none⟩ = some (.int .i64 xi) ∧ w'.cell? ⟨b, off + k * 4 + 1, none⟩ = some (.int .u32 xn) ∧ w'.cell? ⟨b, off + k * 4 + 2, none⟩ = some (.string ⟨xs.toArray⟩) ∧ w'.cell? ⟨b, off + k * 4 + 3, none⟩ = some (.string ⟨xt.toArray⟩) ∧ w'.cell? ⟨b', off' + k * 4, none⟩ = some (.int .i64 xi) ∧ w'.cell? ⟨b', off' + k * 4 + 1, none⟩ = some (.int .u32 xn) ∧ w'.cell? ⟨b', off' + k * 4 + 2, none⟩ = some (.string ⟨xs.toArray⟩) ∧ w'.cell? ⟨b', off' + k * 4 + 3, none⟩ = some (.string ⟨xt.toArray⟩)) (exact ⟨a0, a1, a2, a3, b0, b1, b2, b3⟩) (fail)
        go_wp2
        go_roundw
        case rel => exact ⟨k + 1, by go_num, by omega, HQ, hff.out⟩
        case measure => simp [intOf]; omega
      · have HN := Lib.hid (show ¬ l = m from fun h => heq (hxy2.out h))
        by_cases e0 : xi = yi
        · subst e0
          by_cases e1 : xn = yn
          · subst e1
            by_cases e2 : xs = ys
            · subst e2
              have e3 : xt ≠ yt := fun h => heq (by rw [h])
              clear heq
              go_wp2
              go_region_held3 (fun w' => w'.cell? ⟨b, off + k * 4, none⟩ = some (.int .i64 xi) ∧ w'.cell? ⟨b, off + k * 4 + 1, none⟩ = some (.int .u32 xn) ∧ w'.cell? ⟨b, off + k * 4 + 2, none⟩ = some (.string ⟨xs.toArray⟩) ∧ w'.cell? ⟨b, off + k * 4 + 3, none⟩ = some (.string ⟨xt.toArray⟩) ∧ w'.cell? ⟨b', off' + k * 4, none⟩ = some (.int .i64 xi) ∧ w'.cell? ⟨b', off' + k * 4 + 1, none⟩ = some (.int .u32 xn) ∧ w'.cell? ⟨b', off' + k * 4 + 2, none⟩ = some (.string ⟨(xs).toArray⟩) ∧ w'.cell? ⟨b', off' + k * 4 + 3, none⟩ = some (.string ⟨yt.toArray⟩)) (exact ⟨a0, a1, a2, a3, b0, b1, b2, b3⟩) (fail)
              go_wp2
              go_ret
              rw [sameP, if_neg HN.out]
              exact ⟨rfl, hff.out⟩
            · clear heq
              go_wp2
              go_region_held3 (fun w' => w'.cell? ⟨b, off + k * 4, none⟩ = some (.int .i64 xi) ∧ w'.cell? ⟨b, off + k * 4 + 1, none⟩ = some (.int .u32 xn) ∧ w'.cell? ⟨b, off + k * 4 + 2, none⟩ = some (.string ⟨xs.toArray⟩) ∧ w'.cell? ⟨b, off + k * 4 + 3, none⟩ = some (.string ⟨xt.toArray⟩) ∧ w'.cell? ⟨b', off' + k * 4, none⟩ = some (.int .i64 xi) ∧ w'.cell? ⟨b', off' + k * 4 + 1, none⟩ = some (.int .u32 xn) ∧ w'.cell? ⟨b', off' + k * 4 + 2, none⟩ = some (.string ⟨(ys).toArray⟩) ∧ w'.cell? ⟨b', off' + k * 4 + 3, none⟩ = some (.string ⟨yt.toArray⟩)) (exact ⟨a0, a1, a2, a3, b0, b1, b2, b3⟩) (fail)
              go_wp2
              go_ret
              rw [sameP, if_neg HN.out]
              exact ⟨rfl, hff.out⟩
          · have e1' : ¬ (xn : Int) = (yn : Int) := by omega
            clear heq
            go_wp2
            go_region_held3 (fun w' => w'.cell? ⟨b, off + k * 4, none⟩ = some (.int .i64 xi) ∧ w'.cell? ⟨b, off + k * 4 + 1, none⟩ = some (.int .u32 xn) ∧ w'.cell? ⟨b, off + k * 4 + 2, none⟩ = some (.string ⟨xs.toArray⟩) ∧ w'.cell? ⟨b, off + k * 4 + 3, none⟩ = some (.string ⟨xt.toArray⟩) ∧ w'.cell? ⟨b', off' + k * 4, none⟩ = some (.int .i64 xi) ∧ w'.cell? ⟨b', off' + k * 4 + 1, none⟩ = some (.int .u32 yn) ∧ w'.cell? ⟨b', off' + k * 4 + 2, none⟩ = some (.string ⟨(ys).toArray⟩) ∧ w'.cell? ⟨b', off' + k * 4 + 3, none⟩ = some (.string ⟨yt.toArray⟩)) (exact ⟨a0, a1, a2, a3, b0, b1, b2, b3⟩) (fail)
            go_wp2
            go_ret
            rw [sameP, if_neg HN.out]
            exact ⟨rfl, hff.out⟩
        · clear heq
          go_wp2
          go_region_held3 (fun w' => w'.cell? ⟨b, off + k * 4, none⟩ = some (.int .i64 xi) ∧ w'.cell? ⟨b, off + k * 4 + 1, none⟩ = some (.int .u32 xn) ∧ w'.cell? ⟨b, off + k * 4 + 2, none⟩ = some (.string ⟨xs.toArray⟩) ∧ w'.cell? ⟨b, off + k * 4 + 3, none⟩ = some (.string ⟨xt.toArray⟩) ∧ w'.cell? ⟨b', off' + k * 4, none⟩ = some (.int .i64 yi) ∧ w'.cell? ⟨b', off' + k * 4 + 1, none⟩ = some (.int .u32 yn) ∧ w'.cell? ⟨b', off' + k * 4 + 2, none⟩ = some (.string ⟨(ys).toArray⟩) ∧ w'.cell? ⟨b', off' + k * 4 + 3, none⟩ = some (.string ⟨yt.toArray⟩)) (exact ⟨a0, a1, a2, a3, b0, b1, b2, b3⟩) (fail)
          go_wp2
          go_ret
          rw [sameP, if_neg HN.out]
          exact ⟨rfl, hff.out⟩
    · obtain rfl : k = m.length := by omega
      have HQ := Lib.hid (show l = m by have := HT.out; rw [List.take_of_length_le (by have := HL.out; omega), List.take_of_length_le (by omega)] at this; exact this)
      go_wp2
      go_ret
      rw [sameP, if_pos HQ.out]
      exact ⟨rfl, HF.out⟩
end Go.Proofs.Ytlnlolhihodgoaa
