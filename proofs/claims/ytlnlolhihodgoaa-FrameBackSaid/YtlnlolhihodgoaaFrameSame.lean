/- What Same and 'awake' of layer 5 come to. -/
import Derived.Test.YtlnlolhihodgoaaFrameRef
namespace Go.Proofs.Ytlnlolhihodgoaa
open Go.RowKit

def sameI (l m : List Fm) : Int := if l = m then 0 else -1
theorem fm_ne (x y : Fm) (h : x ≠ y) : (x.k == y.k && (x.f == y.f && x.b == y.b)) = false := by
  obtain ⟨a, b, c⟩ := x
  obtain ⟨a', b', c'⟩ := y
  simp at *
  exact h
set_option maxRecDepth 100000 in
set_option maxHeartbeats 2000000 in
theorem same5_any (v u : Value) (l m : List Fm) (w : World) (hv : View w v l.length (l.flatMap frE)) (hu : View w u m.length (m.flatMap frE)) (hl : l.length ≤ 9223372036854775807) (hm : m.length ≤ 9223372036854775807) :
    Calls Try.prog 19 #[v, u] w fun e w' => e = .returned (.int .i64 (sameI l m)) ∧ Fr [] w w' := by
  by_cases hlen : l.length = m.length
  rotate_left
  · have h1 : ((l.length : Int) != (m.length : Int)) = true := by simp; omega
    have HE : Hid (sameI l m = -1) := Lib.hid (if_neg (fun h => hlen (by rw [h])))
    obtain ⟨A, c, rfl, _⟩ := hv
    obtain ⟨A', c', rfl, _⟩ := hu
    clear hlen
    go_enter Try.func19, Try.ntmps19
    go_wp2
    go_ret
    rw [HE.out]
    exact ⟨rfl, Fr.refl _ _⟩
  have h1 : ((l.length : Int) != (m.length : Int)) = false := by simp; omega
  by_cases hm0 : m.length = 0
  · obtain rfl : m = [] := List.eq_nil_of_length_eq_zero hm0
    obtain rfl : l = [] := List.eq_nil_of_length_eq_zero (by omega)
    obtain ⟨A, c, rfl, _⟩ := hv
    obtain ⟨A', c', rfl, _⟩ := hu
    go_enter Try.func19, Try.ntmps19
    go_wp2
    go_rounds 1
    all_goals go_ret
    all_goals exact ⟨rfl, Fr.refl _ _⟩
  obtain ⟨b, off, c, rfl, hb, hc⟩ := hv.at frE_len (by decide) (by omega)
  obtain ⟨b', off', c', rfl, hb', hc'⟩ := hu.at frE_len (by decide) (by omega)
  have HL := Lib.hid hlen
  have HC := Lib.hid hc
  have HC' := Lib.hid hc'
  clear hc hc' hv hu hlen
  go_enter Try.func19, Try.ntmps19
  go_wp2
  go_loopw [13] (fun i wr => ∃ k : Nat, i = .int .i64 k ∧ k ≤ m.length ∧ l.take k = m.take k ∧ Fr [] w wr) (fun i _ => m.length - (intOf i).toNat)
  case atStart => exact ⟨0, rfl, by omega, rfl, Fr.refl _ _⟩
  case round =>
    obtain ⟨k, rfl, hk, htk, hfr⟩ := hrel
    have HT := Lib.hid htk
    have HF := Lib.hid hfr
    clear htk hfr
    by_cases hkm : k < m.length
    · have hkl : k < l.length := by have := HL.out; omega
      have hkl2 : (k : Int) < (l.length : Int) := by omega
      obtain ⟨x, hx⟩ : ∃ x, l[k] = x := ⟨_, rfl⟩
      obtain ⟨y, hy⟩ : ∃ y, m[k] = y := ⟨_, rfl⟩
      have c0 := HC.out k hkl
      have d0 := HC'.out k hkm
      rw [hx] at c0
      rw [hy] at d0
      have hxy : Hid (l.take (k + 1) = m.take (k + 1) ↔ x = y) := Lib.hid (by
        rw [List.take_succ_eq_append_getElem hkl, List.take_succ_eq_append_getElem hkm, HT.out, hx, hy]; simp)
      have hxy2 : Hid (l = m → x = y) := Lib.hid (by rintro rfl; rw [← hx, ← hy])
      clear hx hy
      obtain ⟨xk, xf, xb⟩ := x
      obtain ⟨yk, yf, yb⟩ := y
      have a0 : wr.cell? ⟨b, off + k * 3, none⟩ = some (.int .i64 xk) := HF.out.cell (c0 0 _ rfl) (by simp)
      have a1 : wr.cell? ⟨b, off + k * 3 + 1, none⟩ = some (.int .i64 xf) := HF.out.cell (c0 1 _ rfl) (by simp)
      have a2 : wr.cell? ⟨b, off + k * 3 + 2, none⟩ = some (.string ⟨xb.toArray⟩) := HF.out.cell (c0 2 _ rfl) (by simp)
      have b0 : wr.cell? ⟨b', off' + k * 3, none⟩ = some (.int .i64 yk) := HF.out.cell (d0 0 _ rfl) (by simp)
      have b1 : wr.cell? ⟨b', off' + k * 3 + 1, none⟩ = some (.int .i64 yf) := HF.out.cell (d0 1 _ rfl) (by simp)
      have b2 : wr.cell? ⟨b', off' + k * 3 + 2, none⟩ = some (.string ⟨yb.toArray⟩) := HF.out.cell (d0 2 _ rfl) (by simp)
      clear c0 d0
      have hff := Lib.hid (HF.out.drew)
      by_cases heq : (Fm.mk xk xf xb) = (Fm.mk yk yf yb)
      · have HQ := Lib.hid (hxy.out.2 heq)
        cases heq
        go_wp2
        go_region_held3 (fun w' => w'.cell? ⟨b, off + k * 3, none⟩ = some (.int .i64 xk) ∧ w'.cell? ⟨b, off + k * 3 + 1, none⟩ = some (.int .i64 xf) ∧ w'.cell? ⟨b, off + k * 3 + 2, none⟩ = some (.string ⟨xb.toArray⟩) ∧ w'.cell? ⟨b', off' + k * 3, none⟩ = some (.int .i64 xk) ∧ w'.cell? ⟨b', off' + k * 3 + 1, none⟩ = some (.int .i64 xf) ∧ w'.cell? ⟨b', off' + k * 3 + 2, none⟩ = some (.string ⟨xb.toArray⟩)) (exact ⟨a0, a1, a2, b0, b1, b2⟩) (fail)
        go_wp2
        go_roundw
        case rel => exact ⟨k + 1, by go_num, by omega, HQ.out, hff.out⟩
        case measure => simp [intOf]; omega
      · have HN := Lib.hid (show ¬ l = m from fun h => heq (hxy2.out h))
        by_cases e0 : xk = yk
        · subst e0
          by_cases e1 : xf = yf
          · subst e1
            have e2 : xb ≠ yb := fun h => heq (by rw [h])
            clear heq
            go_wp2
            go_region_held3 (fun w' => w'.cell? ⟨b, off + k * 3, none⟩ = some (.int .i64 xk) ∧ w'.cell? ⟨b, off + k * 3 + 1, none⟩ = some (.int .i64 xf) ∧ w'.cell? ⟨b, off + k * 3 + 2, none⟩ = some (.string ⟨xb.toArray⟩) ∧ w'.cell? ⟨b', off' + k * 3, none⟩ = some (.int .i64 xk) ∧ w'.cell? ⟨b', off' + k * 3 + 1, none⟩ = some (.int .i64 xf) ∧ w'.cell? ⟨b', off' + k * 3 + 2, none⟩ = some (.string ⟨yb.toArray⟩)) (exact ⟨a0, a1, a2, b0, b1, b2⟩) (fail)
            go_wp2
            go_ret
            rw [sameI, if_neg HN.out]
            exact ⟨rfl, hff.out⟩
          · clear heq
            go_wp2
            go_region_held3 (fun w' => w'.cell? ⟨b, off + k * 3, none⟩ = some (.int .i64 xk) ∧ w'.cell? ⟨b, off + k * 3 + 1, none⟩ = some (.int .i64 xf) ∧ w'.cell? ⟨b, off + k * 3 + 2, none⟩ = some (.string ⟨xb.toArray⟩) ∧ w'.cell? ⟨b', off' + k * 3, none⟩ = some (.int .i64 xk) ∧ w'.cell? ⟨b', off' + k * 3 + 1, none⟩ = some (.int .i64 yf) ∧ w'.cell? ⟨b', off' + k * 3 + 2, none⟩ = some (.string ⟨yb.toArray⟩)) (exact ⟨a0, a1, a2, b0, b1, b2⟩) (fail)
            go_wp2
            go_ret
            rw [sameI, if_neg HN.out]
            exact ⟨rfl, hff.out⟩
        · clear heq
          go_wp2
          go_region_held3 (fun w' => w'.cell? ⟨b, off + k * 3, none⟩ = some (.int .i64 xk) ∧ w'.cell? ⟨b, off + k * 3 + 1, none⟩ = some (.int .i64 xf) ∧ w'.cell? ⟨b, off + k * 3 + 2, none⟩ = some (.string ⟨xb.toArray⟩) ∧ w'.cell? ⟨b', off' + k * 3, none⟩ = some (.int .i64 yk) ∧ w'.cell? ⟨b', off' + k * 3 + 1, none⟩ = some (.int .i64 yf) ∧ w'.cell? ⟨b', off' + k * 3 + 2, none⟩ = some (.string ⟨yb.toArray⟩)) (exact ⟨a0, a1, a2, b0, b1, b2⟩) (fail)
          go_wp2
          go_ret
          rw [sameI, if_neg HN.out]
          exact ⟨rfl, hff.out⟩
    · obtain rfl : k = m.length := by omega
      have HQ := Lib.hid (show l = m by have := HT.out; rw [List.take_of_length_le (by have := HL.out; omega), List.take_of_length_le (by omega)] at this; exact this)
      go_wp2
      go_ret
      rw [sameI, if_pos HQ.out]
      exact ⟨rfl, HF.out⟩
end Go.Proofs.Ytlnlolhihodgoaa
