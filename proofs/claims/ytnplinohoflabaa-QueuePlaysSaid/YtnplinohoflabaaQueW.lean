/- What Weigh of package queue comes to: a number of at most 63 as a complex number's part. Conditions: at most 63 messages. -/
import Derived.Test.YtnplinohoflabaaQueD
import Derived.Laws.ComplexArith
namespace Go.Proofs.Ytnplinohoflabaa
open Go.RowKit
set_option linter.unusedVariables false
set_option linter.unusedSimpArgs false

/-- A small number's bits. -/
def f32n (n : Nat) : Nat := if n = 0 then 0 else (127 + n.log2) * 8388608 + (n - 2 ^ n.log2) * 2 ^ (23 - n.log2)
theorem f32_one : ∀ a : Fin 64, floatBits .add .f32 (f32n a.val) 1065353216 = some (f32n (a.val + 1)) := by decide +kernel
theorem f32_zero : ∀ a : Fin 64, floatBits .add .f32 (f32n a.val) 0 = some (f32n a.val) := by decide +kernel
theorem c_light (a b : Nat) (ha : a < 64) (hb : b < 64) : cSumBits .add .f32 (f32n a) (f32n b) 1065353216 0 = some (f32n (a + 1), f32n b) := by
  simp only [cSumBits, f32_one ⟨a, ha⟩, f32_zero ⟨b, hb⟩, Option.bind_some]
theorem c_heavy (a b : Nat) (ha : a < 64) (hb : b < 64) : cSumBits .add .f32 (f32n a) (f32n b) 0 1065353216 = some (f32n a, f32n (b + 1)) := by
  simp only [cSumBits, f32_one ⟨b, hb⟩, f32_zero ⟨a, ha⟩, Option.bind_some]
def lightN (L : List Ms) : Nat := (L.filter ltMs).length
def heavyN (L : List Ms) : Nat := (L.filter fun x => !ltMs x).length
theorem weigh_sum (L : List Ms) : lightN L + heavyN L = L.length := by
  unfold lightN heavyN
  induction L with
  | nil => rfl
  | cons x L ih => cases h : ltMs x <;> simp [h] <;> omega
theorem lightN_snoc (l : List Ms) (x : Ms) : lightN (l ++ [x]) = lightN l + if ltMs x = true then 1 else 0 := by
  unfold lightN; rw [List.filter_append, List.length_append]; cases h : ltMs x <;> simp [h]
theorem heavyN_snoc (l : List Ms) (x : Ms) : heavyN (l ++ [x]) = heavyN l + if ltMs x = true then 0 else 1 := by
  unfold heavyN; rw [List.filter_append, List.length_append]; cases h : ltMs x <;> simp [h]
set_option maxHeartbeats 1000000 in
theorem qweigh_any (base q : Nat) (v : Value) (L : List Ms) (most : Nat) (w : World) (h : QAt w base q v L most) (hl : L.length < 64) :
    Calls Try.prog 16 #[.pointer (some ⟨q, 0, none⟩)] w fun e w' => e = .returned (.complex .f32 (f32n (lightN L)) (f32n (heavyN L))) ∧ Fr [] w w' := by
  obtain ⟨hq, ho⟩ := h
  have HC := Lib.hid (fun h => (own_view ho).at msC_len (by decide) h)
  obtain ⟨A, c, rfl⟩ := own_shape ho
  obtain ⟨c0, c1, z0, z1, _⟩ := blk2_facts hq
  clear hq ho
  go_enter Try.func16, Try.ntmps16
  go_wp2
  go_loopw [3, 11] (fun c i wr => ∃ k : Nat, i = .int .i64 k ∧ k ≤ L.length ∧ c = .complex .f32 (f32n (lightN (L.take k))) (f32n (heavyN (L.take k))) ∧ Fr [] w wr) (fun _ i _ => L.length - (intOf i).toNat)
  case atStart => exact ⟨0, rfl, by omega, rfl, Fr.refl _ _⟩
  case round =>
    obtain ⟨k, rfl, hk, rfl, hfr⟩ := hrel
    have HF := Lib.hid hfr
    clear hfr c0 c1 z0 z1
    by_cases hlt : k < L.length
    · obtain ⟨bb, off, c', hsl, hbb, hc⟩ := HC.out (by omega)
      cases hsl
      have hcell := hc k hlt
      have hw := weigh_sum (L.take k)
      rw [List.length_take] at hw
      have ht : L.take (k + 1) = L.take k ++ [L[k]] := List.take_succ_eq_append_getElem hlt
      have hl1 : Hid (lightN (L.take (k + 1)) = lightN (L.take k) + if ltMs L[k] = true then 1 else 0) := Lib.hid (by rw [ht, lightN_snoc])
      have hl2 : Hid (heavyN (L.take (k + 1)) = heavyN (L.take k) + if ltMs L[k] = true then 0 else 1) := Lib.hid (by rw [ht, heavyN_snoc])
      clear ht
      generalize L[k] = x at *
      obtain ⟨a, ha⟩ : ∃ a, lightN (L.take k) = a := ⟨_, rfl⟩
      obtain ⟨b, hb⟩ : ∃ b, heavyN (L.take k) = b := ⟨_, rfl⟩
      rw [ha, hb] at hw ⊢
      rw [ha] at hl1
      rw [hb] at hl2
      have s1 := fun W => run_complex_sum (P := Try.prog) W .add (Or.inl rfl) 32 .f32 _ _ _ _ _ _ (c_light a b (by omega) (by omega))
      have s2 := fun W => run_complex_sum (P := Try.prog) W .add (Or.inl rfl) 32 .f32 _ _ _ _ _ _ (c_heavy a b (by omega) (by omega))
      clear ha hb hw
      obtain ⟨fr, at_, qs, rt, A, n, c, tp, py⟩ := x
      have c0 : wr.cell? ⟨bb, off + k * 7, none⟩ = some (.string ⟨fr.toArray⟩) := HF.out.cell (hcell 0 _ rfl) (by simp)
      have c1 : wr.cell? ⟨bb, off + k * 7 + 1, none⟩ = some (.int .i64 at_) := HF.out.cell (hcell 1 _ rfl) (by simp)
      have c2 : wr.cell? ⟨bb, off + k * 7 + 2, none⟩ = some (.int .u8 qs) := HF.out.cell (hcell 2 _ rfl) (by simp)
      have c3 : wr.cell? ⟨bb, off + k * 7 + 3, none⟩ = some (.bool rt) := HF.out.cell (hcell 3 _ rfl) (by simp)
      have c4 : wr.cell? ⟨bb, off + k * 7 + 4, none⟩ = some (.slice A n c) := HF.out.cell (hcell 4 _ rfl) (by simp)
      have c5 : wr.cell? ⟨bb, off + k * 7 + 5, none⟩ = some (.string ⟨tp.toArray⟩) := HF.out.cell (hcell 5 _ rfl) (by simp)
      have c6 : wr.cell? ⟨bb, off + k * 7 + 6, none⟩ = some (.string ⟨py.toArray⟩) := HF.out.cell (hcell 6 _ rfl) (by simp)
      have FF := Lib.hid (HF.out.alloc (.cells #[.string ⟨fr.toArray⟩, .int .i64 at_, .int .u8 qs, .bool rt, .slice A n c, .string ⟨tp.toArray⟩, .string ⟨py.toArray⟩] 29))
      clear hcell hc
      by_cases hq : (qs == 0) = true
      · have L1 := Lib.hid (show lightN (L.take (k + 1)) = a + 1 from by rw [hl1.out, if_pos (show ltMs ⟨fr, at_, qs, rt, A, n, c, tp, py⟩ = true from hq)])
        have L2 := Lib.hid (show heavyN (L.take (k + 1)) = b from by rw [hl2.out, if_pos (show ltMs ⟨fr, at_, qs, rt, A, n, c, tp, py⟩ = true from hq), Nat.add_zero])
        clear hl1 hl2 s2
        go_wp2
        go_roundw
        case rel => exact ⟨k + 1, by go_num, by omega, by rw [L1.out, L2.out], FF.out⟩
        case measure => simp [intOf]; omega
      · have L1 := Lib.hid (show lightN (L.take (k + 1)) = a from by rw [hl1.out, if_neg (show ¬ ltMs ⟨fr, at_, qs, rt, A, n, c, tp, py⟩ = true from hq), Nat.add_zero])
        have L2 := Lib.hid (show heavyN (L.take (k + 1)) = b + 1 from by rw [hl2.out, if_neg (show ¬ ltMs ⟨fr, at_, qs, rt, A, n, c, tp, py⟩ = true from hq)])
        have hq1 : (qs == 0) = false := by simpa using hq
        clear hl1 hl2 s1 hq
        go_wp2
        go_roundw
        case rel => exact ⟨k + 1, by go_num, by omega, by rw [L1.out, L2.out], FF.out⟩
        case measure => simp [intOf]; omega
    · obtain rfl : k = L.length := by omega
      rw [List.take_length]
      go_wp2
      go_ret
      exact ⟨rfl, HF.out⟩
end Go.Proofs.Ytnplinohoflabaa
