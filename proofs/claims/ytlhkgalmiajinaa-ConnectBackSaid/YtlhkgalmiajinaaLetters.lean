/- What letters of a law package of the layers behind the third comes to: letters over the bytes of a text's first twenty. Conditions: strings that may be. -/
import Derived.Test.YtlhkgalmiajinaaPlainG
import Derived.Test.YtlhkgalmiajinaaLawA
namespace Go.Proofs.Ytlhkgalmiajinaa
open Go.RowKit
theorem enc_let (k : Nat) (h : k < 26) : Utf8.encode (97 + (k : Int)) = ⟨[b8 (97 + k)].toArray⟩ := by
  have hv : Utf8.valid (97 + (k : Int)) = true := by unfold Utf8.valid; simp; omega
  have ht : (97 + (k : Int)).toNat = 97 + k := by omega
  unfold Utf8.encode
  simp only [hv, if_true, ht]
  rw [if_pos (by omega)]
  rfl
set_option maxRecDepth 100000 in
theorem letters_law06 (s : List UInt8) (hs : s.length ≤ 9223372036854775807) (w : World) : Calls Try.prog 59 #[.string ⟨s.toArray⟩] w fun e w' => e = .returned (.string ⟨(lettersB (s.take 20)).toArray⟩) ∧ Fr [] w w' := by
  have hcv := fun (s : ByteArray) (W : World) => Lib.run_convert_string_bytes (P := Try.prog) W 9 60 5 s Try.underlying9 Try.underlying60 Try.underlying5
  go_enter Try.func59, Try.ntmps59
  go_wp2_with fail
  refine (cut_any s 20 w hs (by decide)).mono ?_
  rintro _ _ ⟨rfl, rfl⟩
  rw [show (20 : Int).toNat = 20 from rfl]
  have hl20 : (s.take 20).length ≤ 20 := List.length_take_le _ _
  obtain ⟨S, hS0⟩ : ∃ S, s.take 20 = S := ⟨_, rfl⟩
  rw [hS0] at hl20 ⊢
  have HS0 := Lib.hid hS0
  clear hS0
  have hle : ∀ k, (lettersB (S.take k)).length ≤ 20 := fun k => by rw [lettersB_len]; have := List.length_take_le' k S; omega
  have hle := Lib.hid hle
  go_wp2
  obtain ⟨w2, hw2⟩ : ∃ w2, Lib.bytesWorld w 5 ⟨S.toArray⟩ = w2 := ⟨_, rfl⟩
  rw [hw2]
  have hc : ∀ k, k < S.length → w2.cell? ⟨w.heap.size, k, none⟩ = some (.int .u8 ((S.getD k 0).toNat : Int)) := by
    intro k hk
    rw [← hw2]; exact Lib.bytesWorld_cell _ _ _ _ hk
  have HC := Lib.hid hc
  have HW : Hid (Fr [] w w2) := Lib.hid (by rw [← hw2]; exact ⟨rfl, rfl, rfl, by rw [Lib.bytesWorld_size]; omega, fun i hi _ => Lib.bytesWorld_at_old _ _ _ i hi⟩)
  clear hc hw2 hcv
  go_loop [3, 10] (fun o i => ∃ k : Nat, i = .int .i64 k ∧ k ≤ S.length ∧ o = .string ⟨(lettersB (S.take k)).toArray⟩) (fun _ i => S.length - (intOf i).toNat)
  case atStart => exact ⟨0, rfl, by omega, rfl⟩
  case round =>
    obtain ⟨k, rfl, hk, rfl⟩ := hrel
    by_cases hlt : k < S.length
    · have hl := hle.out k
      have hck := HC.out k hlt
      rw [show S.getD k 0 = S[k] from by simp [List.getD, List.getElem?_eq_getElem hlt]] at hck
      have hsn : Hid (lettersB (S.take (k + 1)) = lettersB (S.take k) ++ [b8 (97 + S[k].toNat % 26)]) := Lib.hid (by rw [List.take_succ_eq_append_getElem hlt]; unfold lettersB; rw [List.map_append]; rfl)
      have he := enc_let (S[k].toNat % 26) (Nat.mod_lt _ (by decide))
      rw [show ((S[k].toNat % 26 : Nat) : Int) = (S[k].toNat : Int) % 26 from by omega] at he
      have hc : S[k].toNat < 256 := S[k].toNat_lt
      have hL : ¬ 9223372036854775807 < (lettersB (S.take k)).length + 1 := by omega
      generalize b8 (97 + S[k].toNat % 26) = b at *
      generalize S[k].toNat = c at *
      generalize lettersB (S.take k) = L at *
      clear hl hle
      go_wp2
      go_round
      case rel => exact ⟨k + 1, by go_num, by omega, by rw [hsn.out, ByteArray.mk_append_mk]⟩
      case measure => simp [intOf]; omega
    · obtain rfl : k = S.length := by omega
      rw [List.take_length]
      go_wp2
      go_ret
      rw [HS0.out]
      exact ⟨rfl, HW.out⟩
set_option maxRecDepth 100000 in
theorem letters_law07 (s : List UInt8) (hs : s.length ≤ 9223372036854775807) (w : World) : Calls Try.prog 41 #[.string ⟨s.toArray⟩] w fun e w' => e = .returned (.string ⟨(lettersB (s.take 20)).toArray⟩) ∧ Fr [] w w' := by
  have hcv := fun (s : ByteArray) (W : World) => Lib.run_convert_string_bytes (P := Try.prog) W 9 60 5 s Try.underlying9 Try.underlying60 Try.underlying5
  go_enter Try.func41, Try.ntmps41
  go_wp2_with fail
  refine (cut_any s 20 w hs (by decide)).mono ?_
  rintro _ _ ⟨rfl, rfl⟩
  rw [show (20 : Int).toNat = 20 from rfl]
  have hl20 : (s.take 20).length ≤ 20 := List.length_take_le _ _
  obtain ⟨S, hS0⟩ : ∃ S, s.take 20 = S := ⟨_, rfl⟩
  rw [hS0] at hl20 ⊢
  have HS0 := Lib.hid hS0
  clear hS0
  have hle : ∀ k, (lettersB (S.take k)).length ≤ 20 := fun k => by rw [lettersB_len]; have := List.length_take_le' k S; omega
  have hle := Lib.hid hle
  go_wp2
  obtain ⟨w2, hw2⟩ : ∃ w2, Lib.bytesWorld w 5 ⟨S.toArray⟩ = w2 := ⟨_, rfl⟩
  rw [hw2]
  have hc : ∀ k, k < S.length → w2.cell? ⟨w.heap.size, k, none⟩ = some (.int .u8 ((S.getD k 0).toNat : Int)) := by
    intro k hk
    rw [← hw2]; exact Lib.bytesWorld_cell _ _ _ _ hk
  have HC := Lib.hid hc
  have HW : Hid (Fr [] w w2) := Lib.hid (by rw [← hw2]; exact ⟨rfl, rfl, rfl, by rw [Lib.bytesWorld_size]; omega, fun i hi _ => Lib.bytesWorld_at_old _ _ _ i hi⟩)
  clear hc hw2 hcv
  go_loop [3, 10] (fun o i => ∃ k : Nat, i = .int .i64 k ∧ k ≤ S.length ∧ o = .string ⟨(lettersB (S.take k)).toArray⟩) (fun _ i => S.length - (intOf i).toNat)
  case atStart => exact ⟨0, rfl, by omega, rfl⟩
  case round =>
    obtain ⟨k, rfl, hk, rfl⟩ := hrel
    by_cases hlt : k < S.length
    · have hl := hle.out k
      have hck := HC.out k hlt
      rw [show S.getD k 0 = S[k] from by simp [List.getD, List.getElem?_eq_getElem hlt]] at hck
      have hsn : Hid (lettersB (S.take (k + 1)) = lettersB (S.take k) ++ [b8 (97 + S[k].toNat % 26)]) := Lib.hid (by rw [List.take_succ_eq_append_getElem hlt]; unfold lettersB; rw [List.map_append]; rfl)
      have he := enc_let (S[k].toNat % 26) (Nat.mod_lt _ (by decide))
      rw [show ((S[k].toNat % 26 : Nat) : Int) = (S[k].toNat : Int) % 26 from by omega] at he
      have hc : S[k].toNat < 256 := S[k].toNat_lt
      have hL : ¬ 9223372036854775807 < (lettersB (S.take k)).length + 1 := by omega
      generalize b8 (97 + S[k].toNat % 26) = b at *
      generalize S[k].toNat = c at *
      generalize lettersB (S.take k) = L at *
      clear hl hle
      go_wp2
      go_round
      case rel => exact ⟨k + 1, by go_num, by omega, by rw [hsn.out, ByteArray.mk_append_mk]⟩
      case measure => simp [intOf]; omega
    · obtain rfl : k = S.length := by omega
      rw [List.take_length]
      go_wp2
      go_ret
      rw [HS0.out]
      exact ⟨rfl, HW.out⟩
end Go.Proofs.Ytlhkgalmiajinaa
