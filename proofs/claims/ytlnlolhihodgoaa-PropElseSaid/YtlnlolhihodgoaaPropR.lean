/- What letters of the law package of layer 3 comes to. Conditions: strings that may be. -/
import Derived.Test.YtlnlolhihodgoaaPropQ
import Derived.Test.YtlnlolhihodgoaaPlainH
namespace Go.Proofs.Ytlnlolhihodgoaa
open Go.RowKit
theorem enc_let (k : Nat) (h : k < 26) : Utf8.encode (97 + (k : Int)) = ⟨[b8 (97 + k)].toArray⟩ := by
  have hv : Utf8.valid (97 + (k : Int)) = true := by unfold Utf8.valid; simp; omega
  have ht : (97 + (k : Int)).toNat = 97 + k := by omega
  unfold Utf8.encode
  simp only [hv, if_true, ht]
  rw [if_pos (by omega)]
  rfl
set_option maxRecDepth 100000 in
theorem letters_any (s : List UInt8) (hs : s.length ≤ 1000000) (w : World) : Calls Try.prog 64 #[.string ⟨s.toArray⟩] w fun e w' => e = .returned (.string ⟨(lettersB s).toArray⟩) ∧ w = w' := by
  have hle : ∀ k, (lettersB (s.take k)).length ≤ 1000000 := fun k => by rw [lettersB_len]; have := List.length_take_le' k s; omega
  have hle := Lib.hid hle
  go_enter Try.func64, Try.ntmps64
  go_wp2
  go_loop [3, 4] (fun o i => ∃ k : Nat, i = .int .i64 k ∧ k ≤ s.length ∧ o = .string ⟨(lettersB (s.take k)).toArray⟩) (fun _ i => s.length - (intOf i).toNat)
  case atStart => exact ⟨0, rfl, by omega, rfl⟩
  case round =>
    obtain ⟨k, rfl, hk, rfl⟩ := hrel
    by_cases hlt : k < s.length
    · have hl := hle.out k
      have hsn : Hid (lettersB (s.take (k + 1)) = lettersB (s.take k) ++ [b8 (97 + s[k].toNat % 26)]) := Lib.hid (by rw [List.take_succ_eq_append_getElem hlt]; unfold lettersB; rw [List.map_append]; rfl)
      have he := enc_let (s[k].toNat % 26) (Nat.mod_lt _ (by decide))
      rw [show ((s[k].toNat % 26 : Nat) : Int) = (s[k].toNat : Int) % 26 from by omega] at he
      have hc : s[k].toNat < 256 := s[k].toNat_lt
      replace he : Utf8.encode (97 + (((⟨s.toArray⟩ : ByteArray)[k]'(show k < s.toArray.size from by simpa using hlt)).toNat : Int) % 26) = ⟨[b8 (97 + s[k].toNat % 26)].toArray⟩ := he
      replace hc : ((⟨s.toArray⟩ : ByteArray)[k]'(show k < s.toArray.size from by simpa using hlt)).toNat < 256 := hc
      have hL : ¬ 9223372036854775807 < (lettersB (s.take k)).length + 1 := by omega
      generalize b8 (97 + s[k].toNat % 26) = b at *
      generalize lettersB (s.take k) = L at *
      clear hl hle
      go_wp2
      go_round
      case rel => exact ⟨k + 1, by go_num, by omega, by rw [hsn.out, ByteArray.mk_append_mk]⟩
      case measure => simp [intOf]; omega
    · obtain rfl : k = s.length := by omega
      rw [List.take_length]
      go_wp2
      go_ret
      exact ⟨rfl, rfl⟩
end Go.Proofs.Ytlnlolhihodgoaa
