/- The walk of the law OctetBack. -/
import Derived.Test.YtpbdngcngnkfmaaLawA
import Derived.Test.YtpbdngcngnkfmaaPlainA
namespace Go.Proofs.Ytpbdngcngnkfmaa
open Go.RowKit

set_option maxHeartbeats 2000000 in
theorem octetBack_walk (a0 : Int) (a1 : Int) (a2 : Int) (a3 : Int) (a4 : ByteArray) (a5 : ByteArray) (w0 : (Lit.int .u8 a0).wf = true) (w1 : (Lit.int .u32 a1).wf = true) (w2 : (Lit.int .u32 a2).wf = true) (w3 : (Lit.int .u32 a3).wf = true) (w4 : a4.size ≤ maxLen) (w5 : a5.size ≤ maxLen) (w : World) :
    Calls Try.prog 10 #[.int .u8 a0, .int .u32 a1, .int .u32 a2, .int .u32 a3, .string a4, .string a5] w fun e w' => e = .returned (.bool true) ∧ Fr [] w w' := by
  obtain ⟨s, rfl, hs⟩ := str_list a4
  obtain ⟨tl, rfl, ht⟩ := str_list a5
  obtain ⟨g0, g0'⟩ := wf_u8 w0
  obtain ⟨g1, g1'⟩ := wf_u32 w1
  obtain ⟨g2, g2'⟩ := wf_u32 w2
  obtain ⟨g3, g3'⟩ := wf_u32 w3
  rw [← hs] at w4
  rw [← ht] at w5
  unfold maxLen at w4 w5
  clear hs ht w0 w1 w2 w3
  obtain ⟨n0, rfl⟩ := Int.eq_ofNat_of_zero_le g0
  obtain ⟨n1, rfl⟩ := Int.eq_ofNat_of_zero_le g1
  obtain ⟨n2, rfl⟩ := Int.eq_ofNat_of_zero_le g2
  obtain ⟨n3, hn3, hn3'⟩ : ∃ A : Nat, (if (268435455 : Int) < a3 then 268435455 else a3) = (A : Int) ∧ A ≤ 268435455 := ⟨(if (268435455 : Int) < a3 then 268435455 else a3).toNat, by split <;> omega, by split <;> omega⟩
  have hand := and_u32 16 (n1 : Int) 65535 (by decide) (by decide) (by omega) (by omega)
  go_enter Try.func10, Try.ntmps10
  go_wp2_with fail
  refine (awake1_any w).mono ?_
  rintro _ w1 ⟨rfl, hf1⟩
  have hb0 := hf1.size
  go_wp2_with fail
  refine (cut_any s 100 w1 (by omega) (by decide)).mono ?_
  rintro _ w2 ⟨rfl, rfl⟩
  rw [show (100 : Int).toNat = 100 from rfl]
  go_wp2_with fail
  refine (cut_any tl 20 w1 (by omega) (by decide)).mono ?_
  rintro _ w2 ⟨rfl, rfl⟩
  rw [show (20 : Int).toNat = 20 from rfl]
  have hl : (s.take 100).length ≤ 100 := List.length_take_le _ _
  have hk : (tl.take 20).length ≤ 20 := List.length_take_le _ _
  have hst : (s.take 100).take 65535 = s.take 100 := List.take_of_length_le (by omega)
  generalize s.take 100 = l at *
  generalize tl.take 20 = k at *
  have hff : Fr [] w (w1.alloc (.cells #[.slice none 0 0] 36)) := hf1.alloc _
  have hno := OutAt.new w1
  have hsz0 : w1.heap.size < (w1.alloc (.cells #[.slice none 0 0] 36)).heap.size := by simp
  clear hf1
  go_wp2_with fail
  refine (outbyte_any _ _ [] n0 _ hno (by omega) (by omega) (by simp)).mono ?_
  rintro _ x1 ⟨rfl, o1, h1, ho_, hf_⟩
  have hs_ := hff.size
  replace hff := hff.trans hf_ (by simp; omega)
  have hb_o : w.heap.size ≤ o1 := by omega
  clear hf_ ho_ hs_
  go_wp2_with fail
  refine (outtwo_any _ _ _ n1 _ h1 (by omega) (by omega) (by simp)).mono ?_
  rintro _ x2 ⟨rfl, o2, h2, ho_, hf_⟩
  have hs_ := hff.size
  replace hff := hff.trans hf_ (by simp; omega)
  have hb_o : w.heap.size ≤ o2 := by omega
  clear hf_ ho_ hs_
  go_wp2_with fail
  refine (outfour_any _ _ _ n2 _ h2 (by omega) (by omega) (by (try unfold four); (try unfold two); (try simp) <;> omega)).mono ?_
  rintro _ x3 ⟨rfl, o3, h3, ho_, hf_⟩
  have hs_ := hff.size
  replace hff := hff.trans hf_ (by simp; omega)
  have hb_o : w.heap.size ≤ o3 := by omega
  clear hf_ ho_ hs_
  go_wp2_with fail
  refine (outvar_any _ _ _ n3 _ h3 (by omega) (by omega) (by (try unfold four); (try unfold two); (try simp) <;> omega)).mono ?_
  rintro _ x4 ⟨rfl, o4, h4, ho_, hf_⟩
  have hs_ := hff.size
  replace hff := hff.trans hf_ (by simp; omega)
  have hb_o : w.heap.size ≤ o4 := by omega
  clear hf_ ho_ hs_
  go_wp2_with fail
  have hv := var_len4 n3
  refine (outdata_any _ _ _ l _ h4 (by omega) (by (try unfold four); (try unfold two); (try simp) <;> omega)).mono ?_
  rintro _ x5 ⟨rfl, o5, h5, ho_, hf_⟩
  have hs_ := hff.size
  replace hff := hff.trans hf_ (by simp; omega)
  have hb_o : w.heap.size ≤ o5 := by omega
  clear hf_ ho_ hs_
  have hd : (dataB l).length ≤ 102 := by simp [dataB, two]; omega
  go_wp2_with fail
  refine (outraw_any _ _ _ k _ h5 (by (try unfold four); (try unfold two); (try simp) <;> omega)).mono ?_
  rintro _ x6 ⟨rfl, o6, h6, ho_, hf_⟩
  have hs_ := hff.size
  replace hff := hff.trans hf_ (by simp; omega)
  have hb_o : w.heap.size ≤ o6 := by omega
  clear hf_ ho_ hs_
  simp only [Int.toNat_natCast, List.nil_append, List.append_assoc] at h6
  go_wp2_with fail
  refine (outtext_any _ _ _ _ h6).mono ?_
  rintro _ x7 ⟨rfl, rfl⟩
  clear h1 h2 h3 h4 h5 hno hsz0
  have hT : ∃ T, [b8 n0] ++ (two n1 ++ (four n2 ++ (var n3 ++ (dataB l ++ k)))) = T := ⟨_, rfl⟩
  obtain ⟨T, hT⟩ := hT
  have hTl : T.length ≤ 1000 := by rw [← hT]; simp [two, four]; omega
  rw [hT]
  have HT := Lib.hid hT
  clear hT h6
  go_wp2_with fail
  refine (over_any T x6).mono ?_
  rintro _ x7 ⟨rfl, hi, hf_⟩
  have hs6 := hff.size
  replace hff := hff.trans hf_ (by simp)
  clear hf_
  go_wp2_with fail
  rw [← HT.out] at hi
  refine (byte_any _ _ x7 hi (by rw [HT.out]; show T.length ≤ _; omega)).mono ?_
  rintro _ x8 ⟨rfl, i8, hf_⟩
  replace hff := hff.trans hf_ (by simp; omega)
  clear hf_
  rw [byte_back] at i8 ⊢
  dsimp only at i8 ⊢
  rw [b8_toNat, show n0 % 256 = n0 from by omega]
  go_wp2_with fail
  refine (intwo_any _ _ _ i8 (by (try unfold four); (try unfold two); (try simp) <;> omega)).mono ?_
  rintro _ x9 ⟨rfl, i9, hf_⟩
  replace hff := hff.trans hf_ (by simp; omega)
  clear hf_
  rw [two_back] at i9 ⊢
  dsimp only at i9 ⊢
  go_wp2_with fail
  refine (infour_any _ _ _ i9 (by (try unfold four); (try unfold two); (try simp) <;> omega)).mono ?_
  rintro _ x10 ⟨rfl, i10, hf_⟩
  replace hff := hff.trans hf_ (by simp; omega)
  clear hf_
  rw [four_back] at i10 ⊢
  dsimp only at i10 ⊢
  rw [show n2 % 4294967296 = n2 from by omega]
  go_wp2_with fail
  refine (invar_any _ _ _ i10 (by (try unfold four); (try unfold two); (try simp) <;> omega)).mono ?_
  rintro _ x11 ⟨rfl, i11, hf_⟩
  replace hff := hff.trans hf_ (by simp; omega)
  clear hf_
  rw [var_back n3 _ hn3'] at i11 ⊢
  dsimp only at i11 ⊢
  go_wp2_with fail
  refine (indata_any _ _ _ i11 (by (try unfold four); (try unfold two); (try simp) <;> omega)).mono ?_
  rintro _ x12 ⟨rfl, i12, hf_⟩
  replace hff := hff.trans hf_ (by simp; omega)
  clear hf_
  rw [data_back] at i12 ⊢
  dsimp only at i12 ⊢
  rw [hst]
  go_wp2_with fail
  refine (left_any _ _ _ i12).mono ?_
  rintro _ x13 ⟨rfl, rfl⟩
  go_wp2_with fail
  refine (rest_any _ _ _ i12 (by show k.length ≤ _; omega)).mono ?_
  rintro _ x13 ⟨rfl, i13, hf_⟩
  replace hff := hff.trans hf_ (by simp; omega)
  clear hf_
  rw [Rd.raw_ok _ _ rfl (Nat.le_refl _)] at i13 ⊢
  dsimp only at i13 ⊢
  rw [List.take_length] at ⊢
  go_wp2_with fail
  refine (err_any _ _ _ i13).mono ?_
  rintro _ x14 ⟨rfl, rfl⟩
  go_wp2
  go_ret
  exact ⟨rfl, hff⟩
end Go.Proofs.Ytpbdngcngnkfmaa
