/- The walk of the law WordBack. -/
import Derived.Test.YtpbdngcngnkfmaaLawB
import Derived.Test.YtpbdngcngnkfmaaPlainA
namespace Go.Proofs.Ytpbdngcngnkfmaa
open Go.RowKit

theorem str_back (l k : List UInt8) (hl : l.length ≤ 100) : Rd.str ⟨dataB l ++ k, 0⟩ = if good l = true then (l, ⟨k, 0⟩) else ([], ⟨k, 2⟩) := by
  rw [Rd.str, data_back, List.take_of_length_le (by omega)]
  rfl
set_option maxRecDepth 100000 in
set_option maxHeartbeats 4000000 in
theorem wordBack_walk (a0 : ByteArray) (a1 : ByteArray) (w0 : a0.size ≤ maxLen) (w1 : a1.size ≤ maxLen) (w : World) :
    Calls Try.prog 13 #[.string a0, .string a1] w fun e w' => e = .returned (.bool true) ∧ Fr [] w w' := by
  obtain ⟨s, rfl, hs⟩ := str_list a0
  obtain ⟨tl, rfl, ht⟩ := str_list a1
  rw [← hs] at w0
  rw [← ht] at w1
  unfold maxLen at w0 w1
  clear hs ht
  have hla : (s.take 100).length ≤ 100 := List.length_take_le _ _
  have hlb : (tl.take 20).length ≤ 20 := List.length_take_le _ _
  obtain ⟨l, ha⟩ : ∃ a, s.take 100 = a := ⟨_, rfl⟩
  obtain ⟨k, hb⟩ : ∃ b, tl.take 20 = b := ⟨_, rfl⟩
  rw [ha] at hla
  rw [hb] at hlb
  have Ha := Lib.hid ha
  have Hb := Lib.hid hb
  clear ha hb
  by_cases hg : good l = true
  · have Hs := Lib.hid ((str_back l k hla).trans (if_pos hg))
    go_enter Try.func13, Try.ntmps13
    go_wp2_with fail
    refine (cut_any s 100 w (by omega) (by decide)).mono ?_
    rintro _ w2 ⟨rfl, rfl⟩
    rw [show (100 : Int).toNat = 100 from rfl]
    go_wp2_with fail
    refine (cut_any tl 20 w (by omega) (by decide)).mono ?_
    rintro _ w2 ⟨rfl, rfl⟩
    rw [show (20 : Int).toNat = 20 from rfl]
    rw [Ha.out, Hb.out]
    go_wp2_with fail
    refine (awake2_any w).mono ?_
    rintro _ w1 ⟨rfl, hff⟩
    have hb0 := hff.size
    replace hff := hff.alloc (.cells #[.slice none 0 0] 36)
    have hno := OutAt.new w1
    have hsz0 : w1.heap.size < (w1.alloc (.cells #[.slice none 0 0] 36)).heap.size := by simp
    go_wp2_with fail
    refine (outdata_any _ _ [] l _ hno (by omega) (by simp)).mono ?_
    rintro _ x1 ⟨rfl, o1, h1, ho_, hf_⟩
    have hs_ := hff.size
    replace hff := hff.trans hf_ (by simp; omega)
    have hb_o : w.heap.size ≤ o1 := by omega
    clear hf_ ho_ hs_
    have hd : (dataB l).length ≤ 102 := by simp [dataB, two]; omega
    go_wp2_with fail
    refine (outraw_any _ _ _ k _ h1 (by rw [List.nil_append]; omega)).mono ?_
    rintro _ x2 ⟨rfl, o2, h2, ho_, hf_⟩
    have hs_ := hff.size
    replace hff := hff.trans hf_ (by simp; omega)
    have hb_o : w.heap.size ≤ o2 := by omega
    clear hf_ ho_ hs_
    rw [List.nil_append] at h2
    go_wp2_with fail
    refine (outtext_any _ _ _ _ h2).mono ?_
    rintro _ x3 ⟨rfl, rfl⟩
    clear h1 hno hsz0 h2
    go_wp2_with fail
    refine (over_any (dataB l ++ k) x2).mono ?_
    rintro _ x7 ⟨rfl, hi, hf_⟩
    have hs6 := hff.size
    replace hff := hff.trans hf_ (by simp)
    clear hf_
    go_wp2_with fail
    refine (take_any _ _ x7 hi (by show (dataB l ++ k).length ≤ _; rw [List.length_append]; omega)).mono ?_
    rintro _ x8 ⟨rfl, i8, hf_⟩
    replace hff := hff.trans hf_ (by simp; omega)
    clear hf_
    rw [Hs.out] at i8 ⊢
    go_wp2_with fail
    refine (good_any l _ (by omega)).mono ?_
    rintro _ x9 ⟨rfl, hf_⟩
    replace hff := hff.trans hf_ (by simp)
    have i9 := i8.fr hf_ (by simp)
    clear hf_ i8
    rw [hg]
    dsimp only at i9 ⊢
    clear hg
    go_wp2_with fail
    refine (err_any _ _ _ i9).mono ?_
    rintro _ x10 ⟨rfl, rfl⟩
    go_wp2_with fail
    refine (rest_any _ _ _ i9 (by show k.length ≤ _; omega)).mono ?_
    rintro _ x11 ⟨rfl, i11, hf_⟩
    replace hff := hff.trans hf_ (by simp; omega)
    clear hf_
    rw [Rd.raw_ok _ _ rfl (Nat.le_refl _)] at i11 ⊢
    dsimp only at i11 ⊢
    rw [List.take_length] at ⊢
    go_wp2
    go_ret
    exact ⟨rfl, hff⟩
  · have Hs := Lib.hid ((str_back l k hla).trans (if_neg hg))
    replace hg : good l = false := by simpa using hg
    go_enter Try.func13, Try.ntmps13
    go_wp2_with fail
    refine (cut_any s 100 w (by omega) (by decide)).mono ?_
    rintro _ w2 ⟨rfl, rfl⟩
    rw [show (100 : Int).toNat = 100 from rfl]
    go_wp2_with fail
    refine (cut_any tl 20 w (by omega) (by decide)).mono ?_
    rintro _ w2 ⟨rfl, rfl⟩
    rw [show (20 : Int).toNat = 20 from rfl]
    rw [Ha.out, Hb.out]
    go_wp2_with fail
    refine (awake2_any w).mono ?_
    rintro _ w1 ⟨rfl, hff⟩
    have hb0 := hff.size
    replace hff := hff.alloc (.cells #[.slice none 0 0] 36)
    have hno := OutAt.new w1
    have hsz0 : w1.heap.size < (w1.alloc (.cells #[.slice none 0 0] 36)).heap.size := by simp
    go_wp2_with fail
    refine (outdata_any _ _ [] l _ hno (by omega) (by simp)).mono ?_
    rintro _ x1 ⟨rfl, o1, h1, ho_, hf_⟩
    have hs_ := hff.size
    replace hff := hff.trans hf_ (by simp; omega)
    have hb_o : w.heap.size ≤ o1 := by omega
    clear hf_ ho_ hs_
    have hd : (dataB l).length ≤ 102 := by simp [dataB, two]; omega
    go_wp2_with fail
    refine (outraw_any _ _ _ k _ h1 (by rw [List.nil_append]; omega)).mono ?_
    rintro _ x2 ⟨rfl, o2, h2, ho_, hf_⟩
    have hs_ := hff.size
    replace hff := hff.trans hf_ (by simp; omega)
    have hb_o : w.heap.size ≤ o2 := by omega
    clear hf_ ho_ hs_
    rw [List.nil_append] at h2
    go_wp2_with fail
    refine (outtext_any _ _ _ _ h2).mono ?_
    rintro _ x3 ⟨rfl, rfl⟩
    clear h1 hno hsz0 h2
    go_wp2_with fail
    refine (over_any (dataB l ++ k) x2).mono ?_
    rintro _ x7 ⟨rfl, hi, hf_⟩
    have hs6 := hff.size
    replace hff := hff.trans hf_ (by simp)
    clear hf_
    go_wp2_with fail
    refine (take_any _ _ x7 hi (by show (dataB l ++ k).length ≤ _; rw [List.length_append]; omega)).mono ?_
    rintro _ x8 ⟨rfl, i8, hf_⟩
    replace hff := hff.trans hf_ (by simp; omega)
    clear hf_
    rw [Hs.out] at i8 ⊢
    go_wp2_with fail
    refine (good_any l _ (by omega)).mono ?_
    rintro _ x9 ⟨rfl, hf_⟩
    replace hff := hff.trans hf_ (by simp)
    have i9 := i8.fr hf_ (by simp)
    clear hf_ i8
    rw [hg]
    dsimp only at i9 ⊢
    clear hg
    go_wp2_with fail
    refine (err_any _ _ _ i9).mono ?_
    rintro _ x10 ⟨rfl, rfl⟩
    go_wp2
    go_ret
    exact ⟨rfl, hff⟩
end Go.Proofs.Ytpbdngcngnkfmaa
