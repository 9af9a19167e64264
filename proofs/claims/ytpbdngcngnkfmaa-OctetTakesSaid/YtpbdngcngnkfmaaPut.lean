/- What 'put' of the law package of layer 1 does: the thing's bytes are put, and handed back. Conditions: numbers within their kinds, strings that may be, fewer bytes than 2^46. -/
import Derived.Test.YtpbdngcngnkfmaaLawA
import Derived.Test.YtpbdngcngnkfmaaRefA
namespace Go.Proofs.Ytpbdngcngnkfmaa
open Go.RowKit

def thingB (k : Int) (n : Nat) (s : List UInt8) : List UInt8 :=
  if k = 1 then [b8 n] else if k = 2 then two n else if k = 3 then four n else if k = 4 then var n else if k = 5 then s.take 50 else if k = 6 then dataB (s.take 50) else []
theorem thingB_len (k : Int) (n : Nat) (s : List UInt8) : (thingB k n s).length ≤ 60 := by
  have h1 := (varB_len' n)
  have h2 : (s.take 50).length ≤ 50 := List.length_take_le _ _
  have h3 : ((s.take 50).take 65535).length ≤ 50 := by rw [List.length_take]; omega
  unfold thingB
  repeat' split
  all_goals first | (simp only [dataB, List.length_append]; unfold two; simp; omega) | (unfold four two; simp; done) | (unfold two; simp; done) | (simp; done) | omega

set_option maxHeartbeats 4000000 in
set_option maxRecDepth 100000 in
theorem put_any (b o : Nat) (l : List UInt8) (k : Int) (n : Nat) (s : List UInt8) (w : World) (h : OutAt w b o l) (hn : (n : Int) < 4294967296) (hs : s.length ≤ 9223372036854775807) (hl : l.length < 70368744000000) :
    Calls Try.prog 25 #[.pointer (some ⟨b, 0, none⟩), .agg #[.int .i64 k, .int .u32 n, .string ⟨s.toArray⟩]] w fun e w' => e = .returned (.string ⟨(thingB k n s).toArray⟩) ∧ OutTo w w' b o (l ++ thingB k n s) := by
  have h2 : (s.take 50).length ≤ 50 := List.length_take_le _ _
  have hlt := h.lt
  have hfb : Fr [b, o] w (w.alloc (.cells #[.int .i64 k, .int .u32 n, .string ⟨s.toArray⟩] 44)) := (Fr.refl _ _).alloc _
  have hb0 := blk_new w (.cells #[.int .i64 k, .int .u32 n, .string ⟨s.toArray⟩] 44)
  have h0 := h.fr ((Fr.refl [] w).alloc (.cells #[.int .i64 k, .int .u32 n, .string ⟨s.toArray⟩] 44)) (by simp) (by simp)
  have hcv := conv1
  have Hcv := Lib.hid hcv
  have Hb0 := Lib.hid hb0
  clear hcv hb0
  have hff := hfb
  clear hfb
  by_cases k1 : k = 1
  · have e1 : (k == 1) = true := by simpa using k1
    have Ht : Hid (thingB k n s = [b8 n]) := Lib.hid (by unfold thingB; rw [if_pos k1])
    clear k1
    go_enter Try.func25, Try.ntmps25
    go_wp2_with fail
    refine (cut_any s 50 _ hs (by decide)).mono ?_
    rintro _ w1 ⟨rfl, rfl⟩
    rw [show (50 : Int).toNat = 50 from rfl]
    go_wp2_with fail
    refine (outbyte_any b o l _ _ h0 (by omega) (by omega) (by omega)).mono ?_
    rintro _ w1 ⟨rfl, o1, h1, ho1, hf1⟩
    obtain ⟨⟨c0, c1, c2⟩, ⟨f0, f1, f2⟩, hlb⟩ := blk3_facts (hf1.blk Hb0.out (by simp; omega))
    have hc := Hcv.out ((n : Int) % 256) (by omega)
    go_wp2
    go_ret
    rw [Ht.out]
    have hb8 : b8 ((n : Int) % 256).toNat = b8 n := b8_eq (by omega)
    rw [hb8] at h1
    refine ⟨ret_str (by rw [← hb8]; rfl), o1, h1.fr ((Fr.refl [] w1).alloc _) (by simp) (by simp), by simp at ho1; omega, (hff.trans hf1 (by simp)).alloc _⟩
  have e1 : (k == 1) = false := by simpa using k1
  by_cases k2 : k = 2
  · have e2 : (k == 2) = true := by simpa using k2
    have Ht : Hid (thingB k n s = two n) := Lib.hid (by unfold thingB; rw [if_neg k1]; rw [if_pos k2])
    clear k2 k1
    go_enter Try.func25, Try.ntmps25
    go_wp2_with fail
    refine (cut_any s 50 _ hs (by decide)).mono ?_
    rintro _ w1 ⟨rfl, rfl⟩
    rw [show (50 : Int).toNat = 50 from rfl]
    go_wp2_with fail
    refine (outtwo_any b o l _ _ h0 (by omega) (by omega) (by omega)).mono ?_
    rintro _ w1 ⟨rfl, o1, h1, ho1, hf1⟩
    obtain ⟨⟨c0, c1, c2⟩, ⟨f0, f1, f2⟩, hlb⟩ := blk3_facts (hf1.blk Hb0.out (by simp; omega))
    go_wp2_with fail
    refine (rtwo_any _ w1 (by omega) (by omega)).mono ?_
    rintro _ w2 ⟨rfl, hf2⟩
    rw [Int.toNat_natCast] at h1 ⊢
    go_wp2
    go_ret
    rw [Ht.out]
    exact ⟨rfl, o1, h1.fr hf2 (by simp) (by simp), by simp at ho1; omega, (hff.trans hf1 (by simp)).trans hf2 (by simp)⟩
  have e2 : (k == 2) = false := by simpa using k2
  by_cases k3 : k = 3
  · have e3 : (k == 3) = true := by simpa using k3
    have Ht : Hid (thingB k n s = four n) := Lib.hid (by unfold thingB; rw [if_neg k1]; rw [if_neg k2]; rw [if_pos k3])
    clear k3 k1 k2
    go_enter Try.func25, Try.ntmps25
    go_wp2_with fail
    refine (cut_any s 50 _ hs (by decide)).mono ?_
    rintro _ w1 ⟨rfl, rfl⟩
    rw [show (50 : Int).toNat = 50 from rfl]
    go_wp2_with fail
    refine (outfour_any b o l _ _ h0 (by omega) (by omega) (by omega)).mono ?_
    rintro _ w1 ⟨rfl, o1, h1, ho1, hf1⟩
    obtain ⟨⟨c0, c1, c2⟩, ⟨f0, f1, f2⟩, hlb⟩ := blk3_facts (hf1.blk Hb0.out (by simp; omega))
    go_wp2_with fail
    refine (rfour_any _ w1 (by omega) (by omega)).mono ?_
    rintro _ w2 ⟨rfl, hf2⟩
    rw [Int.toNat_natCast] at h1 ⊢
    go_wp2
    go_ret
    rw [Ht.out]
    exact ⟨rfl, o1, h1.fr hf2 (by simp) (by simp), by simp at ho1; omega, (hff.trans hf1 (by simp)).trans hf2 (by simp)⟩
  have e3 : (k == 3) = false := by simpa using k3
  by_cases k4 : k = 4
  · have e4 : (k == 4) = true := by simpa using k4
    have Ht : Hid (thingB k n s = var n) := Lib.hid (by unfold thingB; rw [if_neg k1]; rw [if_neg k2]; rw [if_neg k3]; rw [if_pos k4])
    clear k4 k1 k2 k3
    go_enter Try.func25, Try.ntmps25
    go_wp2_with fail
    refine (cut_any s 50 _ hs (by decide)).mono ?_
    rintro _ w1 ⟨rfl, rfl⟩
    rw [show (50 : Int).toNat = 50 from rfl]
    go_wp2_with fail
    refine (outvar_any b o l _ _ h0 (by omega) (by omega) (by omega)).mono ?_
    rintro _ w1 ⟨rfl, o1, h1, ho1, hf1⟩
    obtain ⟨⟨c0, c1, c2⟩, ⟨f0, f1, f2⟩, hlb⟩ := blk3_facts (hf1.blk Hb0.out (by simp; omega))
    go_wp2_with fail
    refine (rvar_any _ w1 (by omega) (by omega)).mono ?_
    rintro _ w2 ⟨rfl, hf2⟩
    rw [Int.toNat_natCast] at h1 ⊢
    go_wp2
    go_ret
    rw [Ht.out]
    exact ⟨rfl, o1, h1.fr hf2 (by simp) (by simp), by simp at ho1; omega, (hff.trans hf1 (by simp)).trans hf2 (by simp)⟩
  have e4 : (k == 4) = false := by simpa using k4
  by_cases k5 : k = 5
  · have e5 : (k == 5) = true := by simpa using k5
    have Ht : Hid (thingB k n s = s.take 50) := Lib.hid (by unfold thingB; rw [if_neg k1]; rw [if_neg k2]; rw [if_neg k3]; rw [if_neg k4]; rw [if_pos k5])
    clear k5 k1 k2 k3 k4
    go_enter Try.func25, Try.ntmps25
    go_wp2_with fail
    refine (cut_any s 50 _ hs (by decide)).mono ?_
    rintro _ w1 ⟨rfl, rfl⟩
    rw [show (50 : Int).toNat = 50 from rfl]
    go_wp2_with fail
    refine (outraw_any b o l _ _ h0 (by omega)).mono ?_
    rintro _ w1 ⟨rfl, o1, h1, ho1, hf1⟩
    obtain ⟨⟨c0, c1, c2⟩, ⟨f0, f1, f2⟩, hlb⟩ := blk3_facts (hf1.blk Hb0.out (by simp; omega))
    go_wp2
    go_ret
    rw [Ht.out]
    exact ⟨rfl, o1, h1, by simp at ho1; omega, hff.trans hf1 (by simp)⟩
  have e5 : (k == 5) = false := by simpa using k5
  by_cases k6 : k = 6
  · have e6 : (k == 6) = true := by simpa using k6
    have Ht : Hid (thingB k n s = dataB (s.take 50)) := Lib.hid (by unfold thingB; rw [if_neg k1]; rw [if_neg k2]; rw [if_neg k3]; rw [if_neg k4]; rw [if_neg k5]; rw [if_pos k6])
    clear k6 k1 k2 k3 k4 k5
    go_enter Try.func25, Try.ntmps25
    go_wp2_with fail
    refine (cut_any s 50 _ hs (by decide)).mono ?_
    rintro _ w1 ⟨rfl, rfl⟩
    rw [show (50 : Int).toNat = 50 from rfl]
    go_wp2_with fail
    refine (outdata_any b o l _ _ h0 (by omega) (by omega)).mono ?_
    rintro _ w1 ⟨rfl, o1, h1, ho1, hf1⟩
    obtain ⟨⟨c0, c1, c2⟩, ⟨f0, f1, f2⟩, hlb⟩ := blk3_facts (hf1.blk Hb0.out (by simp; omega))
    go_wp2_with fail
    refine (rdata_any _ w1 (by omega)).mono ?_
    rintro _ w2 ⟨rfl, hf2⟩
    go_wp2
    go_ret
    rw [Ht.out]
    exact ⟨rfl, o1, h1.fr hf2 (by simp) (by simp), by simp at ho1; omega, (hff.trans hf1 (by simp)).trans hf2 (by simp)⟩
  have e6 : (k == 6) = false := by simpa using k6
  have Ht : Hid (thingB k n s = []) := Lib.hid (by unfold thingB; rw [if_neg k1, if_neg k2, if_neg k3, if_neg k4, if_neg k5, if_neg k6])
  clear k1 k2 k3 k4 k5 k6
  go_enter Try.func25, Try.ntmps25
  go_wp2_with fail
  refine (cut_any s 50 _ hs (by decide)).mono ?_
  rintro _ w1 ⟨rfl, rfl⟩
  go_wp2
  go_ret
  rw [Ht.out, List.append_nil]
  exact ⟨rfl, o, h0, Or.inl rfl, hff⟩
end Go.Proofs.Ytpbdngcngnkfmaa
