/- The walk of the law WordTakes. -/
import Derived.Test.YtpbdngcngnkfmaaLawB
import Derived.Test.YtpbdngcngnkfmaaRefE
import Derived.Deep.DeepCutAuto
namespace Go.Proofs.Ytpbdngcngnkfmaa
open Go.RowKit

set_option maxRecDepth 100000 in
set_option maxHeartbeats 4000000 in
theorem wordTakes_walk (a0 : ByteArray) (w0 : a0.size ≤ maxLen) (w : World) :
    Calls Try.prog 12 #[.string a0] w fun e w' => e = .returned (.bool true) ∧ Fr [] w w' := by
  obtain ⟨s, rfl, hs⟩ := str_list a0
  rw [← hs] at w0
  unfold maxLen at w0
  clear hs
  have hla : (s.take 100).length ≤ 100 := List.length_take_le _ _
  obtain ⟨l, ha⟩ : ∃ a, s.take 100 = a := ⟨_, rfl⟩
  rw [ha] at hla
  have Ha := Lib.hid ha
  clear ha
  have hl1 : (Rd.str ⟨l, 0⟩).2.s.length ≤ 100 := Nat.le_trans (Rd.str_left _) hla
  have HP : Hid (Rd.pair ⟨l, 0⟩ = if (Rd.str ⟨l, 0⟩).2.str.2.e = 0 then (((Rd.str ⟨l, 0⟩).1, (Rd.str ⟨l, 0⟩).2.str.1), (Rd.str ⟨l, 0⟩).2.str.2) else (([], []), (Rd.str ⟨l, 0⟩).2.str.2)) := Lib.hid rfl
  obtain ⟨⟨a, q⟩, hq⟩ : ∃ x, Rd.str ⟨l, 0⟩ = x := ⟨_, rfl⟩
  rw [hq] at hl1 HP
  simp only at hl1 HP
  obtain ⟨⟨z, p⟩, hp⟩ : ∃ x, q.str = x := ⟨_, rfl⟩
  rw [hp] at HP
  simp only at HP
  have HQ := Lib.hid hq
  have HZ := Lib.hid hp
  clear hq hp
  go_enter Try.func12, Try.ntmps12
  go_wp2_with fail
  refine (cut_any s 100 w (by omega) (by decide)).mono ?_
  rintro _ w1 ⟨rfl, rfl⟩
  rw [show (100 : Int).toNat = 100 from rfl]
  rw [Ha.out]
  go_wp2_with fail
  refine (awake2_any w).mono ?_
  rintro _ w1 ⟨rfl, hff⟩
  go_wp2_with fail
  refine (over_any l w1).mono ?_
  rintro _ w2 ⟨rfl, hi, hf_⟩
  have hs1 := hff.size
  replace hff := hff.trans hf_ (by simp)
  clear hf_
  go_wp2_with fail
  refine (take_any _ _ w2 hi (by show l.length ≤ _; omega)).mono ?_
  rintro _ w3 ⟨rfl, i3, hf_⟩
  replace hff := hff.trans hf_ (by simp; omega)
  clear hf_
  rw [HQ.out] at i3 ⊢
  go_wp2_with fail
  refine (rtake_any ⟨l, 0⟩ w3 (by show l.length ≤ _; omega)).mono ?_
  rintro _ w4 ⟨rfl, hf_⟩
  rw [HQ.out]
  dsimp only at i3 ⊢
  have i4 := i3.fr hf_ (by simp)
  replace hff := hff.trans hf_ (by simp)
  clear hf_ i3 hi
  go_upto_region 7 with (fail)
  obtain ⟨wd, hwd⟩ : ∃ wd, w4.alloc (.cells #[.string ⟨q.s.toArray⟩, .int .i64 q.e] 60) = wd := ⟨_, rfl⟩
  have Hid4 : Hid (InAt wd w1.heap.size q) := Lib.hid (by rw [← hwd]; exact i4.fr ((Fr.refl [] _).alloc _) (by simp))
  have Hcd : Hid (wd.heap[w4.heap.size]? = some (.cells #[.string ⟨q.s.toArray⟩, .int .i64 q.e] 60 (0, 0))) := Lib.hid (by rw [← hwd]; exact blk_new _ _)
  replace hff : Fr [] w wd := by rw [← hwd]; exact hff.alloc _
  rw [hwd]
  have hb4 : w4.heap.size < wd.heap.size := by rw [← hwd]; simp
  clear i4 hwd
  generalize w4.heap.size = B at *
  obtain ⟨q0, q1, q2, q3, q4⟩ := blk2_facts Hcd.out
  by_cases he : q.e = 0
  · have e1 : (q.e == 0) = true := by simpa using he
    have HE := Lib.hid he
    clear he
    go_quiet ((first | (go_at_call 29; exact qsame (err_any _ _ _ (by exact Hid4.out))) | (go_at_call 43; exact qsame (left_any _ _ _ (by exact Hid4.out)))))
    go_wp2_with fail
    refine (over_any l _).mono ?_
    rintro _ w5 ⟨rfl, hi, hf_⟩
    have hwd := hff.size
    have hc5 := hf_.blk (b := B) Hcd.out (by simp)
    replace hff := (hff.drewN _).trans hf_ (by simp)
    have hBC : B < (wd.drewN nq).heap.size := hb4
    have hwC : w.heap.size ≤ (wd.drewN nq).heap.size := hwd
    clear q0 q1 q2 q3 q4 hf_ Hid4 Hcd hb4 hwd
    generalize (wd.drewN nq).heap.size = C at *
    go_wp2_with fail
    refine (takepair_any _ _ w5 hi (by show l.length ≤ _; omega)).mono ?_
    rintro _ w6 ⟨rfl, i6, hf_⟩
    have hc6 := hf_.blk hc5 (by simp; omega)
    replace hff := hff.trans hf_ (by simp; omega)
    clear hf_ hi hc5
    obtain ⟨q0, q1, q2, q3, q4⟩ := blk2_facts hc6
    have Hc6 := Lib.hid hc6
    clear hc6
    by_cases hpe : p.e = 0
    · have HP2 := Lib.hid (HP.out.trans (if_pos hpe))
      have e2 : (p.e != 0) = false := by simpa using hpe
      have e3 : (p.e == 0) = true := by simpa using hpe
      rw [HP2.out] at i6 ⊢
      dsimp only at i6 ⊢
      have HPE := Lib.hid hpe
      clear hpe HP HP2
      go_wp2_with fail
      refine (rtake_any q _ (by omega)).mono ?_
      rintro _ w7 ⟨rfl, hf_⟩
      rw [HZ.out]
      have i7 := i6.fr hf_ (by simp)
      replace hff := hff.trans hf_ (by simp)
      clear i6 hf_ q0 q1 q2 q3 q4 Hc6
      go_upto_region 14 with (fail)
      obtain ⟨wq, hwq⟩ : ∃ wq, w7.alloc (.cells #[.string ⟨p.s.toArray⟩, .int .i64 p.e] 60) = wq := ⟨_, rfl⟩
      have HidQ : Hid (InAt wq C p) := Lib.hid (by rw [← hwq]; exact i7.fr ((Fr.refl [] _).alloc _) (by simp))
      have Hcq : Hid (wq.heap[w7.heap.size]? = some (.cells #[.string ⟨p.s.toArray⟩, .int .i64 p.e] 60 (0, 0))) := Lib.hid (by rw [← hwq]; exact blk_new _ _)
      replace hff : Fr [] w wq := by rw [← hwq]; exact hff.alloc _
      rw [hwq]
      clear i7 hwq
      generalize w7.heap.size = D at *
      obtain ⟨q0, q1, q2, q3, q4⟩ := blk2_facts Hcq.out
      go_quiet ((first | (go_at_call 29; exact qsame (err_any _ _ _ (by exact HidQ.out))) | (go_at_call 43; exact qsame (left_any _ _ _ (by exact HidQ.out)))))
      go_wp2
      go_ret
      exact ⟨rfl, hff.drewN _⟩
    · have HP2 := Lib.hid (HP.out.trans (if_neg hpe))
      have e2 : (p.e != 0) = true := by simpa using hpe
      rw [HP2.out] at i6 ⊢
      dsimp only at i6 ⊢
      have HPE := Lib.hid hpe
      clear hpe HP HP2
      go_wp2_with fail
      refine (rtake_any q _ (by omega)).mono ?_
      rintro _ w7 ⟨rfl, hf_⟩
      rw [HZ.out]
      have i7 := i6.fr hf_ (by simp)
      replace hff := hff.trans hf_ (by simp)
      clear i6 hf_ q0 q1 q2 q3 q4 Hc6
      go_upto_region 13 with (fail)
      obtain ⟨wq, hwq⟩ : ∃ wq, w7.alloc (.cells #[.string ⟨p.s.toArray⟩, .int .i64 p.e] 60) = wq := ⟨_, rfl⟩
      have HidQ : Hid (InAt wq C p) := Lib.hid (by rw [← hwq]; exact i7.fr ((Fr.refl [] _).alloc _) (by simp))
      have Hcq : Hid (wq.heap[w7.heap.size]? = some (.cells #[.string ⟨p.s.toArray⟩, .int .i64 p.e] 60 (0, 0))) := Lib.hid (by rw [← hwq]; exact blk_new _ _)
      replace hff : Fr [] w wq := by rw [← hwq]; exact hff.alloc _
      rw [hwq]
      clear i7 hwq
      generalize w7.heap.size = D at *
      obtain ⟨q0, q1, q2, q3, q4⟩ := blk2_facts Hcq.out
      go_quiet ((first | (go_at_call 29; exact qsame (err_any _ _ _ (by exact HidQ.out))) | (go_at_call 43; exact qsame (left_any _ _ _ (by exact HidQ.out)))))
      go_wp2
      go_ret
      exact ⟨rfl, hff.drewN _⟩
  · have e1 : (q.e == 0) = false := by simpa using he
    have HE := Lib.hid he
    clear he
    go_quiet ((first | (go_at_call 29; exact qsame (err_any _ _ _ (by exact Hid4.out))) | (go_at_call 43; exact qsame (left_any _ _ _ (by exact Hid4.out)))))
    go_wp2_with fail
    refine (over_any l _).mono ?_
    rintro _ w5 ⟨rfl, hi, hf_⟩
    have hwd := hff.size
    have hc5 := hf_.blk (b := B) Hcd.out (by simp)
    replace hff := (hff.drewN _).trans hf_ (by simp)
    have hBC : B < (wd.drewN nq).heap.size := hb4
    have hwC : w.heap.size ≤ (wd.drewN nq).heap.size := hwd
    clear q0 q1 q2 q3 q4 hf_ Hid4 Hcd hb4 hwd
    generalize (wd.drewN nq).heap.size = C at *
    go_wp2_with fail
    refine (takepair_any _ _ w5 hi (by show l.length ≤ _; omega)).mono ?_
    rintro _ w6 ⟨rfl, i6, hf_⟩
    have hc6 := hf_.blk hc5 (by simp; omega)
    replace hff := hff.trans hf_ (by simp; omega)
    clear hf_ hi hc5
    obtain ⟨q0, q1, q2, q3, q4⟩ := blk2_facts hc6
    have Hc6 := Lib.hid hc6
    clear hc6
    by_cases hpe : p.e = 0
    · have HP2 := Lib.hid (HP.out.trans (if_pos hpe))
      have e2 : (p.e != 0) = false := by simpa using hpe
      have e3 : (p.e == 0) = true := by simpa using hpe
      rw [HP2.out] at i6 ⊢
      dsimp only at i6 ⊢
      have HPE := Lib.hid hpe
      clear hpe HP HP2
      go_wp2_with fail
      refine (rtake_any q _ (by omega)).mono ?_
      rintro _ w7 ⟨rfl, hf_⟩
      rw [HZ.out]
      have i7 := i6.fr hf_ (by simp)
      replace hff := hff.trans hf_ (by simp)
      clear i6 hf_ q0 q1 q2 q3 q4 Hc6
      go_upto_region 14 with (fail)
      obtain ⟨wq, hwq⟩ : ∃ wq, w7.alloc (.cells #[.string ⟨p.s.toArray⟩, .int .i64 p.e] 60) = wq := ⟨_, rfl⟩
      have HidQ : Hid (InAt wq C p) := Lib.hid (by rw [← hwq]; exact i7.fr ((Fr.refl [] _).alloc _) (by simp))
      have Hcq : Hid (wq.heap[w7.heap.size]? = some (.cells #[.string ⟨p.s.toArray⟩, .int .i64 p.e] 60 (0, 0))) := Lib.hid (by rw [← hwq]; exact blk_new _ _)
      replace hff : Fr [] w wq := by rw [← hwq]; exact hff.alloc _
      rw [hwq]
      clear i7 hwq
      generalize w7.heap.size = D at *
      obtain ⟨q0, q1, q2, q3, q4⟩ := blk2_facts Hcq.out
      go_quiet ((first | (go_at_call 29; exact qsame (err_any _ _ _ (by exact HidQ.out))) | (go_at_call 43; exact qsame (left_any _ _ _ (by exact HidQ.out)))))
      go_wp2
      go_ret
      exact ⟨rfl, hff.drewN _⟩
    · have HP2 := Lib.hid (HP.out.trans (if_neg hpe))
      have e2 : (p.e != 0) = true := by simpa using hpe
      rw [HP2.out] at i6 ⊢
      dsimp only at i6 ⊢
      have HPE := Lib.hid hpe
      clear hpe HP HP2
      go_wp2_with fail
      refine (rtake_any q _ (by omega)).mono ?_
      rintro _ w7 ⟨rfl, hf_⟩
      rw [HZ.out]
      have i7 := i6.fr hf_ (by simp)
      replace hff := hff.trans hf_ (by simp)
      clear i6 hf_ q0 q1 q2 q3 q4 Hc6
      go_upto_region 13 with (fail)
      obtain ⟨wq, hwq⟩ : ∃ wq, w7.alloc (.cells #[.string ⟨p.s.toArray⟩, .int .i64 p.e] 60) = wq := ⟨_, rfl⟩
      have HidQ : Hid (InAt wq C p) := Lib.hid (by rw [← hwq]; exact i7.fr ((Fr.refl [] _).alloc _) (by simp))
      have Hcq : Hid (wq.heap[w7.heap.size]? = some (.cells #[.string ⟨p.s.toArray⟩, .int .i64 p.e] 60 (0, 0))) := Lib.hid (by rw [← hwq]; exact blk_new _ _)
      replace hff : Fr [] w wq := by rw [← hwq]; exact hff.alloc _
      rw [hwq]
      clear i7 hwq
      generalize w7.heap.size = D at *
      obtain ⟨q0, q1, q2, q3, q4⟩ := blk2_facts Hcq.out
      go_quiet ((first | (go_at_call 29; exact qsame (err_any _ _ _ (by exact HidQ.out))) | (go_at_call 43; exact qsame (left_any _ _ _ (by exact HidQ.out)))))
      go_wp2
      go_ret
      exact ⟨rfl, hff.drewN _⟩
end Go.Proofs.Ytpbdngcngnkfmaa
