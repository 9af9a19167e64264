/- The walk of the law FrameChunks. -/
import Derived.Test.YtlnlolhihodgoaaFrameAwake
import Derived.Test.YtlnlolhihodgoaaPlainFC
import Derived.Test.YtlnlolhihodgoaaLawA
import Derived.Test.YtlnlolhihodgoaaOpenI
namespace Go.Proofs.Ytlnlolhihodgoaa
open Go.RowKit

set_option maxRecDepth 100000 in
set_option maxHeartbeats 4000000 in
theorem frameChunks_walk (a0 : ByteArray) (a1 : Int) (A : Option Addr) (n cc : Nat) (f : Nat → Int) (w0 : a0.size ≤ maxLen) (w1 : (Lit.int .i64 a1).wf = true) (w : World) (hH : n ≤ 9223372036854775807 ∧ IntsAt w A n f ∧ ∀ i, i < n → -9223372036854775808 ≤ f i ∧ f i ≤ 9223372036854775807) :
    Calls Try.prog 3 #[.string a0, .int .i64 a1, .slice A n cc] w fun e w' => e = .returned (.bool true) ∧ Fr [] w w' := by
  obtain ⟨hn, hA, hf⟩ := hH
  obtain ⟨s, rfl, hs⟩ := str_list a0
  obtain ⟨g1, g1'⟩ := wf_i64 w1
  rw [← hs] at w0
  unfold maxLen at w0
  clear hs w1
  go_enter Try.func3, Try.ntmps3
  go_wp2_with fail
  refine (cut_any s 300 w (by omega) (by decide)).mono ?_
  rintro _ w2 ⟨rfl, rfl⟩
  rw [show (300 : Int).toNat = 300 from rfl]
  have hl : (s.take 300).length ≤ 300 := List.length_take_le _ _
  generalize s.take 300 = S at *
  go_wp2_with fail
  refine (awake5_any w).mono ?_
  rintro _ v1 ⟨rfl, hf1⟩
  go_wp2_with fail
  refine (fnew_any a1 _).mono ?_
  rintro _ v2 ⟨rfl, h2, hf2⟩
  have hs1 := hf1.size
  have hs2 := hf2.size
  have hff : Fr [] w v2 := hf1.trans hf2 (by simp)
  have hb2 := blk_lt h2.blk
  have ho := own_emp v2 39 3 w.heap.size (by omega)
  have h3 : RdrAt (v2.alloc (.cells #[] 39)) v1.heap.size a1 [] 0 := ⟨blk_old h2.blk _⟩
  have hff3 : Fr [] w (v2.alloc (.cells #[] 39)) := hff.alloc _
  have hI := Lib.hid (inv_start a1 S)
  clear hf1 hf2 h2 hff
  go_wp2
  go_loopw [8, 10, 11] (fun hv at_ i wr => ∃ (k q : Nat) (l : List Fm) (buf : List UInt8) (x : Int), i = .int .i64 q ∧ at_ = .int .i64 k ∧ q ≤ n ∧ q ≤ 40 ∧ k ≤ S.length ∧ l.length ≤ 400 * q ∧ buf.length ≤ k ∧ Hid (Inv a1 S k l buf x) ∧ wr.ownsRow w.heap.size 39 3 hv l.length (l.flatMap frE) ∧ RdrAt wr v1.heap.size a1 buf x ∧ Fr [] w wr) (fun _ _ i _ => 40 - (intOf i).toNat)
  case atStart => exact ⟨0, 0, [], [], 0, rfl, rfl, by omega, by omega, by omega, by simp, by simp, hI, ho, h3, hff3⟩
  case round =>
    clear hI ho h3 hff3
    obtain ⟨k, q, l, buf, x, rfl, rfl, hqn, hq40, hk, hlc, hbl, hInv, hown, hrd, hfr⟩ := hrel
    obtain ⟨A', cp', rfl⟩ := own_shape hown
    have hne := own_ne hown hrd.blk (by decide)
    have hszr := hfr.size
    have Hown := Lib.hid hown
    have Hne := Lib.hid hne
    have HInv := hInv
    have Hrd := Lib.hid hrd
    have Hfr := Lib.hid hfr
    have HA := Lib.hid hA
    have Hf := Lib.hid hf
    clear hown hrd hfr hne hA hf hInv
    by_cases hq : (q : Int) < n
    · by_cases hq2 : (q : Int) < 40
      · have hc : ∃ b off, A = some ⟨b, off, none⟩ ∧ wr.cell? ⟨b, off + q, none⟩ = some (.int .i64 (f q)) := by
          rcases HA.out with h | ⟨b, off, h1, h2, h3⟩
          · omega
          · exact ⟨b, off, h1, Hfr.out.cell (h3 q (by omega)) (by simp)⟩
        obtain ⟨b, off, rfl, hc⟩ := hc
        obtain ⟨f1, f2⟩ := Hf.out q (by omega)
        generalize f q = y at hc f1 f2
        by_cases y0 : y < 0
        · have hkl : (k : Int) ≤ S.length := by omega
          obtain ⟨c, hc0⟩ : ∃ c : Nat, c = 0 := ⟨0, rfl⟩
          have HC : Hid (((S.drop k).take c).length = c) := Lib.hid (by subst hc0; simp)
          have hc2 : c ≤ 0 := by omega
          go_wp2_with fail
          rw [show (Value.string ByteArray.empty) = .string ⟨((S.drop k).take c).toArray⟩ from by subst hc0; rfl]
          clear hc0
          refine (feed_any v1.heap.size a1 buf ((S.drop k).take c) x _ Hrd.out (by rw [HC.out]; omega)).mono ?_
          rintro _ x1 ⟨rfl, r1, q1⟩
          have own1 := own_fr q1 Hown.out (by intro g hg h; simp at h; subst h; exact Hne.out hg)
          have fr1 := Hfr.out.trans q1 (by intro z hz h; simp at h; omega)
          have z1 := q1.size
          replace own1 := Lib.hid own1
          replace fr1 := Lib.hid fr1
          clear q1
          go_wp2_with fail
          refine (all_any v1.heap.size a1 _ x _ l w.heap.size _ r1 own1.out (by omega) (by split <;> first | omega | (rw [List.length_append, HC.out]; omega)) (by omega)).mono ?_
          rintro _ x2 ⟨v', rfl, own2, r2, q2, _⟩
          have hst := chunk_step a1 S ((S.drop k).take c) k l buf x HInv.out (by rw [HC.out, List.take_add]) (by omega) (by rw [HC.out]; omega) hbl _ rfl
          rw [HC.out] at hst
          obtain ⟨i1, i2, i3, _⟩ := hst
          generalize allR a1 400 (if x = 0 then buf ++ (S.drop k).take c else buf) x l = R at *
          have fr2 := fr1.out.trans q2 (by intro z hz h; rcases List.mem_cons.1 h with h | h; · omega
                                           · have := (own1.out.lt z (by simpa using h)).1; omega)
          have J1 := Lib.hid own2
          have J2 := Lib.hid r2
          have J3 := Lib.hid fr2
          have J4 := Lib.hid i1
          clear q2 own2 r2 fr2 i1
          go_wp2
          go_roundw
          case rel => obtain rfl : c = 0 := by omega
                      exact ⟨k + 0, q + 1, R.1, R.2.2.1, R.2.2.2, by go_num, by go_num, by omega, by omega, by omega, by omega, i2, J4, J1.out, J2.out, J3.out⟩
          case measure => simp [intOf]; omega
        · obtain ⟨c, rfl⟩ := Int.eq_ofNat_of_zero_le (show 0 ≤ y by omega)
          have hsl := run_slice_str (P := Try.prog) 9 Try.underlying9 S k c
          by_cases hb : k + c ≤ S.length
          · replace hsl := hsl hb
            have hb1 : (c : Int) ≤ (S.length : Int) - (k : Int) := by omega
            have HC : Hid (((S.drop k).take c).length = c) := Lib.hid (by rw [List.length_take, List.length_drop]; omega)
            go_wp2_with fail
            clear hsl
            refine (feed_any v1.heap.size a1 buf ((S.drop k).take c) x _ Hrd.out (by rw [HC.out]; omega)).mono ?_
            rintro _ x1 ⟨rfl, r1, q1⟩
            have own1 := own_fr q1 Hown.out (by intro g hg h; simp at h; subst h; exact Hne.out hg)
            have fr1 := Hfr.out.trans q1 (by intro z hz h; simp at h; omega)
            have z1 := q1.size
            replace own1 := Lib.hid own1
            replace fr1 := Lib.hid fr1
            clear q1
            go_wp2_with fail
            refine (all_any v1.heap.size a1 _ x _ l w.heap.size _ r1 own1.out (by omega) (by split <;> first | omega | (rw [List.length_append, HC.out]; omega)) (by omega)).mono ?_
            rintro _ x2 ⟨v', rfl, own2, r2, q2, _⟩
            have hst := chunk_step a1 S ((S.drop k).take c) k l buf x HInv.out (by rw [HC.out, List.take_add]) (by omega) (by rw [HC.out]; omega) hbl _ rfl
            rw [HC.out] at hst
            obtain ⟨i1, i2, i3, _⟩ := hst
            generalize allR a1 400 (if x = 0 then buf ++ (S.drop k).take c else buf) x l = R at *
            have fr2 := fr1.out.trans q2 (by intro z hz h; rcases List.mem_cons.1 h with h | h; · omega
                                             · have := (own1.out.lt z (by simpa using h)).1; omega)
            have J1 := Lib.hid own2
            have J2 := Lib.hid r2
            have J3 := Lib.hid fr2
            have J4 := Lib.hid i1
            clear q2 own2 r2 fr2 i1
            go_wp2
            go_roundw
            case rel => exact ⟨k + c, q + 1, R.1, R.2.2.1, R.2.2.2, by go_num, by go_num, by omega, by omega, by omega, by omega, i2, J4, J1.out, J2.out, J3.out⟩
            case measure => simp [intOf]; omega
          · have hb1 : ¬ (c : Int) ≤ (S.length : Int) - (k : Int) := by omega
            clear hsl
            obtain ⟨c, hc1⟩ : ∃ c : Nat, (S.length : Int) - (k : Int) = (c : Int) := ⟨S.length - k, by omega⟩
            have hsl := run_slice_str (P := Try.prog) 9 Try.underlying9 S k c (by omega)
            have HC : Hid (((S.drop k).take c).length = c) := Lib.hid (by rw [List.length_take, List.length_drop]; omega)
            go_wp2_with fail
            clear hsl
            refine (feed_any v1.heap.size a1 buf ((S.drop k).take c) x _ Hrd.out (by rw [HC.out]; omega)).mono ?_
            rintro _ x1 ⟨rfl, r1, q1⟩
            have own1 := own_fr q1 Hown.out (by intro g hg h; simp at h; subst h; exact Hne.out hg)
            have fr1 := Hfr.out.trans q1 (by intro z hz h; simp at h; omega)
            have z1 := q1.size
            replace own1 := Lib.hid own1
            replace fr1 := Lib.hid fr1
            clear q1
            go_wp2_with fail
            refine (all_any v1.heap.size a1 _ x _ l w.heap.size _ r1 own1.out (by omega) (by split <;> first | omega | (rw [List.length_append, HC.out]; omega)) (by omega)).mono ?_
            rintro _ x2 ⟨v', rfl, own2, r2, q2, _⟩
            have hst := chunk_step a1 S ((S.drop k).take c) k l buf x HInv.out (by rw [HC.out, List.take_add]) (by omega) (by rw [HC.out]; omega) hbl _ rfl
            rw [HC.out] at hst
            obtain ⟨i1, i2, i3, _⟩ := hst
            generalize allR a1 400 (if x = 0 then buf ++ (S.drop k).take c else buf) x l = R at *
            have fr2 := fr1.out.trans q2 (by intro z hz h; rcases List.mem_cons.1 h with h | h; · omega
                                             · have := (own1.out.lt z (by simpa using h)).1; omega)
            have J1 := Lib.hid own2
            have J2 := Lib.hid r2
            have J3 := Lib.hid fr2
            have J4 := Lib.hid i1
            clear q2 own2 r2 fr2 i1
            go_wp2
            go_roundw
            case rel => exact ⟨k + c, q + 1, R.1, R.2.2.1, R.2.2.2, by go_num, by go_num, by omega, by omega, by omega, by omega, i2, J4, J1.out, J2.out, J3.out⟩
            case measure => simp [intOf]; omega
      · have hkl : (k : Int) ≤ S.length := by omega
        go_wp2_with fail
        rw [ex_drop _ _ _ (Nat.le_refl _)]
        have HC : Hid ((S.drop k).length = S.length - k) := Lib.hid (by rw [List.length_drop])
        refine (feed_any v1.heap.size a1 buf (S.drop k) x _ Hrd.out (by rw [HC.out]; omega)).mono ?_
        rintro _ x1 ⟨rfl, r1, q1⟩
        have own1 := own_fr q1 Hown.out (by intro g hg h; simp at h; subst h; exact Hne.out hg)
        have fr1 := Hfr.out.trans q1 (by intro z hz h; simp at h; omega)
        have z1 := q1.size
        replace own1 := Lib.hid own1
        replace fr1 := Lib.hid fr1
        clear q1
        go_wp2_with fail
        refine (all_any v1.heap.size a1 _ x _ l w.heap.size _ r1 own1.out (by omega) (by split <;> first | omega | (rw [List.length_append, HC.out]; omega)) (by omega)).mono ?_
        rintro _ x2 ⟨v', rfl, own2, r2, q2, _⟩
        have hst := chunk_step a1 S (S.drop k) k l buf x HInv.out (by rw [HC.out, show k + (S.length - k) = S.length from by omega, List.take_length, List.take_append_drop]) (by omega) (by rw [HC.out]; omega) hbl _ rfl
        rw [List.take_append_drop] at hst
        obtain ⟨_, _, i3, i4⟩ := hst
        have fr2 := fr1.out.trans q2 (by intro z hz h; rcases List.mem_cons.1 h with h | h; · omega
                                         · have := (own1.out.lt z (by simpa using h)).1; omega)
        rw [qR_fuel a1 400 (S.length + 1) S [] (by omega) (by omega), qR] at i4
        generalize allR a1 400 (if x = 0 then buf ++ S.drop k else buf) x l = R at *
        have J1 := Lib.hid own2
        have J3 := Lib.hid fr2
        have J4 := Lib.hid i4
        clear q2 own2 r2 fr2 i4
        go_wp2_with fail
        refine (rall_any S a1 _ (by omega) (by omega) (by omega)).mono ?_
        rintro _ x3 ⟨u, rfl, own3, q3⟩
        have hrc := refR_cnt a1 (S.length + 1) S []
        obtain ⟨⟨rl, re, rr⟩, hR⟩ : ∃ Q, refR a1 (S.length + 1) S [] = Q := ⟨_, rfl⟩
        have e4 := J4.out
        rw [hR] at own3 hrc e4 ⊢
        obtain ⟨Rl, Re, Rr⟩ := R
        simp only [Prod.mk.injEq] at e4
        obtain ⟨e41, e42⟩ := e4
        try simp only at e41 e42
        subst e41 e42
        clear hR J4
        dsimp only at own3 hrc J1 i3 ⊢
        have V1 := Lib.hid (own_view (own_fr q3 J1.out (by simp)))
        have V2 := Lib.hid (own_view own3)
        obtain ⟨A1, cp1, rfl⟩ := own_shape J1.out
        obtain ⟨A2, cp2, rfl⟩ := own_shape own3
        have J5 := Lib.hid (J3.out.trans q3 (by simp))
        clear own3 q3
        go_wp2_with fail
        refine (same5_any _ _ rl rl _ V1.out V2.out (by simp at hrc; omega) (by simp at hrc; omega)).mono ?_
        rintro _ x4 ⟨rfl, q4⟩
        rw [sameI, if_pos rfl]
        have J6 := J5.out.trans q4 (by simp)
        clear q4
        go_wp2
        go_ret
        exact ⟨rfl, J6⟩
    · have hkl : (k : Int) ≤ S.length := by omega
      go_wp2_with fail
      rw [ex_drop _ _ _ (Nat.le_refl _)]
      have HC : Hid ((S.drop k).length = S.length - k) := Lib.hid (by rw [List.length_drop])
      refine (feed_any v1.heap.size a1 buf (S.drop k) x _ Hrd.out (by rw [HC.out]; omega)).mono ?_
      rintro _ x1 ⟨rfl, r1, q1⟩
      have own1 := own_fr q1 Hown.out (by intro g hg h; simp at h; subst h; exact Hne.out hg)
      have fr1 := Hfr.out.trans q1 (by intro z hz h; simp at h; omega)
      have z1 := q1.size
      replace own1 := Lib.hid own1
      replace fr1 := Lib.hid fr1
      clear q1
      go_wp2_with fail
      refine (all_any v1.heap.size a1 _ x _ l w.heap.size _ r1 own1.out (by omega) (by split <;> first | omega | (rw [List.length_append, HC.out]; omega)) (by omega)).mono ?_
      rintro _ x2 ⟨v', rfl, own2, r2, q2, _⟩
      have hst := chunk_step a1 S (S.drop k) k l buf x HInv.out (by rw [HC.out, show k + (S.length - k) = S.length from by omega, List.take_length, List.take_append_drop]) (by omega) (by rw [HC.out]; omega) hbl _ rfl
      rw [List.take_append_drop] at hst
      obtain ⟨_, _, i3, i4⟩ := hst
      have fr2 := fr1.out.trans q2 (by intro z hz h; rcases List.mem_cons.1 h with h | h; · omega
                                       · have := (own1.out.lt z (by simpa using h)).1; omega)
      rw [qR_fuel a1 400 (S.length + 1) S [] (by omega) (by omega), qR] at i4
      generalize allR a1 400 (if x = 0 then buf ++ S.drop k else buf) x l = R at *
      have J1 := Lib.hid own2
      have J3 := Lib.hid fr2
      have J4 := Lib.hid i4
      clear q2 own2 r2 fr2 i4
      go_wp2_with fail
      refine (rall_any S a1 _ (by omega) (by omega) (by omega)).mono ?_
      rintro _ x3 ⟨u, rfl, own3, q3⟩
      have hrc := refR_cnt a1 (S.length + 1) S []
      obtain ⟨⟨rl, re, rr⟩, hR⟩ : ∃ Q, refR a1 (S.length + 1) S [] = Q := ⟨_, rfl⟩
      have e4 := J4.out
      rw [hR] at own3 hrc e4 ⊢
      obtain ⟨Rl, Re, Rr⟩ := R
      simp only [Prod.mk.injEq] at e4
      obtain ⟨e41, e42⟩ := e4
      try simp only at e41 e42
      subst e41 e42
      clear hR J4
      dsimp only at own3 hrc J1 i3 ⊢
      have V1 := Lib.hid (own_view (own_fr q3 J1.out (by simp)))
      have V2 := Lib.hid (own_view own3)
      obtain ⟨A1, cp1, rfl⟩ := own_shape J1.out
      obtain ⟨A2, cp2, rfl⟩ := own_shape own3
      have J5 := Lib.hid (J3.out.trans q3 (by simp))
      clear own3 q3
      go_wp2_with fail
      refine (same5_any _ _ rl rl _ V1.out V2.out (by simp at hrc; omega) (by simp at hrc; omega)).mono ?_
      rintro _ x4 ⟨rfl, q4⟩
      rw [sameI, if_pos rfl]
      have J6 := J5.out.trans q4 (by simp)
      clear q4
      go_wp2
      go_ret
      exact ⟨rfl, J6⟩
end Go.Proofs.Ytlnlolhihodgoaa
