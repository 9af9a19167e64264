/- The walk of the law FrameReads. -/
import Derived.Test.YtlnlolhihodgoaaFrameAwake
import Derived.Test.YtlnlolhihodgoaaPlainF
import Derived.Test.YtlnlolhihodgoaaLawA
namespace Go.Proofs.Ytlnlolhihodgoaa
open Go.RowKit

set_option maxRecDepth 100000 in
set_option maxHeartbeats 2000000 in
theorem frameReads_walk (a0 : ByteArray) (a1 : Int) (w0 : a0.size ≤ maxLen) (w1 : (Lit.int .i64 a1).wf = true) (w : World) :
    Calls Try.prog 5 #[.string a0, .int .i64 a1] w fun e w' => e = .returned (.bool true) ∧ Fr [] w w' := by
  obtain ⟨s, rfl, hs⟩ := str_list a0
  obtain ⟨g1, g1'⟩ := wf_i64 w1
  rw [← hs] at w0
  unfold maxLen at w0
  clear hs w1
  go_enter Try.func5, Try.ntmps5
  go_wp2_with fail
  refine (cut_any s 300 w (by omega) (by decide)).mono ?_
  rintro _ w2 ⟨rfl, rfl⟩
  rw [show (300 : Int).toNat = 300 from rfl]
  have hl : (s.take 300).length ≤ 300 := List.length_take_le _ _
  generalize s.take 300 = l at *
  go_wp2_with fail
  refine (awake5_any w).mono ?_
  rintro _ v1 ⟨rfl, hf1⟩
  go_wp2_with fail
  refine (fnew_any a1 _).mono ?_
  rintro _ v2 ⟨rfl, h2, hf2⟩
  go_wp2_with fail
  refine (feed_any v1.heap.size a1 [] l 0 _ h2 (by simp; omega)).mono ?_
  rintro _ v3 ⟨rfl, h3, hf3⟩
  rw [if_pos rfl, List.nil_append] at h3
  have hs1 := hf1.size
  have hs2 := hf2.size
  have hs3 := hf3.size
  have hff : Fr [] w v3 := (hf1.trans hf2 (by simp)).trans hf3 (by intro x hx h; simp at h; omega)
  clear hf1 hf2 hf3 h2
  go_wp2_with fail
  refine (all_any v1.heap.size a1 l 0 (.slice none 0 0) [] w.heap.size _ h3 (World.ownsRow_nil _ _ _ _) (by omega) (by omega) (by simp)).mono ?_
  rintro _ v4 ⟨v, rfl, ho4, h4, hf4, hb4⟩
  have hq := allR_refR a1 400 (l.length + 1) l [] (by omega) (by omega)
  rw [hq] at ho4 h4 ⊢
  clear hq h3
  have hff4 := hff.trans hf4 (by intro x hx h; simp [Value.ownBlock] at h; omega)
  have hs4 := hf4.size
  have hne4 := own_ne ho4 h4.blk (by decide)
  clear hf4 hb4 hff
  go_wp2_with fail
  refine (rall_any l a1 _ (by omega) (by omega) (by omega)).mono ?_
  rintro _ v5 ⟨u, rfl, ho5, hf5⟩
  have hre := refR_e a1 (l.length + 1) l []
  have hrl := refR_left a1 (l.length + 1) l []
  have hrc := refR_cnt a1 (l.length + 1) l []
  obtain ⟨⟨rl, re, rr⟩, hR⟩ : ∃ R, refR a1 (l.length + 1) l [] = R := ⟨_, rfl⟩
  rw [hR] at ho4 h4 ho5 hre hrl hrc ⊢
  clear hR
  simp only [endR] at ho4 h4 ho5 hre hrl hrc ⊢
  have ho4' := own_fr hf5 ho4 (by simp)
  have h5 : RdrAt v5 v1.heap.size a1 (if re = 1 then rr else []) (if re = 1 then 0 else re) := h4.fr hf5 (by simp)
  have hff5 := hff4.trans hf5 (by simp)
  have hs5 := hf5.size
  clear hf5 hff4 h4 ho4
  have V1 := own_view ho4'
  have V2 := own_view ho5
  obtain ⟨A, cp, rfl⟩ := own_shape ho4'
  obtain ⟨A', cp', rfl⟩ := own_shape ho5
  clear ho4' ho5 hne4
  have V1 := Lib.hid V1
  have V2 := Lib.hid V2
  go_wp2_with fail
  refine (same5_any _ _ rl rl _ V1.out V2.out (by simp at hrc; omega) (by simp at hrc; omega)).mono ?_
  rintro _ v6 ⟨rfl, hf6⟩
  rw [sameI, if_pos rfl]
  have h6 := h5.fr hf6 (by simp)
  have hff6 := hff5.trans hf6 (by simp)
  clear hf6 hff5 h5
  by_cases hr1 : re = 1
  · subst hr1
    rw [if_pos rfl, if_pos rfl] at h6
    go_wp2_with fail
    refine (waits_any v1.heap.size _ _ _ _ h6).mono ?_
    rintro _ v7 ⟨rfl, rfl⟩
    go_wp2
    go_ret
    exact ⟨ret_bool (by simp; omega), hff6⟩
  · rw [if_neg hr1, if_neg hr1] at h6
    have e1 : (re == 1) = false := by simpa using hr1
    have Hre := Lib.hid hre
    clear hr1 hre
    go_wp2_with fail
    refine (feed_any v1.heap.size a1 [] [192, 0] re _ h6 (by simp)).mono ?_
    rintro _ v7 ⟨rfl, h7, hf7⟩
    rw [if_neg Hre.out] at h7
    go_wp2_with fail
    refine (next_any v1.heap.size a1 [] re _ h7 (by simp)).mono ?_
    rintro _ v8 ⟨rfl, h8, hf8⟩
    rw [nextR_bad _ _ _ Hre.out] at h8 ⊢
    dsimp only [noF] at h8 ⊢
    go_wp2_with fail
    refine (waits_any v1.heap.size _ _ _ _ ⟨blk_old h8.blk _⟩).mono ?_
    rintro _ v9 ⟨rfl, rfl⟩
    go_wp2
    go_ret
    exact ⟨rfl, ((hff6.trans hf7 (by intro x hx h; simp at h; omega)).trans hf8 (by intro x hx h; simp at h; omega)).alloc _⟩
end Go.Proofs.Ytlnlolhihodgoaa
