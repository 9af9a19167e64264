/- The walk of the law FrameHead. -/
import Derived.Test.YtlnlolhihodgoaaFrameAwake
import Derived.Test.YtlnlolhihodgoaaPlainF
import Derived.Test.YtlnlolhihodgoaaLawA
namespace Go.Proofs.Ytlnlolhihodgoaa
open Go.RowKit

set_option maxRecDepth 100000 in
set_option maxHeartbeats 2000000 in
theorem frameHead_walk (a0 : Int) (w0 : (Lit.int .u8 a0).wf = true) (w : World) :
    Calls Try.prog 7 #[.int .u8 a0] w fun e w' => e = .returned (.bool true) ∧ Fr [] w w' := by
  obtain ⟨g0, g0'⟩ := wf_u8 w0
  clear w0
  obtain ⟨c, rfl⟩ := Int.eq_ofNat_of_zero_le g0
  have hcv := conv2 (c : Int) 0 (by omega) (by decide)
  rw [Int.toNat_natCast] at hcv
  go_enter Try.func7, Try.ntmps7
  go_wp2_with fail
  refine (awake5_any w).mono ?_
  rintro _ w1 ⟨rfl, hf1⟩
  go_wp2_with fail
  refine (fnew_any 10 _).mono ?_
  rintro _ w2 ⟨rfl, h2, hf2⟩
  go_wp2_with fail
  refine (feed_any w1.heap.size 10 [] [b8 c, b8 (0 : Int).toNat] 0 _ ⟨blk_old h2.blk _⟩ (by simp)).mono ?_
  rintro _ w3 ⟨rfl, h3, hf3⟩
  rw [if_pos rfl] at h3
  go_wp2_with fail
  refine (next_any w1.heap.size 10 [b8 c, 0] 0 _ h3 (by simp)).mono ?_
  rintro _ w4 ⟨rfl, h4, hf4⟩
  rw [nextR_head c (by omega)] at h4 ⊢
  have hff : Fr [] w w4 := (((hf1.trans hf2 (by simp)).alloc _).trans hf3 (by intro x hx h; simp at h; have := hf1.size; omega)).trans hf4 (by intro x hx h; simp at h; have := hf1.size; omega)
  clear hcv h2 h3 hf1 hf2 hf3 hf4
  by_cases hk : chk ((c / 16 : Nat) : Int) ((c % 16 : Nat) : Int) = true
  · rw [if_pos hk] at h4 ⊢
    dsimp only at h4 ⊢
    go_wp2_with fail
    rw [show (c : Int) / 16 = ((c / 16 : Nat) : Int) from by omega, show (c : Int) % 16 = ((c % 16 : Nat) : Int) from by omega]
    refine (rcheck_any _ _ _ (by omega) (by omega)).mono ?_
    rintro _ w5 ⟨rfl, rfl⟩
    rw [hk]
    clear hk
    go_wp2_with fail
    refine (waits_any w1.heap.size _ _ _ _ ⟨blk_old h4.blk _⟩).mono ?_
    rintro _ w5 ⟨rfl, rfl⟩
    go_wp2
    go_ret
    exact ⟨rfl, hff.alloc _⟩
  · rw [if_neg hk] at h4 ⊢
    have hk' : chk ((c / 16 : Nat) : Int) ((c % 16 : Nat) : Int) = false := by simpa using hk
    clear hk
    dsimp only [noF] at h4 ⊢
    go_wp2_with fail
    rw [show (c : Int) / 16 = ((c / 16 : Nat) : Int) from by omega, show (c : Int) % 16 = ((c % 16 : Nat) : Int) from by omega]
    refine (rcheck_any _ _ _ (by omega) (by omega)).mono ?_
    rintro _ w5 ⟨rfl, rfl⟩
    rw [hk']
    clear hk'
    go_wp2
    go_ret
    exact ⟨rfl, hff.alloc _⟩
end Go.Proofs.Ytlnlolhihodgoaa
