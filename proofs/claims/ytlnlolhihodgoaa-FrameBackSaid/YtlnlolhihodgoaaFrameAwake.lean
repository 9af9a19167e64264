/- 'awake' of layer 5 answers true. -/
import Derived.Test.YtlnlolhihodgoaaFrameSame
namespace Go.Proofs.Ytlnlolhihodgoaa
open Go.RowKit

set_option maxRecDepth 100000 in
set_option maxHeartbeats 2000000 in
theorem awake5_any (w : World) :
    Calls Try.prog 14 #[] w fun e w' => e = .returned (.bool true) ∧ Fr [] w w' := by
  go_enter Try.func14, Try.ntmps14
  go_wp2_with fail
  refine (fnew_any 100 w).mono ?_
  rintro _ w1 ⟨rfl, h1, hf1⟩
  go_wp2_with fail
  refine (feed_any _ 100 [] [192] 0 _ h1 (by decide)).mono ?_
  rintro _ w2 ⟨rfl, h2, hf2⟩
  go_wp2_with fail
  refine (next_any _ 100 [192] 0 _ h2 (by decide)).mono ?_
  rintro _ w3 ⟨rfl, h3, hf3⟩
  rw [show nextR 100 [192] 0 = noF 1 [192] 0 from by kernel_rfl] at h3 ⊢
  dsimp only [noF] at h3 ⊢
  have hff := (hf1.trans hf2 (by intro x hx h; simp at h; omega)).trans hf3 (by intro x hx h; simp at h; omega)
  have hs3 := Nat.le_trans hf1.size (Nat.le_trans hf2.size hf3.size)
  have hb3 := blk_lt h3.blk
  clear h1 h2 hf1 hf2 hf3
  go_wp2_with fail
  refine (feed_any _ 100 [192] [0] 0 _ ⟨blk_old h3.blk _⟩ (by decide)).mono ?_
  rintro _ w4 ⟨rfl, h4, hf4⟩
  have hE := hf4.blk (blk_new w3 (.cells #[.int .i64 0, .int .i64 0, .string ⟨#[]⟩] 39)) (by simp; omega)
  go_wp2_with fail
  refine (next_any _ 100 [192, 0] 0 _ h4 (by decide)).mono ?_
  rintro _ w5 ⟨rfl, h5, hf5⟩
  rw [show nextR 100 [192, 0] 0 = ⟨12, 0, [], 0, [], 0⟩ from by kernel_rfl] at h5 ⊢
  dsimp only at h5 ⊢
  replace hff : Fr [] w w5 := ((hff.alloc _).trans hf4 (by intro x hx h; simp at h; omega)).trans hf5 (by intro x hx h; simp at h; omega)
  clear hf4 hf5 hE h4 h3
  have hn := blk_new w5 (.cells #[.int .i64 12, .int .i64 0, .string ⟨#[]⟩] 39)
  go_wp2_with fail
  refine (fsize_any 200 _ (by decide)).mono ?_
  rintro _ w6 ⟨rfl, hf6⟩
  rw [show (var 200).length = 2 from by decide]
  obtain ⟨⟨c0, c1, c2⟩, ⟨f0, f1, f2⟩, hb6⟩ := blk3_facts (hf6.blk hn (by simp))
  go_wp2_with fail
  refine (ftext_any 12 0 [] _ (by decide) (by decide) (by decide)).mono ?_
  rintro _ w7 ⟨rfl, hf7⟩
  rw [show frameB 12 0 [] = [192, 0] from by decide]
  go_wp2
  go_ret
  exact ⟨rfl, ((hff.alloc _).trans hf6 (by simp)).trans hf7 (by simp)⟩
end Go.Proofs.Ytlnlolhihodgoaa
