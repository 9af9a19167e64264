/- awake of law06 answers true. No condition. -/
import Derived.Test.YtlhkgalmiajinaaConB
import Derived.Test.YtlhkgalmiajinaaConD
import Derived.Test.YtlhkgalmiajinaaPlainD
namespace Go.Proofs.Ytlhkgalmiajinaa
open Go.RowKit
set_option linter.unusedVariables false
set_option linter.unusedSimpArgs false

def awC : Cn := ⟨true, 0, [], [], false, [], [], [], 0, false, false, false, [], []⟩
theorem blk_zero (w : World) (c : Cn) (v u : Value) (h : ∀ w, View w v c.props.length (c.props.flatMap prE)) (h' : ∀ w, View w u c.wp.length (c.wp.flatMap prE)) (hb : CnB c) : CnOk w c v u := hb.ok (h w) (h' w)
set_option maxRecDepth 100000 in
set_option maxHeartbeats 4000000 in
theorem awake6_any (w : World) :
    Calls Try.prog 28 #[] w fun e w' => e = .returned (.bool true) ∧ Fr [] w w' := by
  have hT : cnText awC = [0, 4, 77, 81, 84, 84, 5, 2, 0, 0, 0, 0, 0] := by kernel_rfl
  have hP : cnParse [0, 4, 77, 81, 84, 84, 5, 2, 0, 0, 0, 0, 0] = (awC, 0) := by kernel_rfl
  have hQ : cnParse [0, 4, 77, 81, 84, 84, 4] = (noCn, 14) := by kernel_rfl
  have hok : CnOk w awC (.slice none 0 0) (.slice none 0 0) := ⟨by decide, by decide, View.nil _, View.nil _, by decide, by decide, by intro x hx; simp [awC] at hx, by intro x hx; simp [awC] at hx, by decide, by decide, by decide, by decide, by decide⟩
  go_enter Try.func28, Try.ntmps28
  go_wp2_with fail
  refine (cntext_any awC _ _ _ hok).mono ?_
  rintro _ w1 ⟨rfl, g1⟩
  rw [hT]
  go_wp2_with fail
  refine (cnparse_any [0, 4, 77, 81, 84, 84, 5, 2, 0, 0, 0, 0, 0] _ (by decide)).mono ?_
  rw [hP]
  rintro _ w2 ⟨v, u, rfl, hv, hu, g2⟩
  obtain ⟨A, c, rfl⟩ := view_shape hv
  obtain ⟨A', c', rfl⟩ := view_shape hu
  unfold cnC awC
  dsimp only
  have hb2 := blk_new w2 (.cells #[.bool true, .int .u32 0, .slice A 0 c, .string ⟨#[]⟩, .bool false, .slice A' 0 c', .string ⟨#[]⟩, .string ⟨#[]⟩, .int .u8 0, .bool false, .bool false, .bool false, .string ⟨#[]⟩, .string ⟨#[]⟩] 48)
  have F2 := (g1.trans g2 (by simp)).alloc (.cells #[.bool true, .int .u32 0, .slice A 0 c, .string ⟨#[]⟩, .bool false, .slice A' 0 c', .string ⟨#[]⟩, .string ⟨#[]⟩, .int .u8 0, .bool false, .bool false, .bool false, .string ⟨#[]⟩, .string ⟨#[]⟩] 48)
  go_wp2_with fail
  refine (cnparse_any [0, 4, 77, 81, 84, 84, 4] _ (by decide)).mono ?_
  rw [hQ]
  rintro _ w3 ⟨v3, u3, rfl, hv3, hu3, g3⟩
  obtain ⟨A3, c3, rfl⟩ := view_shape hv3
  obtain ⟨A3', c3', rfl⟩ := view_shape hu3
  unfold cnC noCn
  dsimp only
  have hb3 := g3.blk hb2 (by simp)
  have e0 : (w3.alloc (.cells #[.bool false, .int .u32 0, .slice A3 0 c3, .string ⟨#[]⟩, .bool false, .slice A3' 0 c3', .string ⟨#[]⟩, .string ⟨#[]⟩, .int .u8 0, .bool false, .bool false, .bool false, .string ⟨#[]⟩, .string ⟨#[]⟩] 48)).cell? ⟨w2.heap.size, 0, none⟩ = some (.bool true) := blk_cell (blk_old hb3 _) 0
  have F3 := F2.trans g3 (by simp)
  go_wp2
  go_ret
  exact ⟨rfl, F3.alloc _⟩
end Go.Proofs.Ytlhkgalmiajinaa
