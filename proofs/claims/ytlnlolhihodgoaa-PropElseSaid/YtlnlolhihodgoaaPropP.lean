/- 'awake' of layer 3 answers true; Num. -/
import Derived.Test.YtlnlolhihodgoaaPropG
import Derived.Test.YtlnlolhihodgoaaPropH
namespace Go.Proofs.Ytlnlolhihodgoaa
open Go.RowKit

def numR (l : List Pr) (id : Int) (n : Nat) : Nat := if (getR l id).2 = true then (getR l id).1.n else n
set_option maxRecDepth 100000 in
set_option maxHeartbeats 1000000 in
theorem num_pany (v : Value) (l : List Pr) (id : Int) (n : Nat) (w : World) (hv : View w v l.length (l.flatMap prE)) (hl : l.length ≤ 9223372036854775807) :
    Calls Try.prog 41 #[v, .int .i64 id, .int .u32 n] w fun e w' => e = .returned (.int .u32 (numR l id n : Nat)) ∧ Fr [] w w' := by
  have hv2 := hv
  obtain ⟨A, c, rfl, _⟩ := hv2
  go_enter Try.func41, Try.ntmps41
  go_wp2_with fail
  refine (get_any _ l id _ hv hl).mono ?_
  rintro _ w1 ⟨rfl, g1⟩
  obtain ⟨⟨⟨gi, gn, gs, gt⟩, gb⟩, hg⟩ : ∃ x, getR l id = x := ⟨_, rfl⟩
  have HG := Lib.hid hg
  rw [hg]
  clear hg
  dsimp only
  cases gb
  · go_wp2
    go_ret
    rw [numR, HG.out]
    exact ⟨rfl, g1.alloc _⟩
  · go_wp2
    go_ret
    rw [numR, HG.out]
    exact ⟨rfl, g1.alloc _⟩
theorem view_blk (w : World) (H : Nat) (l : List Pr) (n : Nat) (hn : n = l.length) (cs : Array Value) (hcs : cs = (l.flatMap prE).toArray) (t : TypeId) (h : w.heap[H]? = some (.cells cs t (0, 0))) : View w (.slice (some ⟨H, 0, none⟩) n n) l.length (l.flatMap prE) := by
  subst hn hcs
  refine ⟨_, _, rfl, Or.inr ⟨H, 0, rfl, fun j u hj => ?_⟩⟩
  rw [cell_of_row w H (0 + j) _ _ _ h, Nat.zero_add]
  simpa using hj
set_option maxRecDepth 100000 in
set_option maxHeartbeats 2000000 in
theorem awake3_any (w : World) :
    Calls Try.prog 27 #[] w fun e w' => e = .returned (.bool true) ∧ Fr [] w w' := by
  have hn := OutAt.new w
  have hff : Fr [] w (w.alloc (.cells #[.slice none 0 0] 73)) := (Fr.refl _ _).alloc _
  go_enter Try.func27, Try.ntmps27
  go_wp2_with fail
  refine (puts_any w.heap.size w.heap.size [] _ [⟨2, 9, [], []⟩] _ (hn.fr ((Fr.refl [] _).alloc _) (by simp) (by simp)) (view_blk _ (w.heap.size + 1) [⟨2, 9, [], []⟩] 1 rfl _ rfl 68 (blk_at1 _ _ _)) (by decide) (by intro x hx; simp at hx; subst hx; exact ⟨by decide, by decide, by decide⟩) (by decide)).mono ?_
  rintro _ w1 ⟨rfl, o1, h1, ho1, g1⟩
  rw [show ([] ++ (var (putsB [⟨2, 9, [], []⟩]).length ++ putsB [⟨2, 9, [], []⟩])) = [5, 2, 0, 0, 0, 9] from by kernel_rfl] at h1
  have hf1 := (hff.alloc (.cells (List.flatMap prE [⟨2, 9, [], []⟩]).toArray 68)).trans g1 (by simp; omega)
  have z1 := g1.size
  clear hn hff g1
  go_wp2_with fail
  refine (outtext_any _ _ _ _ h1).mono ?_
  rintro _ _ ⟨rfl, rfl⟩
  go_wp2_with fail
  refine (over_any [5, 2, 0, 0, 0, 9] _).mono ?_
  rintro _ w2 ⟨rfl, h2, g2⟩
  have hl1 := h1.lt
  have h1' := h1.fr g2 (by simp) (by simp)
  have hf2 := hf1.trans g2 (by simp)
  have z2 := g2.size
  have z0 : w.heap.size ≤ w1.heap.size := hf1.size
  clear g2 h1 hf1
  go_wp2_with fail
  refine (ptake_any w1.heap.size ⟨[5, 2, 0, 0, 0, 9], 0⟩ 3 false _ h2 (by decide)).mono ?_
  rintro _ w3 ⟨v, rfl, own3, _, h3, g3⟩
  rw [show takeP ⟨[5, 2, 0, 0, 0, 9], 0⟩ 3 false = ([⟨2, 9, [], []⟩], ⟨[], 0⟩) from by kernel_rfl] at own3 h3
  dsimp only at own3 h3
  have h1'' := h1'.fr g3 (by simp; omega) (by simp; omega)
  have hf3 := hf2.trans g3 (by intro x hx h; simp at h; omega)
  clear g3 h1' h2 hf2
  have V3 := own_view own3
  obtain ⟨A, cp, rfl⟩ := own_shape own3
  have V3 := Lib.hid V3
  clear own3
  go_wp2_with fail
  refine (outtext_any _ _ _ _ h1'').mono ?_
  rintro _ _ ⟨rfl, rfl⟩
  go_wp2_with fail
  refine (num_pany _ [⟨2, 9, [], []⟩] 2 0 _ V3.out (by decide)).mono ?_
  rintro _ w4 ⟨rfl, g4⟩
  rw [show numR [⟨2, 9, [], []⟩] 2 0 = 9 from by kernel_rfl]
  go_wp2_with fail
  refine (num_pany _ [⟨2, 9, [], []⟩] 1 7 _ (V3.out.fr g4 (by simp)) (by decide)).mono ?_
  rintro _ w5 ⟨rfl, g5⟩
  rw [show numR [⟨2, 9, [], []⟩] 1 7 = 7 from by kernel_rfl]
  go_wp2_with fail
  refine (pkind_any 38 _).mono ?_
  rintro _ w6 ⟨rfl, g6⟩
  rw [show (ruleOf 38).kind = 7 from by kernel_rfl]
  go_wp2
  go_ret
  exact ⟨rfl, ((hf3.trans g4 (by simp)).trans g5 (by simp)).trans g6 (by simp)⟩
end Go.Proofs.Ytlnlolhihodgoaa
