/- What Frame.Text, the reference's Check and Text, and 'awake' of layer 5 come to. -/
import Derived.Test.YtlnlolhihodgoaaFrameNext
import Derived.Test.YtlnlolhihodgoaaRefA
import Derived.Deep.DrawnRows
namespace Go.Proofs.Ytlnlolhihodgoaa
open Go.RowKit
attribute [local go_sem ↓] Go.wp_at_zero Go.wp_at_succ

/-- Bytes of a block that is known, as a string. -/
theorem conv_at (W : World) (H : Nat) (l : List UInt8) (cs : Array Value) (hcs : cs = (bytesV l).toArray) (h : W.heap[H]? = some (.cells cs 5 (0, 0))) (n : Nat) (hn : n = l.length) : (convert 37 9 (.slice (some ⟨H, 0, none⟩) n n)).run Try.prog W = .ok (.string ⟨l.toArray⟩) W := by
  subst hcs hn
  have hc : ∀ j, j < l.length → W.cell? ⟨H, 0 + j, none⟩ = some (.int .u8 ((l.map fun c => (c.toNat : Int)).getD j 0)) := by
    intro j hj
    rw [cell_of_row W H (0 + j) _ _ _ h]
    simp [bytesV, List.getD, hj]
  have hr := run_convert_bytes_arg (P := Try.prog) W 37 5 Try.underlying37 Try.underlying5 H 0 l.length l.length (l.map fun c => (c.toNat : Int)) (by simp) hc 9 Try.underlying9
  have e : strOfNums (l.map fun c => (c.toNat : Int)) = ⟨l.toArray⟩ := by
    apply ByteArray.ext
    apply Array.ext'
    rw [strOfNums_data]
    simp only [List.map_map]
    exact map_b8 l
  rw [hr, e]
theorem conv1_at (a : Int) (h : 0 ≤ a ∧ a < 256) (W : World) (H : Nat) (hb : W.heap[H]? = some (.cells #[.int .u8 a] 5 (0, 0))) : (convert 37 9 (.slice (some ⟨H, 0, none⟩) 1 1)).run Try.prog W = .ok (.string ⟨[b8 a.toNat].toArray⟩) W :=
  conv_at W H [b8 a.toNat] _ (by simp [bytesV, u8b a h]) hb 1 rfl
theorem conv1d (a : Int) (h : 0 ≤ a ∧ a < 256) (w : World) : (convert 37 9 (.slice (some ⟨w.heap.size, 0, none⟩) 1 1)).run Try.prog (w.alloc (.cells #[.int .u8 a] 5)).drew = .ok (.string ⟨[b8 a.toNat].toArray⟩) (w.alloc (.cells #[.int .u8 a] 5)).drew :=
  conv1 a h w.drew
def frameB (k f : Nat) (b : List UInt8) : List UInt8 := [b8 (k * 16 + f % 16)] ++ (var b.length ++ b)
theorem frameB_len (k f : Nat) (b : List UInt8) : (frameB k f b).length = 1 + (var b.length).length + b.length := by
  simp only [frameB, List.length_append, List.length_cons, List.length_nil]; omega
set_option maxRecDepth 100000 in
set_option maxHeartbeats 2000000 in
theorem ftext_any (k f : Nat) (b : List UInt8) (w : World) (hk : k < 16) (hf : f < 16) (hb : b.length ≤ 100000) :
    Calls Try.prog 20 #[.agg #[.int .i64 (k : Int), .int .i64 (f : Int), .string ⟨b.toArray⟩]] w fun e w' => e = .returned (.string ⟨(frameB k f b).toArray⟩) ∧ Fr [] w w' := by
  have e1 := and_i64 4 (f : Int) 15 (by decide) (by decide) (by omega) (by omega)
  have e3 : (f : Int) % 2 ^ 4 = f := by omega
  have e2 := or_i64 4 ((k : Int) * 16) (f : Int) (by decide) (by omega) (by omega) (by omega) (by omega) (by omega)
  rw [e3] at e1
  clear e3
  have W1 : IntKind.i64.wrap ((k : Int) * 16) = (k : Int) * 16 := wraps_i64 _ (by omega) (by omega)
  have W2 : IntKind.u8.wrap ((k : Int) * 16 + f) = (k : Int) * 16 + f := by rw [IntKind.wrap_u8]; omega
  have W3 : IntKind.u32.wrap (b.length : Int) = (b.length : Int) := wraps_u32 _ (by omega) (by omega)
  go_enter Try.func20, Try.ntmps20
  go_upto_region 2 with (fail)
  obtain ⟨wd, hwd⟩ : ∃ wd, (w.alloc (.cells #[.int .i64 (k : Int), .int .i64 (f : Int), .string ⟨b.toArray⟩] 39)).alloc (.cells #[.slice none 0 0] 73) = wd := ⟨_, rfl⟩
  have hff : Fr [] w wd := by rw [← hwd]; exact ((Fr.refl [] w).alloc _).alloc _
  have hF : wd.heap[w.heap.size]? = some (.cells #[.int .i64 (k : Int), .int .i64 (f : Int), .string ⟨b.toArray⟩] 39 (0, 0)) := by rw [← hwd]; exact blk_old (blk_new _ _) _
  have hO : OutAt wd (w.heap.size + 1) (w.heap.size + 1) [] := by rw [← hwd]; have := OutAt.new (w.alloc (.cells #[.int .i64 (k : Int), .int .i64 (f : Int), .string ⟨b.toArray⟩] 39)); rwa [World.size_alloc] at this
  have hsz : wd.heap.size = w.heap.size + 2 := by rw [← hwd]; simp
  rw [hwd]
  clear hwd
  have hd : w.heap.size + 2 ≤ wd.drew.heap.size := Nat.le_of_eq hsz.symm
  replace hsz := Lib.hid hsz
  have HO := Lib.hid hO
  clear hO
  obtain ⟨⟨c0, c1, c2⟩, ⟨f0, f1, f2⟩, hb3⟩ := blk3_facts hF
  have hv4 := var_len4 b.length
  have Y0 : Hid (wd.cell? ⟨w.heap.size, 0, none⟩ = some (.int .i64 (k : Int)) ∧ wd.cell? ⟨w.heap.size, 1, none⟩ = some (.int .i64 (f : Int)) ∧ wd.cell? ⟨w.heap.size, 2, none⟩ = some (.string ⟨b.toArray⟩)) := Lib.hid ⟨c0, c1, c2⟩
  clear c0 c1 c2 f0 f1 f2 hF hb3
  go_region_held3 (fun w' => w'.cell? ⟨w.heap.size, 0, none⟩ = some (.int .i64 (k : Int)) ∧ w'.cell? ⟨w.heap.size, 1, none⟩ = some (.int .i64 (f : Int)) ∧ w'.cell? ⟨w.heap.size, 2, none⟩ = some (.string ⟨b.toArray⟩)) (first | exact Y4.out | exact Y3.out | exact Y2.out | exact Y1.out | exact Y0.out) (first
    | (go_at_call 49; refine (outbyte_any _ _ [] ((k : Int) * 16 + f) _ (by exact HO.out) (by omega) (by omega) (by simp)).mono ?_; rintro _ x1 ⟨rfl, o1, h1, ho1, g1⟩; have s1 : w.heap.size + 2 ≤ x1.heap.size := Nat.le_trans (Nat.le_of_eq hsz.out.symm) g1.size; have l1 : w.heap.size < o1 := (by omega); have Y1 := Lib.hid (show _ ∧ _ ∧ _ from ⟨g1.cell Y0.out.1 (by simp), g1.cell Y0.out.2.1 (by simp), g1.cell Y0.out.2.2 (by simp)⟩))
    | (go_at_call 50; refine (outvar_any _ _ _ (b.length : Int) _ h1 (by omega) (by omega) (by simp)).mono ?_; rintro _ x2 ⟨rfl, o2, h2, ho2, g2⟩; have s2 : w.heap.size + 2 ≤ x2.heap.size := Nat.le_trans s1 g2.size; have l2 : w.heap.size < o2 := (by omega); have Y2 := Lib.hid (show _ ∧ _ ∧ _ from ⟨g2.cell Y1.out.1 (by simp; omega), g2.cell Y1.out.2.1 (by simp; omega), g2.cell Y1.out.2.2 (by simp; omega)⟩))
    | (go_at_call 46; refine (outraw_any _ _ _ b _ h2 (by simp; omega)).mono ?_; rintro _ x3 ⟨rfl, o3, h3, ho3, g3⟩; have s3 : w.heap.size + 2 ≤ x3.heap.size := Nat.le_trans s2 g3.size; have l3 : w.heap.size < o3 := (by omega); have Y3 := Lib.hid (show _ ∧ _ ∧ _ from ⟨g3.cell Y2.out.1 (by simp; omega), g3.cell Y2.out.2.1 (by simp; omega), g3.cell Y2.out.2.2 (by simp; omega)⟩))
    | (go_at_call 38; refine (outtext_any _ _ _ _ h3).mono ?_; rintro _ x4 ⟨rfl, rfl⟩; have Y4 := Y3))
  go_wp2
  go_ret
  refine ⟨ret_str ?_, ?_⟩
  · rw [show ((k : Int) * 16 + f).toNat = k * 16 + f % 16 from by omega]
    rfl
  · refine ((hff.drew.trans g1 ?_).trans g2 ?_).trans g3 ?_
    all_goals (intro x hx hm; simp at hm; omega)
set_option maxHeartbeats 1000000 in
theorem rcheck_any (k f : Int) (w : World) (g0 : -9223372036854775808 ≤ f) (g1 : f ≤ 9223372036854775807) :
    Calls Try.prog 24 #[.int .i64 k, .int .i64 f] w fun e w' => e = .returned (.bool (chk k f)) ∧ w = w' := by
  by_cases h1 : k < 1
  · have Hc : Hid (chk k f = false) := Lib.hid (by simp [chk]; omega)
    go_enter Try.func24, Try.ntmps24
    go_wp2
    all_goals
      go_ret
      rw [Hc.out]
      exact ⟨rfl, rfl⟩
  by_cases h2 : 15 < k
  · have Hc : Hid (chk k f = false) := Lib.hid (by simp [chk]; omega)
    go_enter Try.func24, Try.ntmps24
    go_wp2
    all_goals
      go_ret
      rw [Hc.out]
      exact ⟨rfl, rfl⟩
  by_cases h3 : f < 0
  · have Hc : Hid (chk k f = false) := Lib.hid (by simp [chk]; omega)
    go_enter Try.func24, Try.ntmps24
    go_wp2
    all_goals
      go_ret
      rw [Hc.out]
      exact ⟨rfl, rfl⟩
  by_cases h4 : 15 < f
  · have Hc : Hid (chk k f = false) := Lib.hid (by simp [chk]; omega)
    go_enter Try.func24, Try.ntmps24
    go_wp2
    all_goals
      go_ret
      rw [Hc.out]
      exact ⟨rfl, rfl⟩
  by_cases k3 : k = 3
  · subst k3
    by_cases a1 : f / 2 % 4 = 3
    · have Hc : Hid (chk 3 f = false) := Lib.hid (by simp [chk]; omega)
      go_enter Try.func24, Try.ntmps24
      go_wp2
      all_goals
        go_ret
        rw [Hc.out]
        first | exact ⟨rfl, rfl⟩ | (exfalso; omega)
    by_cases a2 : f / 2 % 4 = 0
    · by_cases a3 : f < 8
      · have Hc : Hid (chk 3 f = true) := Lib.hid (by simp [chk]; omega)
        have a4 : f % 16 < 8 := by omega
        go_enter Try.func24, Try.ntmps24
        go_wp2
        all_goals
          go_ret
          rw [Hc.out]
          first | exact ⟨rfl, rfl⟩ | (exfalso; omega)
      · have Hc : Hid (chk 3 f = false) := Lib.hid (by simp [chk]; omega)
        have a4 : ¬ f % 16 < 8 := by omega
        go_enter Try.func24, Try.ntmps24
        go_wp2
        all_goals
          go_ret
          rw [Hc.out]
          first | exact ⟨rfl, rfl⟩ | (exfalso; omega)
    · have Hc : Hid (chk 3 f = true) := Lib.hid (by unfold chk; rw [if_pos rfl]; simp [a1, a2]; omega)
      have a4 : (f / 2 % 4 == 3) = false := by simpa using a1
      have a5 : (f / 2 % 4 == 0) = false := by simpa using a2
      have a6 : (f / 2 % 4 != 3) = true := by simpa using a1
      have a7 : (f / 2 % 4 != 0) = true := by simpa using a2
      go_enter Try.func24, Try.ntmps24
      go_wp2
      all_goals
        go_ret
        rw [Hc.out]
        first | exact ⟨rfl, rfl⟩ | (exfalso; omega)
  have k3' : (k == 3) = false := by simpa using k3
  by_cases k6 : k = 6 ∨ k = 8 ∨ k = 10
  · have Hc : Hid (chk k f = (f == 2)) := Lib.hid (by
      rcases k6 with rfl | rfl | rfl <;> by_cases h : f = 2 <;> simp [chk, h])
    clear k3
    rcases k6 with rfl | rfl | rfl
    all_goals
      go_enter Try.func24, Try.ntmps24
      go_wp2
      all_goals
        go_ret
        rw [Hc.out]
        first | exact ⟨rfl, rfl⟩ | (exfalso; omega)
  · have k6' : (k == 6) = false := by simp; omega
    have k8' : (k == 8) = false := by simp; omega
    have k10' : (k == 10) = false := by simp; omega
    have Hc : Hid (chk k f = (f == 0)) := Lib.hid (by
      by_cases h : f = 0 <;> simp [chk, h, k3, k6] <;> omega)
    clear k3 k6
    go_enter Try.func24, Try.ntmps24
    go_wp2
    all_goals
      go_ret
      rw [Hc.out]
      first | exact ⟨rfl, rfl⟩ | (exfalso; omega)
end Go.Proofs.Ytlnlolhihodgoaa
