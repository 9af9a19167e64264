/- The walk of the law PublishShort. -/
import Derived.Test.YtlhkgalmiajinaaPublishOne
namespace Go.Proofs.Ytlhkgalmiajinaa
open Go.RowKit

set_option maxRecDepth 100000 in
set_option maxHeartbeats 4000000 in
theorem publishShort_walk (a0 a1 : Int) (w0 : (Lit.int .i64 a0).wf = true) (w1 : (Lit.int .u32 a1).wf = true) (w : World) :
    Calls Try.prog 8 #[.int .i64 a0, .int .u32 a1] w fun e w' => e = .returned (.bool true) ∧ Fr [] w w' := by
  have _ := w0
  obtain ⟨g0, g1⟩ := wf_u32 w1
  obtain ⟨N, rfl⟩ := Int.eq_ofNat_of_zero_le g0
  clear w0 w1 g0
  have ha := and3 a0
  obtain ⟨m, hm⟩ := Int.eq_ofNat_of_zero_le (show 0 ≤ a0 % 4 by omega)
  have hm4 : m < 4 := by omega
  rw [hm] at ha
  clear hm
  obtain ⟨k, hk⟩ : ∃ k : Nat, k = 4 + m := ⟨_, rfl⟩
  have hk0 : 4 ≤ k := by omega
  have hk7 : k ≤ 7 := by omega
  have hkm : 4 + (m : Int) = (k : Int) := by omega
  obtain ⟨n, hn⟩ : ∃ n : Nat, n = 1 + N % 65535 := ⟨_, rfl⟩
  have hn0 : n ≠ 0 := by omega
  have hn1 : n < 65536 := by omega
  have hnm : 1 + (N : Int) % 65535 = (n : Int) := by omega
  have h2l : (two n).length = 2 := rfl
  have HK := Lib.hid (And.intro hk (And.intro hn hm4))
  clear hk hn hm4 g1
  go_enter Try.func8, Try.ntmps8
  go_wp2_with fail
  refine (awake7_any _).mono ?_
  rintro _ w1 ⟨rfl, F⟩
  have hb1 := blk_new w1 (.cells #[.int .i64 (k : Int), .int .u32 (n : Int), .int .u8 0, .slice none 0 0] 28)
  have F := F.alloc (.cells #[.int .i64 (k : Int), .int .u32 (n : Int), .int .u8 0, .slice none 0 0] 28)
  go_wp2_with fail
  refine (packtext_any ⟨(k : Int), n, 0, []⟩ (.slice none 0 0) _ (by show (0 : Nat) < 256; omega) (by show n < _; omega) (View.nil _) (by simp) (by simp)).mono ?_
  rintro _ w2 ⟨rfl, g2⟩
  rw [show akText ⟨(k : Int), n, 0, []⟩ = two n from by simp [akText]]
  have hb1 := g2.blk hb1 (by simp)
  have F := F.trans g2 (by simp)
  clear g2
  have n1 : ¬ 9223372036854775807 < (two n).length + 1 := by omega
  have n2 : ¬ 9223372036854775807 < (two n).length + 2 := by omega
  go_wp2_with fail
  refine (packparse_any (k : Int) (two n) _ (by simp [h2l])).mono ?_
  rw [short_none (k : Int) (by omega) (by omega) n hn0 hn1]
  rintro _ w3 ⟨v3, rfl, own3, g3⟩
  dsimp only at own3 ⊢
  obtain ⟨A3, c3, rfl⟩ := own_shape own3
  unfold akC
  dsimp only
  have hb1 := blk_old (g3.blk hb1 (by simp)) (.cells #[.int .i64 (k : Int), .int .u32 (n : Int), .int .u8 0, .slice A3 0 c3] 28)
  have hb3 := blk_new w3 (.cells #[.int .i64 (k : Int), .int .u32 (n : Int), .int .u8 0, .slice A3 0 c3] 28)
  have F := (F.trans g3 (by simp)).alloc (.cells #[.int .i64 (k : Int), .int .u32 (n : Int), .int .u8 0, .slice A3 0 c3] 28)
  clear own3 g3
  go_wp2_with fail
  refine (packparse_any (k : Int) (two n ++ [0]) _ (by simp [h2l])).mono ?_
  rw [short_code (k : Int) (by omega) (by omega) n hn0 hn1]
  rintro _ w4 ⟨v4, rfl, own4, g4⟩
  dsimp only at own4 ⊢
  obtain ⟨A4, c4, rfl⟩ := own_shape own4
  unfold akC
  dsimp only
  have hb1 := blk_old (g4.blk hb1 (by simp)) (.cells #[.int .i64 (k : Int), .int .u32 (n : Int), .int .u8 0, .slice A4 0 c4] 28)
  have hb3 := blk_old (g4.blk hb3 (by simp)) (.cells #[.int .i64 (k : Int), .int .u32 (n : Int), .int .u8 0, .slice A4 0 c4] 28)
  have hb4 := blk_new w4 (.cells #[.int .i64 (k : Int), .int .u32 (n : Int), .int .u8 0, .slice A4 0 c4] 28)
  have F := (F.trans g4 (by simp)).alloc (.cells #[.int .i64 (k : Int), .int .u32 (n : Int), .int .u8 0, .slice A4 0 c4] 28)
  clear own4 g4
  go_wp2_with fail
  refine (packparse_any (k : Int) (two n ++ [0, 0]) _ (by simp [h2l])).mono ?_
  rw [short_props (k : Int) (by omega) (by omega) n hn0 hn1]
  rintro _ w5 ⟨v5, rfl, own5, g5⟩
  dsimp only at own5 ⊢
  obtain ⟨A5, c5, rfl⟩ := own_shape own5
  unfold akC
  dsimp only
  have hb1 := blk_old (g5.blk hb1 (by simp)) (.cells #[.int .i64 (k : Int), .int .u32 (n : Int), .int .u8 0, .slice A5 0 c5] 28)
  have hb3 := blk_old (g5.blk hb3 (by simp)) (.cells #[.int .i64 (k : Int), .int .u32 (n : Int), .int .u8 0, .slice A5 0 c5] 28)
  have hb4 := blk_old (g5.blk hb4 (by simp)) (.cells #[.int .i64 (k : Int), .int .u32 (n : Int), .int .u8 0, .slice A5 0 c5] 28)
  have hb5 := blk_new w5 (.cells #[.int .i64 (k : Int), .int .u32 (n : Int), .int .u8 0, .slice A5 0 c5] 28)
  have F := (F.trans g5 (by simp)).alloc (.cells #[.int .i64 (k : Int), .int .u32 (n : Int), .int .u8 0, .slice A5 0 c5] 28)
  clear own5 g5
  go_upto_region 9 with (fail)
  obtain ⟨z, hz⟩ : ∃ z, w5.alloc (.cells #[.int .i64 (k : Int), .int .u32 (n : Int), .int .u8 0, .slice A5 0 c5] 28) = z := ⟨_, rfl⟩
  rw [hz] at hb1 hb3 hb4 hb5 F ⊢
  clear hz
  have HB1 := Lib.hid hb1
  have HB2 := Lib.hid hb3
  have HB3 := Lib.hid hb4
  have HB4 := Lib.hid hb5
  have F5 := Lib.hid F
  have G := Lib.hid (Fr.refl [] z)
  have k0 : (fun w' => (w'.cell? ⟨w1.heap.size, 0, none⟩ = some (.int .i64 (k : Int)) ∧ w'.cell? ⟨w1.heap.size, 1, none⟩ = some (.int .u32 (n : Int)) ∧ w'.cell? ⟨w1.heap.size, 2, none⟩ = some (.int .u8 0) ∧ w'.cell? ⟨w1.heap.size, 3, none⟩ = some (.slice none 0 0)) ∧ (w'.cell? ⟨w3.heap.size, 0, none⟩ = some (.int .i64 (k : Int)) ∧ w'.cell? ⟨w3.heap.size, 1, none⟩ = some (.int .u32 (n : Int)) ∧ w'.cell? ⟨w3.heap.size, 2, none⟩ = some (.int .u8 0) ∧ w'.cell? ⟨w3.heap.size, 3, none⟩ = some (.slice A3 0 c3)) ∧ (w'.cell? ⟨w4.heap.size, 0, none⟩ = some (.int .i64 (k : Int)) ∧ w'.cell? ⟨w4.heap.size, 1, none⟩ = some (.int .u32 (n : Int)) ∧ w'.cell? ⟨w4.heap.size, 2, none⟩ = some (.int .u8 0) ∧ w'.cell? ⟨w4.heap.size, 3, none⟩ = some (.slice A4 0 c4)) ∧ (w'.cell? ⟨w5.heap.size, 0, none⟩ = some (.int .i64 (k : Int)) ∧ w'.cell? ⟨w5.heap.size, 1, none⟩ = some (.int .u32 (n : Int)) ∧ w'.cell? ⟨w5.heap.size, 2, none⟩ = some (.int .u8 0) ∧ w'.cell? ⟨w5.heap.size, 3, none⟩ = some (.slice A5 0 c5))) z := ⟨(blk4_facts (G.out.blk HB1.out (by simp))).1, (blk4_facts (G.out.blk HB2.out (by simp))).1, (blk4_facts (G.out.blk HB3.out (by simp))).1, (blk4_facts (G.out.blk HB4.out (by simp))).1⟩
  obtain ⟨⟨e0, e1, e2, e3⟩, ⟨d0, d1, d2, d3⟩, ⟨i0, i1, i2, i3⟩, ⟨j0, j1, j2, j3⟩⟩ := k0
  have G := Lib.hid ((Fr.refl [] z).drew)
  clear hb1 hb3 hb4 hb5 F
  go_region_held3 (fun w' => (w'.cell? ⟨w1.heap.size, 0, none⟩ = some (.int .i64 (k : Int)) ∧ w'.cell? ⟨w1.heap.size, 1, none⟩ = some (.int .u32 (n : Int)) ∧ w'.cell? ⟨w1.heap.size, 2, none⟩ = some (.int .u8 0) ∧ w'.cell? ⟨w1.heap.size, 3, none⟩ = some (.slice none 0 0)) ∧ (w'.cell? ⟨w3.heap.size, 0, none⟩ = some (.int .i64 (k : Int)) ∧ w'.cell? ⟨w3.heap.size, 1, none⟩ = some (.int .u32 (n : Int)) ∧ w'.cell? ⟨w3.heap.size, 2, none⟩ = some (.int .u8 0) ∧ w'.cell? ⟨w3.heap.size, 3, none⟩ = some (.slice A3 0 c3)) ∧ (w'.cell? ⟨w4.heap.size, 0, none⟩ = some (.int .i64 (k : Int)) ∧ w'.cell? ⟨w4.heap.size, 1, none⟩ = some (.int .u32 (n : Int)) ∧ w'.cell? ⟨w4.heap.size, 2, none⟩ = some (.int .u8 0) ∧ w'.cell? ⟨w4.heap.size, 3, none⟩ = some (.slice A4 0 c4)) ∧ (w'.cell? ⟨w5.heap.size, 0, none⟩ = some (.int .i64 (k : Int)) ∧ w'.cell? ⟨w5.heap.size, 1, none⟩ = some (.int .u32 (n : Int)) ∧ w'.cell? ⟨w5.heap.size, 2, none⟩ = some (.int .u8 0) ∧ w'.cell? ⟨w5.heap.size, 3, none⟩ = some (.slice A5 0 c5))) (first | go_keep | exact kk) (first | (go_at_call 24; refine (acks7_any ⟨(k : Int), n, 0, []⟩ _ _ ⟨_, _, rfl, Or.inl rfl⟩ (by show (0 : Nat) ≤ 1000000; omega)).mono ?_; rintro _ x ⟨v, rfl, o, f⟩; obtain ⟨A6, c6, rfl⟩ := own_shape o; have G := Lib.hid (G.out.trans f (by simp)); have kk : (fun w' => (w'.cell? ⟨w1.heap.size, 0, none⟩ = some (.int .i64 (k : Int)) ∧ w'.cell? ⟨w1.heap.size, 1, none⟩ = some (.int .u32 (n : Int)) ∧ w'.cell? ⟨w1.heap.size, 2, none⟩ = some (.int .u8 0) ∧ w'.cell? ⟨w1.heap.size, 3, none⟩ = some (.slice none 0 0)) ∧ (w'.cell? ⟨w3.heap.size, 0, none⟩ = some (.int .i64 (k : Int)) ∧ w'.cell? ⟨w3.heap.size, 1, none⟩ = some (.int .u32 (n : Int)) ∧ w'.cell? ⟨w3.heap.size, 2, none⟩ = some (.int .u8 0) ∧ w'.cell? ⟨w3.heap.size, 3, none⟩ = some (.slice A3 0 c3)) ∧ (w'.cell? ⟨w4.heap.size, 0, none⟩ = some (.int .i64 (k : Int)) ∧ w'.cell? ⟨w4.heap.size, 1, none⟩ = some (.int .u32 (n : Int)) ∧ w'.cell? ⟨w4.heap.size, 2, none⟩ = some (.int .u8 0) ∧ w'.cell? ⟨w4.heap.size, 3, none⟩ = some (.slice A4 0 c4)) ∧ (w'.cell? ⟨w5.heap.size, 0, none⟩ = some (.int .i64 (k : Int)) ∧ w'.cell? ⟨w5.heap.size, 1, none⟩ = some (.int .u32 (n : Int)) ∧ w'.cell? ⟨w5.heap.size, 2, none⟩ = some (.int .u8 0) ∧ w'.cell? ⟨w5.heap.size, 3, none⟩ = some (.slice A5 0 c5))) x := ⟨(blk4_facts (G.out.blk HB1.out (by simp))).1, (blk4_facts (G.out.blk HB2.out (by simp))).1, (blk4_facts (G.out.blk HB3.out (by simp))).1, (blk4_facts (G.out.blk HB4.out (by simp))).1⟩) | (go_at_call 40; refine (sameack7_any ⟨(k : Int), n, 0, []⟩ _ _ _ ⟨_, _, rfl, Or.inl rfl⟩ ⟨_, _, rfl, Or.inl rfl⟩ (by show (0 : Nat) ≤ 1000000; omega)).mono ?_; rintro _ x ⟨rfl, f⟩; have G := Lib.hid (G.out.trans f (by simp)); have kk : (fun w' => (w'.cell? ⟨w1.heap.size, 0, none⟩ = some (.int .i64 (k : Int)) ∧ w'.cell? ⟨w1.heap.size, 1, none⟩ = some (.int .u32 (n : Int)) ∧ w'.cell? ⟨w1.heap.size, 2, none⟩ = some (.int .u8 0) ∧ w'.cell? ⟨w1.heap.size, 3, none⟩ = some (.slice none 0 0)) ∧ (w'.cell? ⟨w3.heap.size, 0, none⟩ = some (.int .i64 (k : Int)) ∧ w'.cell? ⟨w3.heap.size, 1, none⟩ = some (.int .u32 (n : Int)) ∧ w'.cell? ⟨w3.heap.size, 2, none⟩ = some (.int .u8 0) ∧ w'.cell? ⟨w3.heap.size, 3, none⟩ = some (.slice A3 0 c3)) ∧ (w'.cell? ⟨w4.heap.size, 0, none⟩ = some (.int .i64 (k : Int)) ∧ w'.cell? ⟨w4.heap.size, 1, none⟩ = some (.int .u32 (n : Int)) ∧ w'.cell? ⟨w4.heap.size, 2, none⟩ = some (.int .u8 0) ∧ w'.cell? ⟨w4.heap.size, 3, none⟩ = some (.slice A4 0 c4)) ∧ (w'.cell? ⟨w5.heap.size, 0, none⟩ = some (.int .i64 (k : Int)) ∧ w'.cell? ⟨w5.heap.size, 1, none⟩ = some (.int .u32 (n : Int)) ∧ w'.cell? ⟨w5.heap.size, 2, none⟩ = some (.int .u8 0) ∧ w'.cell? ⟨w5.heap.size, 3, none⟩ = some (.slice A5 0 c5))) x := ⟨(blk4_facts (G.out.blk HB1.out (by simp))).1, (blk4_facts (G.out.blk HB2.out (by simp))).1, (blk4_facts (G.out.blk HB3.out (by simp))).1, (blk4_facts (G.out.blk HB4.out (by simp))).1⟩))
  all_goals go_wp2
  all_goals go_ret
  all_goals exact ⟨rfl, F5.out.trans G.out (by simp)⟩
end Go.Proofs.Ytlhkgalmiajinaa
