/- The walk of the law FrameBig. -/
import Derived.Test.YtlnlolhihodgoaaFrameAwake
import Derived.Test.YtlnlolhihodgoaaPlainF
import Derived.Test.YtlnlolhihodgoaaLawA
import Derived.Laws.MakeOwn
namespace Go.Proofs.Ytlnlolhihodgoaa
open Go.RowKit

theorem made_zeros (n : Nat) : madeCells (Value.int .u8 0).cells (n * 1) = (bytesV (List.replicate n 0)).toArray := by
  apply Array.ext
  · simp [madeCells, bytesV]
  · intro i h1 h2
    simp [madeCells, bytesV, Value.cells, Nat.mod_one]
theorem run_mk0 (n : Nat) (hn : n ≤ 100000) (W : World) : (Instr.makeSlice 37 (.int .i64 (n : Int)) (.int .i64 (n : Int))).run Try.prog W = .ok (.slice (some ⟨W.heap.size, 0, none⟩) n n) (W.alloc (.cells (bytesV (List.replicate n 0)).toArray 5)) := by
  obtain ⟨i0, hi, hz0, hz1, hz2⟩ := info_parts Try.infoU8
  have := run_makeSlice (P := Try.prog) W 37 5 i0 (.int .u8 0) Try.underlying37 hi hz0 .i64 .i64 n n (by omega) (Int.le_refl _) (by rw [hz1]; simp; omega) (by rw [hz2]; simp; omega) (by omega)
  rw [this, hz1]
  simp only [Int.toNat_natCast, made_zeros]
theorem conv_zeros (n : Nat) (W : World) : (convert 37 9 (.slice (some ⟨W.heap.size, 0, none⟩) n n)).run Try.prog (W.alloc (.cells (bytesV (List.replicate n 0)).toArray 5)) = .ok (.string ⟨(List.replicate n 0).toArray⟩) (W.alloc (.cells (bytesV (List.replicate n 0)).toArray 5)) := by
  have := conv_lit W (List.replicate n 0)
  rw [List.length_replicate] at this
  exact this
theorem big_a (n : Nat) (hn : n ≤ 20000) (b : List UInt8) (hb : b.length = n) : nextR ((frameB 12 0 b).length : Int) (frameB 12 0 b) 0 = ⟨12, 0, b, 0, [], 0⟩ := by
  have hv : Rd.var ⟨(frameB 12 0 b).drop 1, 0⟩ = (n, ⟨b, 0⟩) := by
    show Rd.var ⟨var b.length ++ b, 0⟩ = _
    rw [var_back _ _ (by omega), hb]
  rw [nextR_go _ (frameB 12 0 b) 192 n ⟨b, 0⟩ (by simp [frameB]) rfl (by kernel_rfl) hv]
  rw [if_neg (by simp), if_neg (by simp), if_neg (by rw [frameB_len, hb]; omega), if_neg (by show ¬ b.length < n; omega)]
  dsimp only
  rw [← hb, List.take_length, List.drop_length]
  rfl
theorem big_b (n : Nat) (hn : n ≤ 20000) (b : List UInt8) (hb : b.length = n) : nextR (((frameB 12 0 b).length : Int) - 1) ((frameB 12 0 b).take ((frameB 12 0 b).length - n)) 0 = noF 4 [] 4 := by
  have hfl := frameB_len 12 0 b
  have e : (frameB 12 0 b).take ((frameB 12 0 b).length - n) = [b8 (12 * 16 + 0 % 16)] ++ var b.length := by
    have e1 : (frameB 12 0 b).length - n = ([b8 (12 * 16 + 0 % 16)] ++ var b.length).length := by
      rw [hfl, List.length_append]; simp; omega
    rw [e1, frameB, ← List.append_assoc]
    exact List.take_left' rfl
  rw [e]
  have hv : Rd.var ⟨([b8 (12 * 16 + 0 % 16)] ++ var b.length).drop 1, 0⟩ = (n, ⟨[], 0⟩) := by
    show Rd.var ⟨var b.length, 0⟩ = _
    have := var_back b.length [] (by omega)
    rw [List.append_nil] at this
    rw [this, hb]
  rw [nextR_go _ _ 192 n ⟨[], 0⟩ (by simp) rfl (by kernel_rfl) hv]
  rw [if_neg (by simp), if_neg (by simp), if_pos (by rw [hfl, hb]; omega)]
set_option maxRecDepth 100000 in
set_option maxHeartbeats 4000000 in
theorem frameBig_walk (a0 : Int) (w0 : (Lit.int .i64 a0).wf = true) (w : World) :
    Calls Try.prog 4 #[.int .i64 a0] w fun e w' => e = .returned (.bool true) ∧ Fr [] w w' := by
  obtain ⟨g1, g1'⟩ := wf_i64 w0
  clear w0
  by_cases h0 : a0 < 0
  · go_enter Try.func4, Try.ntmps4
    go_wp2_with fail
    refine (awake5_any w).mono ?_
    rintro _ w1 ⟨rfl, hf1⟩
    go_wp2_with fail
    refine (awake5_any w1).mono ?_
    rintro _ w2 ⟨rfl, hf2⟩
    go_wp2
    go_ret
    exact ⟨rfl, hf1.trans hf2 (by simp)⟩
  by_cases h1 : 20000 < a0
  · go_enter Try.func4, Try.ntmps4
    go_wp2_with fail
    refine (awake5_any w).mono ?_
    rintro _ w1 ⟨rfl, hf1⟩
    go_wp2_with fail
    refine (awake5_any w1).mono ?_
    rintro _ w2 ⟨rfl, hf2⟩
    go_wp2
    go_ret
    exact ⟨rfl, hf1.trans hf2 (by simp)⟩
  obtain ⟨n, rfl⟩ := Int.eq_ofNat_of_zero_le (show 0 ≤ a0 by omega)
  have hmk := run_mk0 n (by omega)
  have hcz := conv_zeros n
  have hbl : Hid ((List.replicate n (0 : UInt8)).length = n) := Lib.hid List.length_replicate
  generalize List.replicate n (0 : UInt8) = b at *
  go_enter Try.func4, Try.ntmps4
  go_wp2_with fail
  refine (awake5_any w).mono ?_
  rintro _ w1 ⟨rfl, hf1⟩
  go_wp2_with fail
  refine (ftext_any 12 0 b _ (by decide) (by decide) (by rw [hbl.out]; omega)).mono ?_
  rintro _ w2 ⟨rfl, hf2⟩
  have hff : Fr [] w w2 := ((hf1.alloc _).alloc _).trans hf2 (by simp)
  have hbig1 := big_a n (by omega) b hbl.out
  have hbig2 := big_b n (by omega) b hbl.out
  have hfl := frameB_len 12 0 b
  have hvl := var_len4 b.length
  rw [hbl.out] at hfl hvl
  clear hmk hcz hf1 hf2
  have Hb1 := Lib.hid hbig1
  have Hb2 := Lib.hid hbig2
  clear hbig1 hbig2
  obtain ⟨F, hF⟩ : ∃ F, frameB 12 0 b = F := ⟨_, rfl⟩
  rw [hF] at hfl Hb1 Hb2 ⊢
  clear hF
  have hFl : F.length ≤ 20005 := by omega
  have hFn : n + 1 ≤ F.length := by omega
  clear hfl hvl
  go_wp2_with fail
  refine (fnew_any _ _).mono ?_
  rintro _ w3 ⟨rfl, h3, hf3⟩
  go_wp2_with fail
  refine (fnew_any _ _).mono ?_
  rintro _ w4 ⟨rfl, h4, hf4⟩
  have h3' := h3.fr hf4 (by simp)
  have s2 := hff.size
  have s3 := hf3.size
  have s4 := hf4.size
  have b3 := blk_lt h3.blk
  have b4 := blk_lt h4.blk
  replace hff := (hff.trans hf3 (by simp)).trans hf4 (by simp)
  clear hf3 hf4 h3
  go_wp2_with fail
  refine (feed_any w2.heap.size _ [] F 0 _ h3' (by simp; omega)).mono ?_
  rintro _ w5 ⟨rfl, h5, hf5⟩
  rw [if_pos rfl, List.nil_append] at h5
  have h4' := h4.fr hf5 (by simp; omega)
  replace hff := hff.trans hf5 (by intro x hx h; simp at h; omega)
  have s5 := hf5.size
  clear hf5 h3' h4
  obtain ⟨c, hc⟩ : ∃ c : Nat, (F.length : Int) - (n : Int) = (c : Int) := ⟨F.length - n, by omega⟩
  have hcl : (c : Int) ≤ F.length := by omega
  have hcn : Hid (F.length - n = c) := Lib.hid (by omega)
  go_wp2_with fail
  rw [ex_take]
  refine (feed_any w3.heap.size _ [] (F.take c) 0 _ h4' (by simp; omega)).mono ?_
  rintro _ w6 ⟨rfl, h6, hf6⟩
  rw [if_pos rfl, List.nil_append] at h6
  have h5' := h5.fr hf6 (by simp; omega)
  replace hff := hff.trans hf6 (by intro x hx h; simp at h; omega)
  have s6 := hf6.size
  clear hf6 h5 h4'
  go_wp2_with fail
  refine (next_any w2.heap.size _ F 0 _ h5' (by omega)).mono ?_
  rintro _ w7 ⟨rfl, h7, hf7⟩
  rw [Hb1.out] at h7 ⊢
  dsimp only at h7 ⊢
  have h6' := h6.fr hf7 (by simp; omega)
  replace hff := hff.trans hf7 (by intro x hx h; simp at h; omega)
  have s7 := hf7.size
  clear hf7 h5' h6 hc
  go_wp2_with fail
  refine (next_any w3.heap.size _ (F.take c) 0 _ ⟨blk_old h6'.blk _⟩ (by rw [List.length_take]; omega)).mono ?_
  rintro _ w8 ⟨rfl, h8, hf8⟩
  have hz := Hb2.out
  rw [hcn.out] at hz
  rw [hz] at h8 ⊢
  dsimp only [noF] at h8 ⊢
  have hx := hf8.blk (b := w7.heap.size) (blk_new w7 (.cells #[.int .i64 12, .int .i64 0, .string ⟨b.toArray⟩] 39)) (by simp; omega)
  obtain ⟨⟨c0, c1, c2⟩, ⟨f0, f1, f2⟩, hb8⟩ := blk3_facts hx
  replace hff := (hff.alloc _).trans hf8 (by intro x hx h; simp at h; omega)
  clear hf8 h6' h7 h8 hx hz Hb1 Hb2
  have hbl2 : (b.length : Int) = (n : Int) := by rw [hbl.out]
  clear hbl
  go_wp2
  go_ret
  exact ⟨rfl, hff.alloc _⟩
end Go.Proofs.Ytlnlolhihodgoaa
