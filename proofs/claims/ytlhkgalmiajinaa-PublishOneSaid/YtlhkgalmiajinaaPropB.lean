/- What of, set, Kind, May of package prop come to. No condition. -/
import Derived.Test.YtlhkgalmiajinaaPropA
namespace Go.Proofs.Ytlhkgalmiajinaa
open Go.RowKit

theorem blk5_facts {w : World} {b : Nat} {t : TypeId} {v0 v1 v2 v3 v4 : Value} (h : w.heap[b]? = some (.cells #[v0, v1, v2, v3, v4] t (0, 0))) :
    (w.cell? ⟨b, 0, none⟩ = some v0 ∧ w.cell? ⟨b, 1, none⟩ = some v1 ∧ w.cell? ⟨b, 2, none⟩ = some v2 ∧ w.cell? ⟨b, 3, none⟩ = some v3 ∧ w.cell? ⟨b, 4, none⟩ = some v4) ∧ (w.frozen? ⟨b, 0, none⟩ = false ∧ w.frozen? ⟨b, 1, none⟩ = false ∧ w.frozen? ⟨b, 2, none⟩ = false ∧ w.frozen? ⟨b, 3, none⟩ = false ∧ w.frozen? ⟨b, 4, none⟩ = false) ∧ b < w.heap.size :=
  ⟨⟨blk_cell h 0, blk_cell h 1, blk_cell h 2, blk_cell h 3, blk_cell h 4⟩, ⟨blk_frozen h 0, blk_frozen h 1, blk_frozen h 2, blk_frozen h 3, blk_frozen h 4⟩, blk_lt h⟩
def set5 (w : World) (b : Nat) (v0 v1 v2 v3 v4 : Value) : World := ((((w.setCell ⟨b, 0, none⟩ v0).setCell ⟨b, 1, none⟩ v1).setCell ⟨b, 2, none⟩ v2).setCell ⟨b, 3, none⟩ v3).setCell ⟨b, 4, none⟩ v4
theorem blk5_set {w : World} {b : Nat} {t : TypeId} {v0 v1 v2 v3 v4 : Value} (h : w.heap[b]? = some (.cells #[v0, v1, v2, v3, v4] t (0, 0))) (x0 x1 x2 x3 x4 : Value) : (set5 w b x0 x1 x2 x3 x4).heap[b]? = some (.cells #[x0, x1, x2, x3, x4] t (0, 0)) :=
  blk_set (blk_set (blk_set (blk_set (blk_set h 0 x0) 1 x1) 2 x2) 3 x3) 4 x4
theorem fr5_set {S : List Nat} {w w' : World} (h : Fr S w w') {b : Nat} (hb : w.heap.size ≤ b) (x0 x1 x2 x3 x4 : Value) : Fr S w (set5 w' b x0 x1 x2 x3 x4) :=
  ((((h.setCell (Or.inl hb) _).setCell (Or.inl hb) _).setCell (Or.inl hb) _).setCell (Or.inl hb) _).setCell (Or.inl hb) _
set_option maxRecDepth 100000 in
theorem of31_any (w : World) : Calls Try.prog 99 #[.int .i64 31] w fun e w' => e = .returned (ruleV ⟨5, 51956, 0, 0, 0⟩) ∧ Fr [] w w' := by
  have hor : bits .or .i64 8 65536 = 65544 := by decide +kernel
  go_enter Try.func99, Try.ntmps99
  go_wp2_with fail
  refine (bitsN_any _ [3] _ 1 rfl _ rfl (blk_atH _ _ _ (by simp)) (by decide) (by decide) (by decide)).mono ?_
  rintro _ w1 ⟨rfl, rfl⟩
  rw [show orB [3] = 8 from by decide +kernel]
  go_wp2_with fail
  refine (acks_any _).mono ?_
  rintro _ W ⟨rfl, hf⟩
  have hb := hf.blk (b := w.heap.size) (blk_old (blk_new w _) _) (by simp)
  have hff : Fr [] w W := (((Fr.refl [] w).alloc _).alloc _).trans hf (by simp)
  clear hf
  obtain ⟨⟨hs0, hs1, hs2, hs3, hs4⟩, ⟨hz0, hz1, hz2, hz3, hz4⟩, hsz⟩ := blk5_facts hb
  have HB := Lib.hid (blk5_set hb (.int .i64 5) (.int .i64 51956) (.int .u32 0) (.int .u32 0) (.int .i64 0))
  have HF := Lib.hid (fr5_set hff (b := w.heap.size) (Nat.le_refl _) (.int .i64 5) (.int .i64 51956) (.int .u32 0) (.int .u32 0) (.int .i64 0))
  clear hff hb
  go_wp2
  obtain ⟨W5, hW5⟩ : ∃ W5, W5 = set5 W w.heap.size (.int .i64 5) (.int .i64 51956) (.int .u32 0) (.int .u32 0) (.int .i64 0) := ⟨_, rfl⟩
  have hb5 := HB.out
  have hf5 := HF.out
  rw [← hW5] at hb5 hf5
  rw [set5] at hW5
  rw [← hW5]
  clear hW5 HB HF hs0 hs1 hs2 hs3 hs4 hz0 hz1 hz2 hz3 hz4
  obtain ⟨⟨hs0, hs1, hs2, hs3, hs4⟩, ⟨hz0, hz1, hz2, hz3, hz4⟩, _⟩ := blk5_facts hb5
  clear hb5 hz0 hz1 hz2 hz3 hz4
  refine bodyPost_ret (v := .agg #[.int .i64 5, .int .i64 51956, .int .u32 0, .int .u32 0, .int .i64 0]) (by simp [results, Try.results99, go_sem, hs0, hs1, hs2, hs3, hs4]) rfl ?_
  exact ⟨rfl, hf5⟩
set_option maxRecDepth 100000 in
theorem of38_any (w : World) : Calls Try.prog 99 #[.int .i64 38] w fun e w' => e = .returned (ruleV ⟨7, 118782, 0, 0, 118782⟩) ∧ Fr [] w w' := by
  have hor : bits .or .i64 8 65536 = 65544 := by decide +kernel
  have hor1 : bits .or .i64 51956 65544 = 117500 := by decide +kernel
  have hor2 : bits .or .i64 117500 1282 = 118782 := by decide +kernel
  go_enter Try.func99, Try.ntmps99
  go_wp2_with fail
  refine (bitsN_any _ [3] _ 1 rfl _ rfl (blk_atH _ _ _ (by simp)) (by decide) (by decide) (by decide)).mono ?_
  rintro _ w1 ⟨rfl, rfl⟩
  rw [show orB [3] = 8 from by decide +kernel]
  go_wp2_with fail
  refine (acks_any _).mono ?_
  rintro _ w1 ⟨rfl, hf⟩
  have hb := hf.blk (b := w.heap.size) (blk_old (blk_new w _) _) (by simp)
  have hff : Fr [] w w1 := (((Fr.refl [] w).alloc _).alloc _).trans hf (by simp)
  clear hf
  go_wp2_with fail
  refine (bitsN_any _ [1, 8, 10] _ 3 rfl _ rfl (blk_atH _ _ _ (by simp)) (by decide) (by decide) (by decide)).mono ?_
  rintro _ w1 ⟨rfl, rfl⟩
  rw [show orB [1, 8, 10] = 1282 from by decide +kernel]
  replace hb := blk_old hb (.cells (List.flatMap intC [1, 8, 10]).toArray 3)
  replace hff := hff.alloc (.cells (List.flatMap intC [1, 8, 10]).toArray 3)
  go_wp2_with fail
  refine (acks_any _).mono ?_
  rintro _ w2 ⟨rfl, hf⟩
  replace hb := hf.blk hb (by simp)
  replace hff := hff.trans hf (by simp)
  clear hf
  replace hb := blk_old hb (.cells (List.flatMap intC [1, 8, 10]).toArray 3)
  replace hff := hff.alloc (.cells (List.flatMap intC [1, 8, 10]).toArray 3)
  go_wp2_with fail
  refine (bitsN_any _ [1, 8, 10] _ 3 rfl _ rfl (blk_atH _ _ _ (by simp)) (by decide) (by decide) (by decide)).mono ?_
  rintro _ W ⟨rfl, hW⟩
  rw [show orB [1, 8, 10] = 1282 from by decide +kernel]
  replace hb := (show W.heap[w.heap.size]? = _ from hW ▸ hb)
  replace hff : Fr [] w W := hW ▸ hff
  clear hW
  obtain ⟨⟨hs0, hs1, hs2, hs3, hs4⟩, ⟨hz0, hz1, hz2, hz3, hz4⟩, hsz⟩ := blk5_facts hb
  have HB := Lib.hid (blk5_set hb (.int .i64 7) (.int .i64 118782) (.int .u32 0) (.int .u32 0) (.int .i64 118782))
  have HF := Lib.hid (fr5_set hff (b := w.heap.size) (Nat.le_refl _) (.int .i64 7) (.int .i64 118782) (.int .u32 0) (.int .u32 0) (.int .i64 118782))
  clear hff hb
  go_wp2
  obtain ⟨W5, hW5⟩ : ∃ W5, W5 = set5 W w.heap.size (.int .i64 7) (.int .i64 118782) (.int .u32 0) (.int .u32 0) (.int .i64 118782) := ⟨_, rfl⟩
  have hb5 := HB.out
  have hf5 := HF.out
  rw [← hW5] at hb5 hf5
  rw [set5] at hW5
  rw [← hW5]
  clear hW5 HB HF hs0 hs1 hs2 hs3 hs4 hz0 hz1 hz2 hz3 hz4
  obtain ⟨⟨hs0, hs1, hs2, hs3, hs4⟩, ⟨hz0, hz1, hz2, hz3, hz4⟩, _⟩ := blk5_facts hb5
  clear hb5 hz0 hz1 hz2 hz3 hz4
  refine bodyPost_ret (v := .agg #[.int .i64 7, .int .i64 118782, .int .u32 0, .int .u32 0, .int .i64 118782]) (by simp [results, Try.results99, go_sem, hs0, hs1, hs2, hs3, hs4]) rfl ?_
  exact ⟨rfl, hf5⟩
set_option maxRecDepth 100000 in
set_option maxHeartbeats 2000000 in
theorem of0_any (id : Int) (w : World) (h1 : ¬ id = 1) (h2 : ¬ id = 2) (h3 : ¬ id = 3) (h8 : ¬ id = 8) (h9 : ¬ id = 9) (h11 : ¬ id = 11) (h17 : ¬ id = 17) (h18 : ¬ id = 18) (h19 : ¬ id = 19) (h21 : ¬ id = 21) (h22 : ¬ id = 22) (h23 : ¬ id = 23) (h25 : ¬ id = 25) (h24 : ¬ id = 24) (h26 : ¬ id = 26) (h28 : ¬ id = 28) (h31 : ¬ id = 31) (h33 : ¬ id = 33) (h34 : ¬ id = 34) (h35 : ¬ id = 35) (h36 : ¬ id = 36) (h37 : ¬ id = 37) (h40 : ¬ id = 40) (h41 : ¬ id = 41) (h42 : ¬ id = 42) (h38 : ¬ id = 38) (h39 : ¬ id = 39) : Calls Try.prog 99 #[.int .i64 id] w fun e w' => e = .returned (ruleV ⟨0, 0, 0, 0, 0⟩) ∧ Fr [] w w' := by
  have hor : bits .or .i64 8 65536 = 65544 := by decide +kernel
  have n1 : (id == 1) = false := by simpa using h1
  have n2 : (id == 2) = false := by simpa using h2
  have n3 : (id == 3) = false := by simpa using h3
  have n8 : (id == 8) = false := by simpa using h8
  have n9 : (id == 9) = false := by simpa using h9
  have n11 : (id == 11) = false := by simpa using h11
  have n17 : (id == 17) = false := by simpa using h17
  have n18 : (id == 18) = false := by simpa using h18
  have n19 : (id == 19) = false := by simpa using h19
  have n21 : (id == 21) = false := by simpa using h21
  have n22 : (id == 22) = false := by simpa using h22
  have n23 : (id == 23) = false := by simpa using h23
  have n25 : (id == 25) = false := by simpa using h25
  have n24 : (id == 24) = false := by simpa using h24
  have n26 : (id == 26) = false := by simpa using h26
  have n28 : (id == 28) = false := by simpa using h28
  have n31 : (id == 31) = false := by simpa using h31
  have n33 : (id == 33) = false := by simpa using h33
  have n34 : (id == 34) = false := by simpa using h34
  have n35 : (id == 35) = false := by simpa using h35
  have n36 : (id == 36) = false := by simpa using h36
  have n37 : (id == 37) = false := by simpa using h37
  have n40 : (id == 40) = false := by simpa using h40
  have n41 : (id == 41) = false := by simpa using h41
  have n42 : (id == 42) = false := by simpa using h42
  have n38 : (id == 38) = false := by simpa using h38
  have n39 : (id == 39) = false := by simpa using h39
  clear h1 h2 h3 h8 h9 h11 h17 h18 h19 h21 h22 h23 h25 h24 h26 h28 h31 h33 h34 h35 h36 h37 h40 h41 h42 h38 h39
  go_enter Try.func99, Try.ntmps99
  go_wp2_with fail
  refine (bitsN_any _ [3] _ 1 rfl _ rfl (blk_atH _ _ _ (by simp)) (by decide) (by decide) (by decide)).mono ?_
  rintro _ w1 ⟨rfl, rfl⟩
  rw [show orB [3] = 8 from by decide +kernel]
  go_wp2
  refine bodyPost_ret (v := .agg #[.int .i64 0, .int .i64 0, .int .u32 0, .int .u32 0, .int .i64 0]) (by simp [results, Try.results99, go_sem, *]) rfl ?_
  exact ⟨rfl, (by repeat (first | exact Fr.refl _ _ | (with_reducible apply Fr.alloc) | (with_reducible refine Fr.setCell ?_ (Or.inl (by simp)) _)))⟩
end Go.Proofs.Ytlhkgalmiajinaa
