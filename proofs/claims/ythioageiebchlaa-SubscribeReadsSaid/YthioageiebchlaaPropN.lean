/- What One and Text of the reference of layer 3 come to. Conditions: strings that may be. -/
import Derived.Test.YthioageiebchlaaPropG
import Derived.Test.YthioageiebchlaaSameP
import Derived.Test.YthioageiebchlaaPropI
import Derived.Test.YthioageiebchlaaRefA
import Derived.Deep.RegionHeld3
import Derived.Deep.DrawnRows
import Derived.Test.YthioageiebchlaaPropA
import Derived.BigQuiet
namespace Go.Proofs.Ythioageiebchlaa
open Go.RowKit
set_option linter.unusedSimpArgs false
attribute [local go_sem ↓] Go.wp_at_zero Go.wp_at_succ

theorem catp3 (a b c : List UInt8) : ((ByteArray.mk a.toArray ++ ByteArray.mk b.toArray) ++ ByteArray.mk c.toArray) = ByteArray.mk (a ++ (b ++ c)).toArray := by
  rw [ByteArray.mk_append_mk, ByteArray.mk_append_mk, List.append_assoc]
set_option maxRecDepth 100000 in
set_option maxHeartbeats 1000000 in
theorem one1_any (x : Pr) (w : World) (hk : (ruleOf x.id).kind = 1) (hn : x.n < 4294967296) (hss : x.s.length ≤ 9223372036854775807) (hst : x.t.length ≤ 9223372036854775807) :
    Calls Try.prog 68 #[.agg #[.int .i64 x.id, .int .u32 x.n, .string ⟨x.s.toArray⟩, .string ⟨x.t.toArray⟩]] w fun e w' => e = .returned (.string ⟨(oneB x).toArray⟩) ∧ Fr [] w w' := by
  have hcv := conv1 ((x.n : Int) % 256) (by omega)
  have l1 : ¬ 9223372036854775807 < (var x.id.toNat).length + 1 := by have := varB_len' x.id.toNat; omega
  obtain ⟨h1, h42⟩ := kind_id x.id (by rw [hk]; decide)
  have hp := Lib.hid (blk_new w (.cells (prE x).toArray 121))
  have hff : Fr [] w (w.alloc (.cells (prE x).toArray 121)) := (Fr.refl _ _).alloc _
  obtain ⟨xi, xn, xs, xt⟩ := x
  dsimp only at hk h1 h42 hn hss hst
  have HX : Hid (oneB ⟨xi, xn, xs, xt⟩ = var xi.toNat ++ sayB 1 ⟨xi, xn, xs, xt⟩) := Lib.hid (by rw [← hk]; rfl)
  have hv4 := varB_len' xi.toNat
  go_enter Try.func68, Try.ntmps68
  go_wp2_with fail
  refine (rvar_any xi _ (by omega) (by omega)).mono ?_
  rintro _ w1 ⟨rfl, g1⟩
  have hp1 := g1.blk hp.out (by simp)
  have hf1 := hff.trans g1 (by simp)
  obtain ⟨⟨c0, c1, c2, c3⟩, ⟨f0, f1, f2, f3⟩, hpl⟩ := blk4_facts hp1
  clear g1 hff
  go_wp2_with fail
  refine (rkind_any _ _).mono ?_
  rintro _ _ ⟨rfl, rfl⟩
  rw [hk]
  try dsimp only at hcv l1
  go_wp2
  go_ret
  rw [HX.out]
  refine ⟨?_, hf1.alloc _⟩
  rw [← ByteArray.mk_append_mk]
  rw [show sayB 1 ⟨xi, xn, xs, xt⟩ = [b8 xn] from rfl, show [b8 xn] = [b8 ((xn : Int) % 256).toNat] from by rw [b8_eq (show ((xn : Int) % 256).toNat % 256 = xn % 256 from by omega)]]
  rfl
set_option maxRecDepth 100000 in
set_option maxHeartbeats 1000000 in
theorem one2_any (x : Pr) (w : World) (hk : (ruleOf x.id).kind = 2) (hn : x.n < 4294967296) (hss : x.s.length ≤ 9223372036854775807) (hst : x.t.length ≤ 9223372036854775807) :
    Calls Try.prog 68 #[.agg #[.int .i64 x.id, .int .u32 x.n, .string ⟨x.s.toArray⟩, .string ⟨x.t.toArray⟩]] w fun e w' => e = .returned (.string ⟨(oneB x).toArray⟩) ∧ Fr [] w w' := by
  obtain ⟨h1, h42⟩ := kind_id x.id (by rw [hk]; decide)
  have hp := Lib.hid (blk_new w (.cells (prE x).toArray 121))
  have hff : Fr [] w (w.alloc (.cells (prE x).toArray 121)) := (Fr.refl _ _).alloc _
  obtain ⟨xi, xn, xs, xt⟩ := x
  dsimp only at hk h1 h42 hn hss hst
  have HX : Hid (oneB ⟨xi, xn, xs, xt⟩ = var xi.toNat ++ sayB 2 ⟨xi, xn, xs, xt⟩) := Lib.hid (by rw [← hk]; rfl)
  have hv4 := varB_len' xi.toNat
  go_enter Try.func68, Try.ntmps68
  go_wp2_with fail
  refine (rvar_any xi _ (by omega) (by omega)).mono ?_
  rintro _ w1 ⟨rfl, g1⟩
  have hp1 := g1.blk hp.out (by simp)
  have hf1 := hff.trans g1 (by simp)
  obtain ⟨⟨c0, c1, c2, c3⟩, ⟨f0, f1, f2, f3⟩, hpl⟩ := blk4_facts hp1
  clear g1 hff
  go_wp2_with fail
  refine (rkind_any _ _).mono ?_
  rintro _ _ ⟨rfl, rfl⟩
  rw [hk]
  have hl : (two xn).length ≤ 4 := by first | exact varB_len' xn | (simp [two, four])
  have l1 : ¬ 9223372036854775807 < (var xi.toNat).length + (two xn).length := by omega
  go_wp2_with fail
  refine (rtwo_any xn _ (by omega) (by omega)).mono ?_
  rintro _ w2 ⟨rfl, g2⟩
  rw [Int.toNat_natCast]
  go_wp2
  go_ret
  rw [HX.out]
  refine ⟨?_, hf1.trans g2 (by simp)⟩
  rw [← ByteArray.mk_append_mk]
  rfl
set_option maxRecDepth 100000 in
set_option maxHeartbeats 1000000 in
theorem one3_any (x : Pr) (w : World) (hk : (ruleOf x.id).kind = 3) (hn : x.n < 4294967296) (hss : x.s.length ≤ 9223372036854775807) (hst : x.t.length ≤ 9223372036854775807) :
    Calls Try.prog 68 #[.agg #[.int .i64 x.id, .int .u32 x.n, .string ⟨x.s.toArray⟩, .string ⟨x.t.toArray⟩]] w fun e w' => e = .returned (.string ⟨(oneB x).toArray⟩) ∧ Fr [] w w' := by
  obtain ⟨h1, h42⟩ := kind_id x.id (by rw [hk]; decide)
  have hp := Lib.hid (blk_new w (.cells (prE x).toArray 121))
  have hff : Fr [] w (w.alloc (.cells (prE x).toArray 121)) := (Fr.refl _ _).alloc _
  obtain ⟨xi, xn, xs, xt⟩ := x
  dsimp only at hk h1 h42 hn hss hst
  have HX : Hid (oneB ⟨xi, xn, xs, xt⟩ = var xi.toNat ++ sayB 3 ⟨xi, xn, xs, xt⟩) := Lib.hid (by rw [← hk]; rfl)
  have hv4 := varB_len' xi.toNat
  go_enter Try.func68, Try.ntmps68
  go_wp2_with fail
  refine (rvar_any xi _ (by omega) (by omega)).mono ?_
  rintro _ w1 ⟨rfl, g1⟩
  have hp1 := g1.blk hp.out (by simp)
  have hf1 := hff.trans g1 (by simp)
  obtain ⟨⟨c0, c1, c2, c3⟩, ⟨f0, f1, f2, f3⟩, hpl⟩ := blk4_facts hp1
  clear g1 hff
  go_wp2_with fail
  refine (rkind_any _ _).mono ?_
  rintro _ _ ⟨rfl, rfl⟩
  rw [hk]
  have hl : (four xn).length ≤ 4 := by first | exact varB_len' xn | (simp [two, four])
  have l1 : ¬ 9223372036854775807 < (var xi.toNat).length + (four xn).length := by omega
  go_wp2_with fail
  refine (rfour_any xn _ (by omega) (by omega)).mono ?_
  rintro _ w2 ⟨rfl, g2⟩
  rw [Int.toNat_natCast]
  go_wp2
  go_ret
  rw [HX.out]
  refine ⟨?_, hf1.trans g2 (by simp)⟩
  rw [← ByteArray.mk_append_mk]
  rfl
set_option maxRecDepth 100000 in
set_option maxHeartbeats 1000000 in
theorem one4_any (x : Pr) (w : World) (hk : (ruleOf x.id).kind = 4) (hn : x.n < 4294967296) (hss : x.s.length ≤ 9223372036854775807) (hst : x.t.length ≤ 9223372036854775807) :
    Calls Try.prog 68 #[.agg #[.int .i64 x.id, .int .u32 x.n, .string ⟨x.s.toArray⟩, .string ⟨x.t.toArray⟩]] w fun e w' => e = .returned (.string ⟨(oneB x).toArray⟩) ∧ Fr [] w w' := by
  obtain ⟨h1, h42⟩ := kind_id x.id (by rw [hk]; decide)
  have hp := Lib.hid (blk_new w (.cells (prE x).toArray 121))
  have hff : Fr [] w (w.alloc (.cells (prE x).toArray 121)) := (Fr.refl _ _).alloc _
  obtain ⟨xi, xn, xs, xt⟩ := x
  dsimp only at hk h1 h42 hn hss hst
  have HX : Hid (oneB ⟨xi, xn, xs, xt⟩ = var xi.toNat ++ sayB 4 ⟨xi, xn, xs, xt⟩) := Lib.hid (by rw [← hk]; rfl)
  have hv4 := varB_len' xi.toNat
  go_enter Try.func68, Try.ntmps68
  go_wp2_with fail
  refine (rvar_any xi _ (by omega) (by omega)).mono ?_
  rintro _ w1 ⟨rfl, g1⟩
  have hp1 := g1.blk hp.out (by simp)
  have hf1 := hff.trans g1 (by simp)
  obtain ⟨⟨c0, c1, c2, c3⟩, ⟨f0, f1, f2, f3⟩, hpl⟩ := blk4_facts hp1
  clear g1 hff
  go_wp2_with fail
  refine (rkind_any _ _).mono ?_
  rintro _ _ ⟨rfl, rfl⟩
  rw [hk]
  have hl : (var xn).length ≤ 4 := by first | exact varB_len' xn | (simp [two, four])
  have l1 : ¬ 9223372036854775807 < (var xi.toNat).length + (var xn).length := by omega
  go_wp2_with fail
  refine (rvar_any xn _ (by omega) (by omega)).mono ?_
  rintro _ w2 ⟨rfl, g2⟩
  rw [Int.toNat_natCast]
  go_wp2
  go_ret
  rw [HX.out]
  refine ⟨?_, hf1.trans g2 (by simp)⟩
  rw [← ByteArray.mk_append_mk]
  rfl
set_option maxRecDepth 100000 in
set_option maxHeartbeats 1000000 in
theorem one5_any (x : Pr) (w : World) (hk : (ruleOf x.id).kind = 5) (hn : x.n < 4294967296) (hss : x.s.length ≤ 9223372036854775807) (hst : x.t.length ≤ 9223372036854775807) :
    Calls Try.prog 68 #[.agg #[.int .i64 x.id, .int .u32 x.n, .string ⟨x.s.toArray⟩, .string ⟨x.t.toArray⟩]] w fun e w' => e = .returned (.string ⟨(oneB x).toArray⟩) ∧ Fr [] w w' := by
  obtain ⟨h1, h42⟩ := kind_id x.id (by rw [hk]; decide)
  have hp := Lib.hid (blk_new w (.cells (prE x).toArray 121))
  have hff : Fr [] w (w.alloc (.cells (prE x).toArray 121)) := (Fr.refl _ _).alloc _
  obtain ⟨xi, xn, xs, xt⟩ := x
  dsimp only at hk h1 h42 hn hss hst
  have HX : Hid (oneB ⟨xi, xn, xs, xt⟩ = var xi.toNat ++ sayB 5 ⟨xi, xn, xs, xt⟩) := Lib.hid (by rw [← hk]; rfl)
  have hv4 := varB_len' xi.toNat
  go_enter Try.func68, Try.ntmps68
  go_wp2_with fail
  refine (rvar_any xi _ (by omega) (by omega)).mono ?_
  rintro _ w1 ⟨rfl, g1⟩
  have hp1 := g1.blk hp.out (by simp)
  have hf1 := hff.trans g1 (by simp)
  obtain ⟨⟨c0, c1, c2, c3⟩, ⟨f0, f1, f2, f3⟩, hpl⟩ := blk4_facts hp1
  clear g1 hff
  go_wp2_with fail
  refine (rkind_any _ _).mono ?_
  rintro _ _ ⟨rfl, rfl⟩
  rw [hk]
  have hl := dataB_len xs
  have l1 : ¬ 9223372036854775807 < (var xi.toNat).length + (dataB xs).length := by omega
  go_wp2_with fail
  refine (rdata_any xs _ hss).mono ?_
  rintro _ w2 ⟨rfl, g2⟩
  go_wp2
  go_ret
  rw [HX.out]
  refine ⟨?_, hf1.trans g2 (by simp)⟩
  rw [← ByteArray.mk_append_mk]
  rfl
set_option maxRecDepth 100000 in
set_option maxHeartbeats 1000000 in
theorem one6_any (x : Pr) (w : World) (hk : (ruleOf x.id).kind = 6) (hn : x.n < 4294967296) (hss : x.s.length ≤ 9223372036854775807) (hst : x.t.length ≤ 9223372036854775807) :
    Calls Try.prog 68 #[.agg #[.int .i64 x.id, .int .u32 x.n, .string ⟨x.s.toArray⟩, .string ⟨x.t.toArray⟩]] w fun e w' => e = .returned (.string ⟨(oneB x).toArray⟩) ∧ Fr [] w w' := by
  obtain ⟨h1, h42⟩ := kind_id x.id (by rw [hk]; decide)
  have hp := Lib.hid (blk_new w (.cells (prE x).toArray 121))
  have hff : Fr [] w (w.alloc (.cells (prE x).toArray 121)) := (Fr.refl _ _).alloc _
  obtain ⟨xi, xn, xs, xt⟩ := x
  dsimp only at hk h1 h42 hn hss hst
  have HX : Hid (oneB ⟨xi, xn, xs, xt⟩ = var xi.toNat ++ sayB 6 ⟨xi, xn, xs, xt⟩) := Lib.hid (by rw [← hk]; rfl)
  have hv4 := varB_len' xi.toNat
  go_enter Try.func68, Try.ntmps68
  go_wp2_with fail
  refine (rvar_any xi _ (by omega) (by omega)).mono ?_
  rintro _ w1 ⟨rfl, g1⟩
  have hp1 := g1.blk hp.out (by simp)
  have hf1 := hff.trans g1 (by simp)
  obtain ⟨⟨c0, c1, c2, c3⟩, ⟨f0, f1, f2, f3⟩, hpl⟩ := blk4_facts hp1
  clear g1 hff
  go_wp2_with fail
  refine (rkind_any _ _).mono ?_
  rintro _ _ ⟨rfl, rfl⟩
  rw [hk]
  have hl := dataB_len xs
  have l1 : ¬ 9223372036854775807 < (var xi.toNat).length + (dataB xs).length := by omega
  go_wp2_with fail
  refine (rdata_any xs _ hss).mono ?_
  rintro _ w2 ⟨rfl, g2⟩
  go_wp2
  go_ret
  rw [HX.out]
  refine ⟨?_, hf1.trans g2 (by simp)⟩
  rw [← ByteArray.mk_append_mk]
  rfl
set_option maxRecDepth 100000 in
set_option maxHeartbeats 1000000 in
theorem one7_any (x : Pr) (w : World) (hk : (ruleOf x.id).kind = 7) (hn : x.n < 4294967296) (hss : x.s.length ≤ 9223372036854775807) (hst : x.t.length ≤ 9223372036854775807) :
    Calls Try.prog 68 #[.agg #[.int .i64 x.id, .int .u32 x.n, .string ⟨x.s.toArray⟩, .string ⟨x.t.toArray⟩]] w fun e w' => e = .returned (.string ⟨(oneB x).toArray⟩) ∧ Fr [] w w' := by
  obtain ⟨h1, h42⟩ := kind_id x.id (by rw [hk]; decide)
  have hp := Lib.hid (blk_new w (.cells (prE x).toArray 121))
  have hff : Fr [] w (w.alloc (.cells (prE x).toArray 121)) := (Fr.refl _ _).alloc _
  obtain ⟨xi, xn, xs, xt⟩ := x
  dsimp only at hk h1 h42 hn hss hst
  have HX : Hid (oneB ⟨xi, xn, xs, xt⟩ = var xi.toNat ++ sayB 7 ⟨xi, xn, xs, xt⟩) := Lib.hid (by rw [← hk]; rfl)
  have hv4 := varB_len' xi.toNat
  go_enter Try.func68, Try.ntmps68
  go_wp2_with fail
  refine (rvar_any xi _ (by omega) (by omega)).mono ?_
  rintro _ w1 ⟨rfl, g1⟩
  have hp1 := g1.blk hp.out (by simp)
  have hf1 := hff.trans g1 (by simp)
  obtain ⟨⟨c0, c1, c2, c3⟩, ⟨f0, f1, f2, f3⟩, hpl⟩ := blk4_facts hp1
  clear g1 hff
  go_wp2_with fail
  refine (rkind_any _ _).mono ?_
  rintro _ _ ⟨rfl, rfl⟩
  rw [hk]
  have hl := dataB_len xs
  have hl2 := dataB_len xt
  have l1 : ¬ 9223372036854775807 < (var xi.toNat).length + (dataB xs).length := by omega
  have l2 : ¬ 9223372036854775807 < (var xi.toNat).length + (dataB xs).length + (dataB xt).length := by omega
  go_wp2
  go_region_held3 (fun w' => w'.cell? ⟨w.heap.size, 2, none⟩ = some (.string ⟨xs.toArray⟩) ∧ w'.cell? ⟨w.heap.size, 3, none⟩ = some (.string ⟨xt.toArray⟩)) (first | exact ⟨gx.cell c2 (by simp), gx.cell c3 (by simp)⟩ | exact ⟨c2, c3⟩) (first
    | (go_at_call 47; (with_reducible refine (rdata_any xs w1.drew hss).mono ?_); rintro _ z1 ⟨rfl, q1⟩; have gx : Fr [] w1 z1 := ((Fr.refl [] w1).drew.trans q1 (by simp)))
    | (go_at_call 47; (with_reducible refine (rdata_any xt z1 hst).mono ?_); rintro _ z2 ⟨rfl, q2⟩; have gx : Fr [] w1 z2 := (gx.trans q2 (by simp))))
  go_wp2
  go_ret
  rw [HX.out]
  exact ⟨congrArg (fun z => Ending.returned (.string z)) (catp3 (var xi.toNat) (dataB xs) (dataB xt)), hf1.trans gx (by simp)⟩
theorem rone_any (x : Pr) (w : World) (hk : 0 < (ruleOf x.id).kind) (hn : x.n < 4294967296) (hss : x.s.length ≤ 9223372036854775807) (hst : x.t.length ≤ 9223372036854775807) :
    Calls Try.prog 68 #[.agg #[.int .i64 x.id, .int .u32 x.n, .string ⟨x.s.toArray⟩, .string ⟨x.t.toArray⟩]] w fun e w' => e = .returned (.string ⟨(oneB x).toArray⟩) ∧ Fr [] w w' := by
  have h7 := (ruleOf_cases x.id).2.2.1
  by_cases k1 : (ruleOf x.id).kind = 1
  · exact one1_any x w k1 hn hss hst
  by_cases k2 : (ruleOf x.id).kind = 2
  · exact one2_any x w k2 hn hss hst
  by_cases k3 : (ruleOf x.id).kind = 3
  · exact one3_any x w k3 hn hss hst
  by_cases k4 : (ruleOf x.id).kind = 4
  · exact one4_any x w k4 hn hss hst
  by_cases k5 : (ruleOf x.id).kind = 5
  · exact one5_any x w k5 hn hss hst
  by_cases k6 : (ruleOf x.id).kind = 6
  · exact one6_any x w k6 hn hss hst
  by_cases k7 : (ruleOf x.id).kind = 7
  · exact one7_any x w k7 hn hss hst
  omega
def ROne : Prop := ∀ (x : Pr) (w : World), 0 < (ruleOf x.id).kind → x.n < 4294967296 → x.s.length ≤ 9223372036854775807 → x.t.length ≤ 9223372036854775807 →
    Calls Try.prog 68 #[.agg #[.int .i64 x.id, .int .u32 x.n, .string ⟨x.s.toArray⟩, .string ⟨x.t.toArray⟩]] w fun e w' => e = .returned (.string ⟨(oneB x).toArray⟩) ∧ Fr [] w w'
set_option maxRecDepth 100000 in
set_option maxHeartbeats 2000000 in
theorem rtext_pany (v : Value) (l : List Pr) (w : World) (hv : View w v l.length (l.flatMap prE)) (hl : l.length ≤ 1000) (hok : ∀ x ∈ l, x.n < 4294967296 ∧ x.s.length ≤ 9223372036854775807 ∧ x.t.length ≤ 9223372036854775807) :
    Calls Try.prog 46 #[v] w fun e w' => e = .returned (.string ⟨(var (putsB l).length ++ putsB l).toArray⟩) ∧ Fr [] w w' := by
  have HC : Hid (0 < l.length → ∃ bb off c, v = .slice (some ⟨bb, off, none⟩) l.length c ∧ bb < w.heap.size ∧ ∀ (i : Nat) (hi : i < l.length) j u, (prE l[i])[j]? = some u → w.cell? ⟨bb, off + i * 4 + j, none⟩ = some u) := Lib.hid (fun hl => hv.at prE_len (by decide) hl)
  obtain ⟨A, c, rfl, _⟩ := hv
  have HK := Lib.hid hok
  have HR1 : Hid ROne := Lib.hid rone_any
  clear hok
  go_enter Try.func46, Try.ntmps46
  go_wp2
  go_loopw [3, 8] (fun s i wr => ∃ k : Nat, i = .int .i64 k ∧ k ≤ l.length ∧ s = .string ⟨(putsB (l.take k)).toArray⟩ ∧ Fr [] w wr) (fun _ i _ => l.length - (intOf i).toNat)
  case atStart => exact ⟨0, rfl, by omega, rfl, Fr.refl _ _⟩
  case round =>
    obtain ⟨k, rfl, hk, rfl, hfr⟩ := hrel
    have HF := Lib.hid hfr
    have hpl := putsB_len (l.take k)
    have htl : (l.take k).length ≤ 1000 := Nat.le_trans (List.length_take_le _ _) (by omega)
    clear hfr
    by_cases hlt : k < l.length
    · obtain ⟨bb, off, c', hsl, hbb, hc⟩ := HC.out (by omega)
      cases hsl
      have hcell := hc k hlt
      have hok := HK.out l[k] (List.getElem_mem hlt)
      have hsn : Hid (putsB (l.take (k + 1)) = putsB (l.take k) ++ if 0 < (ruleOf l[k].id).kind then oneB l[k] else []) := Lib.hid (by rw [List.take_succ_eq_append_getElem hlt, putsB_snoc])
      generalize l[k] = x at *
      obtain ⟨hx1, hx2, hx3⟩ := hok
      have HPX := fun W (h0 : 0 < (ruleOf x.id).kind) => HR1.out x W h0 hx1 hx2 hx3
      replace HPX := Lib.hid HPX
      have hol := oneB_len x
      obtain ⟨xi, xn, xs, xt⟩ := x
      have c0 : wr.cell? ⟨bb, off + k * 4, none⟩ = some (.int .i64 xi) := HF.out.cell (hcell 0 _ rfl) (by simp)
      have c1 : wr.cell? ⟨bb, off + k * 4 + 1, none⟩ = some (.int .u32 xn) := HF.out.cell (hcell 1 _ rfl) (by simp)
      have c2 : wr.cell? ⟨bb, off + k * 4 + 2, none⟩ = some (.string ⟨xs.toArray⟩) := HF.out.cell (hcell 2 _ rfl) (by simp)
      have c3 : wr.cell? ⟨bb, off + k * 4 + 3, none⟩ = some (.string ⟨xt.toArray⟩) := HF.out.cell (hcell 3 _ rfl) (by simp)
      clear hcell hc hx1 hx2 hx3
      dsimp only at hsn
      have fr1 := Lib.hid (HF.out.alloc (.cells #[.int .i64 xi, .int .u32 xn, .string ⟨xs.toArray⟩, .string ⟨xt.toArray⟩] 121))
      obtain ⟨B, hB⟩ : ∃ B, putsB (l.take k) = B := ⟨_, rfl⟩
      rw [hB] at hpl hsn ⊢
      clear hB
      go_wp2_with fail
      refine (rkind_any _ _).mono ?_
      rintro _ _ ⟨rfl, rfl⟩
      by_cases hkd : 0 < (ruleOf xi).kind
      · have hs := Lib.hid (show putsB (l.take (k + 1)) = B ++ oneB ⟨xi, xn, xs, xt⟩ from by rw [hsn.out, if_pos hkd])
        go_wp2_with fail
        refine (HPX.out _ hkd).mono ?_
        rintro _ w3 ⟨rfl, g3⟩
        have fr3 := Lib.hid (fr1.out.trans g3 (by simp))
        have l1 : ¬ 9223372036854775807 < B.length + (oneB ⟨xi, xn, xs, xt⟩).length := by omega
        generalize oneB ⟨xi, xn, xs, xt⟩ = O at *
        go_wp2
        rw [ByteArray.mk_append_mk]
        go_roundw
        case rel => exact ⟨k + 1, by go_num, by omega, by rw [hs.out], fr3.out⟩
        case measure => simp [intOf]; omega
      · have hs := Lib.hid (show putsB (l.take (k + 1)) = B from by rw [hsn.out, if_neg hkd, List.append_nil])
        go_wp2
        go_roundw
        case rel => exact ⟨k + 1, by go_num, by omega, by rw [hs.out], fr1.out⟩
        case measure => simp [intOf]; omega
    · obtain rfl : k = l.length := by omega
      rw [List.take_length] at hpl ⊢
      have hv4 := varB_len' (putsB l).length
      obtain ⟨B, hB⟩ : ∃ B, putsB l = B := ⟨_, rfl⟩
      have HB := Lib.hid hB
      rw [hB] at hpl hv4 ⊢
      clear hB
      have l1 : ¬ 9223372036854775807 < (var B.length).length + B.length := by omega
      have hm : (B.length : Int) % 4294967296 = B.length := by omega
      go_wp2_with fail
      refine (rvar_any B.length _ (by omega) (by omega)).mono ?_
      rintro _ w2 ⟨rfl, g2⟩
      rw [Int.toNat_natCast]
      go_wp2
      go_ret
      rw [HB.out]
      refine ⟨?_, HF.out.trans g2 (by simp)⟩
      rw [← ByteArray.mk_append_mk]
      rfl
end Go.Proofs.Ythioageiebchlaa
namespace Go.Proofs.Ythioageiebchlaa
open Go.RowKit

theorem end6_any (s : List UInt8) (e : Int) (w : World) :
    Calls Try.prog 55 #[.agg #[.string ⟨s.toArray⟩, .int .i64 e]] w fun e' w' => e' = .returned (.int .i64 (Rd.ends ⟨s, e⟩)) ∧ Fr [] w w' := by
  by_cases he : e = 0
  · have e0 : (e == 0) = true := by simpa using he
    cases s with
    | nil =>
      have HE : Hid (Rd.ends ⟨[], e⟩ = 0) := Lib.hid (by simp [Rd.ends, he])
      subst he
      go_enter Try.func55, Try.ntmps55
      go_wp2
      go_ret
      rw [HE.out]
      exact ⟨rfl, (Fr.refl _ _).alloc _⟩
    | cons a s =>
      have HE : Hid (Rd.ends ⟨a :: s, e⟩ = 2) := Lib.hid (by simp [Rd.ends, he])
      clear he
      go_enter Try.func55, Try.ntmps55
      go_wp2
      go_ret
      rw [HE.out]
      exact ⟨rfl, (Fr.refl _ _).alloc _⟩
  · have e0 : (e == 0) = false := by simpa using he
    by_cases h1 : e = 1
    · have HE : Hid (Rd.ends ⟨s, e⟩ = 2) := Lib.hid (by simp [Rd.ends, h1])
      have e1 : (e == 1) = true := by simpa using h1
      clear he h1
      go_enter Try.func55, Try.ntmps55
      go_wp2
      go_ret
      rw [HE.out]
      exact ⟨rfl, (Fr.refl _ _).alloc _⟩
    · have HE : Hid (Rd.ends ⟨s, e⟩ = e) := Lib.hid (by simp [Rd.ends, h1, he])
      have e1 : (e == 1) = false := by simpa using h1
      clear he h1
      go_enter Try.func55, Try.ntmps55
      go_wp2
      go_ret
      rw [HE.out]
      exact ⟨rfl, (Fr.refl _ _).alloc _⟩
end Go.Proofs.Ythioageiebchlaa
