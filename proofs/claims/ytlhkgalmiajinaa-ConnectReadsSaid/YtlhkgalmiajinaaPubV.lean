/- What the small functions of the law package of layer 7 come to: Told, Acks, Few, awake; Same, SameAck of the reference. Conditions: numbers within their kinds, strings that may be. -/
import Derived.Test.YtlhkgalmiajinaaPubR
import Derived.Test.YtlhkgalmiajinaaPubT
import Derived.Test.YtlhkgalmiajinaaLawA
namespace Go.Proofs.Ytlhkgalmiajinaa
open Go.RowKit

def ToldTo7 (T : TypeId) (p : Pb) (w : World) (e : Ending) (w' : World) : Prop :=
  ∃ v, e = .returned (.agg (pbC p v).toArray) ∧ w'.ownsRow w.heap.size T 4 v p.props.length (p.props.flatMap prE) ∧ Fr [] w w'
def ToldToA (T : TypeId) (a : Ak) (w : World) (e : Ending) (w' : World) : Prop :=
  ∃ v, e = .returned (.agg (akC a v).toArray) ∧ w'.ownsRow w.heap.size T 4 v a.props.length (a.props.flatMap prE) ∧ Fr [] w w'
set_option maxRecDepth 100000 in
set_option maxHeartbeats 4000000 in
theorem told7_any (p : Pb) (v : Value) (w : World) (hv : View w v p.props.length (p.props.flatMap prE)) (hl : p.props.length ≤ 1000000) :
    Calls Try.prog 19 #[.agg (pbC p v).toArray] w (ToldTo7 120 p w) := by
  obtain ⟨dup, ret, q, id, l, t, s⟩ := p
  dsimp only at hv hl
  have HV := Lib.hid hv
  obtain ⟨A, cp, rfl, _⟩ := hv
  have ha := blk_at1 w (.cells (pbC ⟨dup, ret, q, id, l, t, s⟩ (.slice A l.length cp)).toArray 26) (.cells #[.bool false, .bool false, .int .u8 0, .int .u32 0, .slice none 0 0, .string ⟨#[]⟩, .string ⟨#[]⟩] 36)
  have hb := blk_old (blk_new w (.cells (pbC ⟨dup, ret, q, id, l, t, s⟩ (.slice A l.length cp)).toArray 26)) (.cells #[.bool false, .bool false, .int .u8 0, .int .u32 0, .slice none 0 0, .string ⟨#[]⟩, .string ⟨#[]⟩] 36)
  have F0 : Fr [] w ((w.alloc (.cells (pbC ⟨dup, ret, q, id, l, t, s⟩ (.slice A l.length cp)).toArray 26)).alloc (.cells #[.bool false, .bool false, .int .u8 0, .int .u32 0, .slice none 0 0, .string ⟨#[]⟩, .string ⟨#[]⟩] 36)) := ((Fr.refl _ _).alloc _).alloc _
  unfold pbC at ha hb F0 ⊢
  go_enter Try.func19, Try.ntmps19
  go_upto_region 1 with (fail)
  obtain ⟨y, hy⟩ : ∃ y, (w.alloc (.cells #[.bool dup, .bool ret, .int .u8 (q : Int), .int .u32 (id : Int), .slice A l.length cp, .string ⟨t.toArray⟩, .string ⟨s.toArray⟩] 26)).alloc (.cells #[.bool false, .bool false, .int .u8 0, .int .u32 0, .slice none 0 0, .string ⟨#[]⟩, .string ⟨#[]⟩] 36) = y := ⟨_, rfl⟩
  rw [hy] at ha hb F0 ⊢
  clear hy
  obtain ⟨⟨e0, e1, e2, e3, e4, e5, e6⟩, ⟨k0, k1, k2, k3, k4, k5, k6⟩, _⟩ := blk7_facts hb
  have HA := Lib.hid ha
  have HF := Lib.hid F0
  have HB := Lib.hid hb
  clear ha hb F0
  go_region_held3 (fun w' => w'.cell? ⟨w.heap.size, 0, none⟩ = some (.bool dup) ∧ w'.cell? ⟨w.heap.size, 1, none⟩ = some (.bool ret) ∧ w'.cell? ⟨w.heap.size, 2, none⟩ = some (.int .u8 (q : Int)) ∧ w'.cell? ⟨w.heap.size, 3, none⟩ = some (.int .u32 (id : Int)) ∧ w'.cell? ⟨w.heap.size, 4, none⟩ = some (.slice A l.length cp) ∧ w'.cell? ⟨w.heap.size, 5, none⟩ = some (.string ⟨t.toArray⟩) ∧ w'.cell? ⟨w.heap.size, 6, none⟩ = some (.string ⟨s.toArray⟩)) (first | go_keep | exact kk) ((go_at_call 35; refine (told_any _ l _ (HV.out.old (S := []) HF.out.drew (by simp)) hl).mono ?_; rintro _ y2 ⟨v2, rfl, own2, g2⟩; obtain ⟨A2, c2, rfl⟩ := own_shape own2; have kk := (blk7_facts (g2.blk HB.out (by simp))).1; have ha2 := g2.blk HA.out (by simp); obtain ⟨⟨d0, d1, d2, d3, d4, d5, d6⟩, ⟨g0, g1, g2', g3, g4, g5, g6⟩, _⟩ := blk7_facts ha2))
  have hlow := Lib.hid (fun k hk => (own2.lt k hk).1)
  have hsy : w.heap.size + 1 < y.drew.heap.size := blk_lt HA.out
  have HZ := Lib.hid (blk7_set ha2 (.bool dup) (.bool ret) (.int .u8 (q : Int)) (.int .u32 (id : Int)) (.slice A2 l.length c2) (.string ⟨t.toArray⟩) (.string ⟨s.toArray⟩))
  have FZ := Lib.hid (fr7_set ((HF.out.drew).trans g2 (by simp)) (b := w.heap.size + 1) (by omega) (.bool dup) (.bool ret) (.int .u8 (q : Int)) (.int .u32 (id : Int)) (.slice A2 l.length c2) (.string ⟨t.toArray⟩) (.string ⟨s.toArray⟩))
  have OZ := Lib.hid (own_base (own_set7 own2 (b := w.heap.size + 1) (by intro e; have := hlow.out _ e.symm; omega) (.bool dup) (.bool ret) (.int .u8 (q : Int)) (.int .u32 (id : Int)) (.slice A2 l.length c2) (.string ⟨t.toArray⟩) (.string ⟨s.toArray⟩)) (base' := w.heap.size) (fun k hk => by have := hlow.out k hk; omega))
  go_wp2
  change bodyPost _ _ _ _ _ (set7 y2 (w.heap.size + 1) (.bool dup) (.bool ret) (.int .u8 (q : Int)) (.int .u32 (id : Int)) (.slice A2 l.length c2) (.string ⟨t.toArray⟩) (.string ⟨s.toArray⟩))
  generalize set7 y2 (w.heap.size + 1) (.bool dup) (.bool ret) (.int .u8 (q : Int)) (.int .u32 (id : Int)) (.slice A2 l.length c2) (.string ⟨t.toArray⟩) (.string ⟨s.toArray⟩) = W5 at *
  clear d0 d1 d2 d3 d4 d5 d6 g0 g1 g2' g3 g4 g5 g6 e0 e1 e2 e3 e4 e5 e6 k0 k1 k2 k3 k4 k5 k6
  obtain ⟨e0, e1, e2, e3, e4, e5, e6⟩ := (blk7_facts HZ.out).1
  refine bodyPost_ret (v := .agg #[.bool dup, .bool ret, .int .u8 (q : Int), .int .u32 (id : Int), .slice A2 l.length c2, .string ⟨t.toArray⟩, .string ⟨s.toArray⟩]) (by simp [results, Try.results19, go_sem, e0, e1, e2, e3, e4, e5, e6]) rfl ?_
  exact ⟨.slice A2 l.length c2, rfl, OZ.out, FZ.out⟩
set_option maxRecDepth 100000 in
set_option maxHeartbeats 4000000 in
theorem acks7_any (a : Ak) (v : Value) (w : World) (hv : View w v a.props.length (a.props.flatMap prE)) (hl : a.props.length ≤ 1000000) :
    Calls Try.prog 24 #[.agg (akC a v).toArray] w (ToldToA 120 a w) := by
  obtain ⟨k, id, c, l⟩ := a
  dsimp only at hv hl
  have HV := Lib.hid hv
  obtain ⟨A, cp, rfl, _⟩ := hv
  have ha := blk_at1 w (.cells (akC ⟨k, id, c, l⟩ (.slice A l.length cp)).toArray 28) (.cells #[.int .i64 0, .int .u32 0, .int .u8 0, .slice none 0 0] 42)
  have hb := blk_old (blk_new w (.cells (akC ⟨k, id, c, l⟩ (.slice A l.length cp)).toArray 28)) (.cells #[.int .i64 0, .int .u32 0, .int .u8 0, .slice none 0 0] 42)
  have F0 : Fr [] w ((w.alloc (.cells (akC ⟨k, id, c, l⟩ (.slice A l.length cp)).toArray 28)).alloc (.cells #[.int .i64 0, .int .u32 0, .int .u8 0, .slice none 0 0] 42)) := ((Fr.refl _ _).alloc _).alloc _
  unfold akC at ha hb F0 ⊢
  go_enter Try.func24, Try.ntmps24
  go_upto_region 1 with (fail)
  obtain ⟨y, hy⟩ : ∃ y, (w.alloc (.cells #[.int .i64 k, .int .u32 (id : Int), .int .u8 (c : Int), .slice A l.length cp] 28)).alloc (.cells #[.int .i64 0, .int .u32 0, .int .u8 0, .slice none 0 0] 42) = y := ⟨_, rfl⟩
  rw [hy] at ha hb F0 ⊢
  clear hy
  obtain ⟨⟨e0, e1, e2, e3⟩, ⟨k0, k1, k2, k3⟩, _⟩ := blk4_facts hb
  have HA := Lib.hid ha
  have HF := Lib.hid F0
  have HB := Lib.hid hb
  clear ha hb F0
  go_region_held3 (fun w' => w'.cell? ⟨w.heap.size, 0, none⟩ = some (.int .i64 k) ∧ w'.cell? ⟨w.heap.size, 1, none⟩ = some (.int .u32 (id : Int)) ∧ w'.cell? ⟨w.heap.size, 2, none⟩ = some (.int .u8 (c : Int)) ∧ w'.cell? ⟨w.heap.size, 3, none⟩ = some (.slice A l.length cp)) (first | go_keep | exact kk) ((go_at_call 35; refine (told_any _ l _ (HV.out.old (S := []) HF.out.drew (by simp)) hl).mono ?_; rintro _ y2 ⟨v2, rfl, own2, g2⟩; obtain ⟨A2, c2, rfl⟩ := own_shape own2; have kk := (blk4_facts (g2.blk HB.out (by simp))).1; have ha2 := g2.blk HA.out (by simp); obtain ⟨⟨d0, d1, d2, d3⟩, ⟨g0, g1, g2', g3⟩, _⟩ := blk4_facts ha2))
  have hlow := Lib.hid (fun k hk => (own2.lt k hk).1)
  have hsy : w.heap.size + 1 < y.drew.heap.size := blk_lt HA.out
  have HZ := Lib.hid (blk4_set ha2 (.int .i64 k) (.int .u32 (id : Int)) (.int .u8 (c : Int)) (.slice A2 l.length c2))
  have FZ := Lib.hid (fr4_set ((HF.out.drew).trans g2 (by simp)) (b := w.heap.size + 1) (by omega) (.int .i64 k) (.int .u32 (id : Int)) (.int .u8 (c : Int)) (.slice A2 l.length c2))
  have OZ := Lib.hid (own_base (own_set4 own2 (b := w.heap.size + 1) (by intro e; have := hlow.out _ e.symm; omega) (.int .i64 k) (.int .u32 (id : Int)) (.int .u8 (c : Int)) (.slice A2 l.length c2)) (base' := w.heap.size) (fun k hk => by have := hlow.out k hk; omega))
  go_wp2
  change bodyPost _ _ _ _ _ (set4 y2 (w.heap.size + 1) (.int .i64 k) (.int .u32 (id : Int)) (.int .u8 (c : Int)) (.slice A2 l.length c2))
  generalize set4 y2 (w.heap.size + 1) (.int .i64 k) (.int .u32 (id : Int)) (.int .u8 (c : Int)) (.slice A2 l.length c2) = W5 at *
  clear d0 d1 d2 d3 g0 g1 g2' g3 e0 e1 e2 e3 k0 k1 k2 k3
  obtain ⟨e0, e1, e2, e3⟩ := (blk4_facts HZ.out).1
  refine bodyPost_ret (v := .agg #[.int .i64 k, .int .u32 (id : Int), .int .u8 (c : Int), .slice A2 l.length c2]) (by simp [results, Try.results24, go_sem, e0, e1, e2, e3]) rfl ?_
  exact ⟨.slice A2 l.length c2, rfl, OZ.out, FZ.out⟩
set_option maxRecDepth 100000 in
set_option maxHeartbeats 4000000 in
theorem same7_any (p : Pb) (v u : Value) (w : World) (hv : View w v p.props.length (p.props.flatMap prE)) (hu : View w u p.props.length (p.props.flatMap prE)) (hl : p.props.length ≤ 1000000) :
    Calls Try.prog 48 #[.agg (pbC p v).toArray, .agg (pbC p u).toArray] w fun e w' => e = .returned (.bool true) ∧ Fr [] w w' := by
  obtain ⟨dup, ret, q, id, l, t, s⟩ := p
  dsimp only at hv hu hl
  have HV := Lib.hid hv
  have HU := Lib.hid hu
  obtain ⟨A, cp, rfl, _⟩ := hv
  obtain ⟨A2, cp2, rfl, _⟩ := hu
  have F0 : Fr [] w ((w.alloc (.cells (pbC ⟨dup, ret, q, id, l, t, s⟩ (.slice A l.length cp)).toArray 36)).alloc (.cells (pbC ⟨dup, ret, q, id, l, t, s⟩ (.slice A2 l.length cp2)).toArray 36)) := ((Fr.refl _ _).alloc _).alloc _
  have ha := blk_old (blk_new w (.cells (pbC ⟨dup, ret, q, id, l, t, s⟩ (.slice A l.length cp)).toArray 36)) (.cells (pbC ⟨dup, ret, q, id, l, t, s⟩ (.slice A2 l.length cp2)).toArray 36)
  have hb := blk_at1 w (.cells (pbC ⟨dup, ret, q, id, l, t, s⟩ (.slice A l.length cp)).toArray 36) (.cells (pbC ⟨dup, ret, q, id, l, t, s⟩ (.slice A2 l.length cp2)).toArray 36)
  unfold pbC at F0 ha hb ⊢
  go_enter Try.func48, Try.ntmps48
  go_wp2_with fail
  refine (props6_any _ _ l _ (HV.out.old F0 (by simp)) (HU.out.old F0 (by simp)) (by omega)).mono ?_
  rintro _ w1 ⟨rfl, g1⟩
  obtain ⟨⟨e0, e1, e2, e3, e4, e5, e6⟩, _, _⟩ := blk7_facts (g1.blk ha (by simp))
  obtain ⟨⟨d0, d1, d2, d3, d4, d5, d6⟩, _, _⟩ := blk7_facts (g1.blk hb (by simp))
  clear ha hb
  go_wp2
  go_ret
  exact ⟨rfl, F0.trans g1 (by simp)⟩
set_option maxRecDepth 100000 in
set_option maxHeartbeats 4000000 in
theorem sameack7_any (a : Ak) (v u : Value) (w : World) (hv : View w v a.props.length (a.props.flatMap prE)) (hu : View w u a.props.length (a.props.flatMap prE)) (hl : a.props.length ≤ 1000000) :
    Calls Try.prog 40 #[.agg (akC a v).toArray, .agg (akC a u).toArray] w fun e w' => e = .returned (.bool true) ∧ Fr [] w w' := by
  obtain ⟨k, id, c, l⟩ := a
  dsimp only at hv hu hl
  have HV := Lib.hid hv
  have HU := Lib.hid hu
  obtain ⟨A, cp, rfl, _⟩ := hv
  obtain ⟨A2, cp2, rfl, _⟩ := hu
  have F0 : Fr [] w ((w.alloc (.cells (akC ⟨k, id, c, l⟩ (.slice A l.length cp)).toArray 42)).alloc (.cells (akC ⟨k, id, c, l⟩ (.slice A2 l.length cp2)).toArray 42)) := ((Fr.refl _ _).alloc _).alloc _
  unfold akC at F0 ⊢
  go_enter Try.func40, Try.ntmps40
  go_wp2_with fail
  refine (props6_any _ _ l _ (HV.out.old F0 (by simp)) (HU.out.old F0 (by simp)) (by omega)).mono ?_
  rintro _ w1 ⟨rfl, g1⟩
  go_wp2
  go_ret
  exact ⟨rfl, F0.trans g1 (by simp)⟩
set_option maxRecDepth 100000 in
set_option maxHeartbeats 4000000 in
theorem awake7_any (w : World) :
    Calls Try.prog 16 #[] w fun e w' => e = .returned (.bool true) ∧ Fr [] w w' := by
  have hb0 := Lib.hid (blk_new w (.cells (pbC ⟨false, false, 1, 5, [], [97], [120]⟩ (.slice none 0 0)).toArray 26))
  have hf0 := Lib.hid (show Fr [] w (w.alloc (.cells (pbC ⟨false, false, 1, 5, [], [97], [120]⟩ (.slice none 0 0)).toArray 26)) from (Fr.refl _ _).alloc _)
  go_enter Try.func16, Try.ntmps16
  go_wp2_with fail
  refine (ptext_any ⟨false, false, 1, 5, [], [97], [120]⟩ (.slice none 0 0) _ (by decide) (by decide) (View.nil _) (by simp) (by simp) (by simp) (by simp)).mono ?_
  rintro _ w1 ⟨rfl, g1⟩
  rw [show pbText ⟨false, false, 1, 5, [], [97], [120]⟩ = [0, 1, 97, 0, 5, 0, 120] from by kernel_rfl]
  have hb1 := g1.blk hb0.out (by simp)
  have hf1 := hf0.out.trans g1 (by simp)
  clear g1 hb0 hf0
  go_wp2_with fail
  refine (pparse_any 2 [0, 1, 97, 0, 5, 0, 120] _ (by decide) (by decide)).mono ?_
  rw [show pbParse 2 [0, 1, 97, 0, 5, 0, 120] = (⟨false, false, 1, 5, [], [97], [120]⟩, 0) from by kernel_rfl]
  rintro _ w2 ⟨v2, rfl, own2, g2⟩
  dsimp only at own2
  obtain ⟨A2, c2, rfl⟩ := own_shape own2
  have hb2 := g2.blk hb1 (by simp)
  have hf2 := hf1.trans g2 (by simp)
  clear g2 hb1 hf1 own2
  unfold pbC at hb2 ⊢
  dsimp only at hb2 ⊢
  obtain ⟨⟨e0, e1, e2, e3, e4, e5, e6⟩, _, _⟩ := blk7_facts (blk_old hb2 (.cells #[.bool false, .bool false, .int .u8 1, .int .u32 5, .slice A2 0 c2, .string ⟨#[97]⟩, .string ⟨#[120]⟩] 26))
  go_wp2_with fail
  refine (ptext_any ⟨false, false, 1, 5, [], [97], [120]⟩ (.slice none 0 0) _ (by decide) (by decide) (View.nil _) (by simp) (by simp) (by simp) (by simp)).mono ?_
  rintro _ w3 ⟨rfl, g3⟩
  rw [show pbText ⟨false, false, 1, 5, [], [97], [120]⟩ = [0, 1, 97, 0, 5, 0, 120] from by kernel_rfl]
  have hb3 := g3.blk (blk_old hb2 (.cells #[.bool false, .bool false, .int .u8 1, .int .u32 5, .slice A2 0 c2, .string ⟨#[97]⟩, .string ⟨#[120]⟩] 26)) (by simp)
  have hq3 := g3.blk (blk_new w2 (.cells #[.bool false, .bool false, .int .u8 1, .int .u32 5, .slice A2 0 c2, .string ⟨#[97]⟩, .string ⟨#[120]⟩] 26)) (by simp)
  have hf3 := (hf2.alloc (.cells #[.bool false, .bool false, .int .u8 1, .int .u32 5, .slice A2 0 c2, .string ⟨#[97]⟩, .string ⟨#[120]⟩] 26)).trans g3 (by simp)
  clear g3 hb2 hf2 e0 e1 e2 e3 e4 e5 e6
  obtain ⟨⟨e0, e1, e2, e3, e4, e5, e6⟩, _, _⟩ := blk7_facts hb3
  go_wp2_with fail
  refine (pflags_any ⟨false, false, 1, 5, [], [97], [120]⟩ (.slice none 0 0) _ (by decide)).mono ?_
  rintro _ w4 ⟨rfl, g4⟩
  rw [show ((pbFlags ⟨false, false, 1, 5, [], [97], [120]⟩ : Nat) : Int) = 2 from by kernel_rfl]
  have hq4 := g4.blk hq3 (by simp)
  have hf4 := hf3.trans g4 (by simp)
  clear g4 hb3 hq3 hf3 e0 e1 e2 e3 e4 e5 e6
  obtain ⟨⟨e0, e1, e2, e3, e4, e5, e6⟩, _, _⟩ := blk7_facts hq4
  go_wp2_with fail
  refine (packtext_any ⟨4, 5, 0, []⟩ (.slice none 0 0) _ (by decide) (by decide) (View.nil _) (by simp) (by simp)).mono ?_
  rintro _ w5 ⟨rfl, g5⟩
  rw [show akText ⟨4, 5, 0, []⟩ = [0, 5] from by kernel_rfl]
  go_wp2
  go_ret
  exact ⟨rfl, hf4.trans g5 (by simp)⟩
end Go.Proofs.Ytlhkgalmiajinaa
