/- Two packets of layer 8 compared by the reference: the same. No condition but bounds. -/
import Derived.Test.YthioageiebchlaaPlainT
import Derived.Test.YthioageiebchlaaSameP
import Derived.Test.YthioageiebchlaaBlks
import Derived.Test.YthioageiebchlaaDrawn
import Derived.Laws.StructEq
namespace Go.Proofs.Ythioageiebchlaa
open Go.RowKit
set_option linter.unusedVariables false
set_option linter.unusedSimpArgs false

theorem eqSb_same (s : ByteArray) (q h : Int) (a b : Bool) (w : World) : (Op.equalIn 10000 92 (.agg #[.string s, .int .u8 q, .bool a, .bool b, .int .u8 h]) (.agg #[.string s, .int .u8 q, .bool a, .bool b, .int .u8 h])).run Try.prog w = .ok true w := by
  have u3 := Try.underlying5
  have a3 := Try.isAgg5
  have z3 := Try.sizeOf5
  have u4 := Try.underlying4
  have a4 := Try.isAgg4
  have z4 := Try.sizeOf4
  have u9 := Try.underlying9
  have a9 := Try.isAgg9
  have z9 := Try.sizeOf9
  have hS : Try.prog.underlying 92 = some (.struct (Try.prog.fieldsOf 92)) := by kernel_rfl
  have hp : Try.prog.stoodInHeld 92 = false := by kernel_rfl
  rw [show (10000 : Nat) = 9999 + 1 from rfl, run_equalIn_agg w 9999 92 _ _ hS hp]
  simp only [Program.fieldsOf, Try.underlying92]
  go_simp
theorem neqSb_same (s : ByteArray) (q h : Int) (a b : Bool) (w : World) : (binOp .neq 92 (.agg #[.string s, .int .u8 q, .bool a, .bool b, .int .u8 h]) (.agg #[.string s, .int .u8 q, .bool a, .bool b, .int .u8 h])).run Try.prog w = .ok (.bool false) w := by
  rw [run_neq_struct, eqSb_same]; rfl
set_option maxRecDepth 100000 in
set_option maxHeartbeats 4000000 in
theorem rsamesu_any (s : Su) (v u v' u' : Value) (w : World) (hv : View w v s.props.length (s.props.flatMap prE)) (hu : View w u s.subs.length (s.subs.flatMap sbE)) (hv' : View w v' s.props.length (s.props.flatMap prE)) (hu' : View w u' s.subs.length (s.subs.flatMap sbE)) (hl : s.props.length ≤ 1000000) (hl2 : s.subs.length ≤ 1000000) :
    Calls Try.prog 26 #[.agg (suC s v u).toArray, .agg (suC s v' u').toArray] w fun e w' => e = .returned (.bool true) ∧ Fr [] w w' := by
  obtain ⟨id, l, ss⟩ := s
  dsimp only at hv hu hv' hu' hl hl2
  have HV := Lib.hid hv
  have HV' := Lib.hid hv'
  have HC : Hid (0 < ss.length → ∃ bb off c, u = .slice (some ⟨bb, off, none⟩) ss.length c ∧ bb < w.heap.size ∧ ∀ (i : Nat) (hi : i < ss.length) j x, (sbE ss[i])[j]? = some x → w.cell? ⟨bb, off + i * 5 + j, none⟩ = some x) := Lib.hid (fun hl => hu.at sbE_len (by decide) hl)
  have HC' : Hid (0 < ss.length → ∃ bb off c, u' = .slice (some ⟨bb, off, none⟩) ss.length c ∧ bb < w.heap.size ∧ ∀ (i : Nat) (hi : i < ss.length) j x, (sbE ss[i])[j]? = some x → w.cell? ⟨bb, off + i * 5 + j, none⟩ = some x) := Lib.hid (fun hl => hu'.at sbE_len (by decide) hl)
  obtain ⟨A, cp, rfl, _⟩ := hv
  obtain ⟨AU, cu, rfl, _⟩ := hu
  obtain ⟨A', cp', rfl, _⟩ := hv'
  obtain ⟨AU', cu', rfl, _⟩ := hu'
  have hP := blk_old (blk_new w (.cells (suC ⟨id, l, ss⟩ (.slice A l.length cp) (.slice AU ss.length cu)).toArray 51)) (.cells (suC ⟨id, l, ss⟩ (.slice A' l.length cp') (.slice AU' ss.length cu')).toArray 51)
  have hQ := blk_at1 w (.cells (suC ⟨id, l, ss⟩ (.slice A l.length cp) (.slice AU ss.length cu)).toArray 51) (.cells (suC ⟨id, l, ss⟩ (.slice A' l.length cp') (.slice AU' ss.length cu')).toArray 51)
  have F0 : Fr [] w ((w.alloc (.cells (suC ⟨id, l, ss⟩ (.slice A l.length cp) (.slice AU ss.length cu)).toArray 51)).alloc (.cells (suC ⟨id, l, ss⟩ (.slice A' l.length cp') (.slice AU' ss.length cu')).toArray 51)) := ((Fr.refl _ _).alloc _).alloc _
  unfold suC at hP hQ F0 ⊢
  dsimp only at hP hQ F0 ⊢
  go_enter Try.func26, Try.ntmps26
  go_upto_region 1 with (fail)
  obtain ⟨y, hy⟩ : ∃ y, (w.alloc (.cells #[.int .u32 (id : Int), .slice A l.length cp, .slice AU ss.length cu] 51)).alloc (.cells #[.int .u32 (id : Int), .slice A' l.length cp', .slice AU' ss.length cu'] 51) = y := ⟨_, rfl⟩
  rw [hy] at hP hQ F0 ⊢
  clear hy
  have HP := Lib.hid hP
  have HQ := Lib.hid hQ
  have HF := Lib.hid F0
  clear hP hQ F0
  obtain ⟨⟨e0, e1, e2⟩, _, _⟩ := blk3_facts HP.out
  obtain ⟨⟨d0, d1, d2⟩, _, _⟩ := blk3_facts HQ.out
  go_wp2_with fail
  refine (props6_any _ _ l _ (HV.out.old HF.out (by simp)) (HV'.out.old HF.out (by simp)) (by omega)).mono ?_
  rintro _ x1 ⟨rfl, g1⟩
  have HP1 := Lib.hid (g1.blk HP.out (by simp))
  have HQ1 := Lib.hid (g1.blk HQ.out (by simp))
  have HF1 := Lib.hid (HF.out.trans g1 (by simp))
  clear e0 e1 e2 d0 d1 d2 g1 HP HQ HF
  obtain ⟨⟨e0, e1, e2⟩, _, _⟩ := blk3_facts HP1.out
  obtain ⟨⟨d0, d1, d2⟩, _, _⟩ := blk3_facts HQ1.out
  go_wp2
  go_loopw [31] (fun i wr => ∃ k : Nat, i = .int .i64 k ∧ k ≤ ss.length ∧ Fr [] x1 wr) (fun i _ => ss.length - (intOf i).toNat)
  case atStart => exact ⟨0, rfl, by omega, Fr.refl _ _⟩
  case round =>
    obtain ⟨k, rfl, hk, hfr⟩ := hrel
    have HG := Lib.hid (HF1.out.trans hfr (by simp))
    have HP2 := Lib.hid (hfr.blk HP1.out (by simp))
    have HQ2 := Lib.hid (hfr.blk HQ1.out (by simp))
    have HX := Lib.hid hfr
    clear hfr e0 e1 e2 d0 d1 d2
    obtain ⟨⟨e0, e1, e2⟩, _, _⟩ := blk3_facts HP2.out
    obtain ⟨⟨f0, f1, f2⟩, _, _⟩ := blk3_facts HQ2.out
    by_cases hkm : k < ss.length
    · obtain ⟨bb, off, c1, hsl, hbb, hc⟩ := HC.out (by omega)
      cases hsl
      obtain ⟨bb', off', c2, hsl, hbb', hc'⟩ := HC'.out (by omega)
      cases hsl
      obtain ⟨x, hx⟩ : ∃ x, ss[k] = x := ⟨_, rfl⟩
      have c0 := hc k hkm
      have d0 := hc' k hkm
      rw [hx] at c0 d0
      clear hx hc hc'
      obtain ⟨f, q, nl, ap, h⟩ := x
      have hneq := fun W => neqSb_same ⟨f.toArray⟩ (q : Int) (h : Int) nl ap W
      have a0 : wr.cell? ⟨bb, off + k * 5, none⟩ = some (.string ⟨f.toArray⟩) := HG.out.cell (c0 0 _ rfl) (by simp)
      have a1 : wr.cell? ⟨bb, off + k * 5 + 1, none⟩ = some (.int .u8 (q : Int)) := HG.out.cell (c0 1 _ rfl) (by simp)
      have a2 : wr.cell? ⟨bb, off + k * 5 + 2, none⟩ = some (.bool nl) := HG.out.cell (c0 2 _ rfl) (by simp)
      have a3 : wr.cell? ⟨bb, off + k * 5 + 3, none⟩ = some (.bool ap) := HG.out.cell (c0 3 _ rfl) (by simp)
      have a4 : wr.cell? ⟨bb, off + k * 5 + 4, none⟩ = some (.int .u8 (h : Int)) := HG.out.cell (c0 4 _ rfl) (by simp)
      have b0 : wr.cell? ⟨bb', off' + k * 5, none⟩ = some (.string ⟨f.toArray⟩) := HG.out.cell (d0 0 _ rfl) (by simp)
      have b1 : wr.cell? ⟨bb', off' + k * 5 + 1, none⟩ = some (.int .u8 (q : Int)) := HG.out.cell (d0 1 _ rfl) (by simp)
      have b2 : wr.cell? ⟨bb', off' + k * 5 + 2, none⟩ = some (.bool nl) := HG.out.cell (d0 2 _ rfl) (by simp)
      have b3 : wr.cell? ⟨bb', off' + k * 5 + 3, none⟩ = some (.bool ap) := HG.out.cell (d0 3 _ rfl) (by simp)
      have b4 : wr.cell? ⟨bb', off' + k * 5 + 4, none⟩ = some (.int .u8 (h : Int)) := HG.out.cell (d0 4 _ rfl) (by simp)
      clear c0 d0 e0 e1 f0 f1
      have hff := Lib.hid (HX.out.drew)
      go_upto_region 6 with (fail)
      go_region
      go_wp2
      go_roundw
      case rel => exact ⟨k + 1, by go_num, by omega, hff.out⟩
      case measure => simp [intOf]; omega
    · go_wp2
      go_ret
      exact ⟨rfl, HG.out⟩
set_option maxRecDepth 100000 in
set_option maxHeartbeats 4000000 in
theorem rsameun_any (s : Un) (v u v' u' : Value) (w : World) (hv : View w v s.props.length (s.props.flatMap prE)) (hu : View w u s.filters.length (s.filters.flatMap strE)) (hv' : View w v' s.props.length (s.props.flatMap prE)) (hu' : View w u' s.filters.length (s.filters.flatMap strE)) (hl : s.props.length ≤ 1000000) (hl2 : s.filters.length ≤ 1000000) :
    Calls Try.prog 27 #[.agg (unC s v u).toArray, .agg (unC s v' u').toArray] w fun e w' => e = .returned (.bool true) ∧ Fr [] w w' := by
  obtain ⟨id, l, ss⟩ := s
  dsimp only at hv hu hv' hu' hl hl2
  have HV := Lib.hid hv
  have HV' := Lib.hid hv'
  have HC : Hid (0 < ss.length → ∃ bb off c, u = .slice (some ⟨bb, off, none⟩) ss.length c ∧ bb < w.heap.size ∧ ∀ (i : Nat) (hi : i < ss.length) j x, (strE ss[i])[j]? = some x → w.cell? ⟨bb, off + i * 1 + j, none⟩ = some x) := Lib.hid (fun hl => hu.at strE_len (by decide) hl)
  have HC' : Hid (0 < ss.length → ∃ bb off c, u' = .slice (some ⟨bb, off, none⟩) ss.length c ∧ bb < w.heap.size ∧ ∀ (i : Nat) (hi : i < ss.length) j x, (strE ss[i])[j]? = some x → w.cell? ⟨bb, off + i * 1 + j, none⟩ = some x) := Lib.hid (fun hl => hu'.at strE_len (by decide) hl)
  obtain ⟨A, cp, rfl, _⟩ := hv
  obtain ⟨AU, cu, rfl, _⟩ := hu
  obtain ⟨A', cp', rfl, _⟩ := hv'
  obtain ⟨AU', cu', rfl, _⟩ := hu'
  have hP := blk_old (blk_new w (.cells (unC ⟨id, l, ss⟩ (.slice A l.length cp) (.slice AU ss.length cu)).toArray 55)) (.cells (unC ⟨id, l, ss⟩ (.slice A' l.length cp') (.slice AU' ss.length cu')).toArray 55)
  have hQ := blk_at1 w (.cells (unC ⟨id, l, ss⟩ (.slice A l.length cp) (.slice AU ss.length cu)).toArray 55) (.cells (unC ⟨id, l, ss⟩ (.slice A' l.length cp') (.slice AU' ss.length cu')).toArray 55)
  have F0 : Fr [] w ((w.alloc (.cells (unC ⟨id, l, ss⟩ (.slice A l.length cp) (.slice AU ss.length cu)).toArray 55)).alloc (.cells (unC ⟨id, l, ss⟩ (.slice A' l.length cp') (.slice AU' ss.length cu')).toArray 55)) := ((Fr.refl _ _).alloc _).alloc _
  unfold unC at hP hQ F0 ⊢
  dsimp only at hP hQ F0 ⊢
  go_enter Try.func27, Try.ntmps27
  go_upto_region 1 with (fail)
  obtain ⟨y, hy⟩ : ∃ y, (w.alloc (.cells #[.int .u32 (id : Int), .slice A l.length cp, .slice AU ss.length cu] 55)).alloc (.cells #[.int .u32 (id : Int), .slice A' l.length cp', .slice AU' ss.length cu'] 55) = y := ⟨_, rfl⟩
  rw [hy] at hP hQ F0 ⊢
  clear hy
  have HP := Lib.hid hP
  have HQ := Lib.hid hQ
  have HF := Lib.hid F0
  clear hP hQ F0
  obtain ⟨⟨e0, e1, e2⟩, _, _⟩ := blk3_facts HP.out
  obtain ⟨⟨d0, d1, d2⟩, _, _⟩ := blk3_facts HQ.out
  go_wp2_with fail
  refine (props6_any _ _ l _ (HV.out.old HF.out (by simp)) (HV'.out.old HF.out (by simp)) (by omega)).mono ?_
  rintro _ x1 ⟨rfl, g1⟩
  have HP1 := Lib.hid (g1.blk HP.out (by simp))
  have HQ1 := Lib.hid (g1.blk HQ.out (by simp))
  have HF1 := Lib.hid (HF.out.trans g1 (by simp))
  clear e0 e1 e2 d0 d1 d2 g1 HP HQ HF
  obtain ⟨⟨e0, e1, e2⟩, _, _⟩ := blk3_facts HP1.out
  obtain ⟨⟨d0, d1, d2⟩, _, _⟩ := blk3_facts HQ1.out
  go_wp2
  go_loopw [31] (fun i wr => ∃ k : Nat, i = .int .i64 k ∧ k ≤ ss.length ∧ Fr [] x1 wr) (fun i _ => ss.length - (intOf i).toNat)
  case atStart => exact ⟨0, rfl, by omega, Fr.refl _ _⟩
  case round =>
    obtain ⟨k, rfl, hk, hfr⟩ := hrel
    have HG := Lib.hid (HF1.out.trans hfr (by simp))
    have HP2 := Lib.hid (hfr.blk HP1.out (by simp))
    have HQ2 := Lib.hid (hfr.blk HQ1.out (by simp))
    have HX := Lib.hid hfr
    clear hfr e0 e1 e2 d0 d1 d2
    obtain ⟨⟨e0, e1, e2⟩, _, _⟩ := blk3_facts HP2.out
    obtain ⟨⟨f0, f1, f2⟩, _, _⟩ := blk3_facts HQ2.out
    by_cases hkm : k < ss.length
    · obtain ⟨bb, off, c1, hsl, hbb, hc⟩ := HC.out (by omega)
      cases hsl
      obtain ⟨bb', off', c2, hsl, hbb', hc'⟩ := HC'.out (by omega)
      cases hsl
      obtain ⟨x, hx⟩ : ∃ x, ss[k] = x := ⟨_, rfl⟩
      have c0 := hc k hkm
      have d0 := hc' k hkm
      rw [hx] at c0 d0
      clear hx hc hc'
      have a0 : wr.cell? ⟨bb, off + k * 1, none⟩ = some (.string ⟨x.toArray⟩) := HG.out.cell (c0 0 _ rfl) (by simp)
      have b0 : wr.cell? ⟨bb', off' + k * 1, none⟩ = some (.string ⟨x.toArray⟩) := HG.out.cell (d0 0 _ rfl) (by simp)
      rw [Nat.mul_one] at a0 b0
      clear c0 d0 e0 e1 f0 f1
      have hff := Lib.hid (HX.out.drew)
      go_upto_region 6 with (fail)
      go_region
      go_wp2
      go_roundw
      case rel => exact ⟨k + 1, by go_num, by omega, hff.out⟩
      case measure => simp [intOf]; omega
    · go_wp2
      go_ret
      exact ⟨rfl, HG.out⟩
set_option maxRecDepth 100000 in
set_option maxHeartbeats 2000000 in
theorem rsamesa_any (a : Sa) (v v' : Value) (w : World) (hv : View w v a.props.length (a.props.flatMap prE)) (hv' : View w v' a.props.length (a.props.flatMap prE)) (hl : a.props.length ≤ 1000000) :
    Calls Try.prog 30 #[.agg (saC a v).toArray, .agg (saC a v').toArray] w fun e w' => e = .returned (.bool true) ∧ Fr [] w w' := by
  obtain ⟨k, id, l, c⟩ := a
  dsimp only at hv hv' hl
  have HV := Lib.hid hv
  have HV' := Lib.hid hv'
  obtain ⟨A, cp, rfl, _⟩ := hv
  obtain ⟨A', cp', rfl, _⟩ := hv'
  have hP := blk_old (blk_new w (.cells (saC ⟨k, id, l, c⟩ (.slice A l.length cp)).toArray 59)) (.cells (saC ⟨k, id, l, c⟩ (.slice A' l.length cp')).toArray 59)
  have hQ := blk_at1 w (.cells (saC ⟨k, id, l, c⟩ (.slice A l.length cp)).toArray 59) (.cells (saC ⟨k, id, l, c⟩ (.slice A' l.length cp')).toArray 59)
  have F0 : Fr [] w ((w.alloc (.cells (saC ⟨k, id, l, c⟩ (.slice A l.length cp)).toArray 59)).alloc (.cells (saC ⟨k, id, l, c⟩ (.slice A' l.length cp')).toArray 59)) := ((Fr.refl _ _).alloc _).alloc _
  unfold saC at hP hQ F0 ⊢
  dsimp only at hP hQ F0 ⊢
  go_enter Try.func30, Try.ntmps30
  go_upto_region 1 with (fail)
  obtain ⟨y, hy⟩ : ∃ y, (w.alloc (.cells #[.int .i64 k, .int .u32 (id : Int), .slice A l.length cp, .string ⟨c.toArray⟩] 59)).alloc (.cells #[.int .i64 k, .int .u32 (id : Int), .slice A' l.length cp', .string ⟨c.toArray⟩] 59) = y := ⟨_, rfl⟩
  rw [hy] at hP hQ F0 ⊢
  clear hy
  have HP := Lib.hid hP
  have HQ := Lib.hid hQ
  have HF := Lib.hid F0
  clear hP hQ F0
  obtain ⟨⟨e0, e1, e2, e3⟩, _, _⟩ := blk4_facts HP.out
  obtain ⟨⟨d0, d1, d2, d3⟩, _, _⟩ := blk4_facts HQ.out
  go_wp2_with fail
  refine (props6_any _ _ l _ (HV.out.old HF.out (by simp)) (HV'.out.old HF.out (by simp)) (by omega)).mono ?_
  rintro _ x1 ⟨rfl, g1⟩
  have HF1 := Lib.hid (HF.out.trans g1 (by simp))
  have hP1 := g1.blk HP.out (by simp)
  have hQ1 := g1.blk HQ.out (by simp)
  clear e0 e1 e2 e3 d0 d1 d2 d3 g1 HP HQ HF
  obtain ⟨⟨e0, e1, e2, e3⟩, _, _⟩ := blk4_facts hP1
  obtain ⟨⟨d0, d1, d2, d3⟩, _, _⟩ := blk4_facts hQ1
  go_wp2
  go_ret
  exact ⟨rfl, HF1.out⟩
end Go.Proofs.Ythioageiebchlaa
