/- What Told and Few of the law package of layer 3 come to. Conditions: strings that may be. -/
import Derived.Test.YthioageiebchlaaCut
import Derived.Test.YthioageiebchlaaPr
import Derived.Deep.RegionWith
namespace Go.Proofs.Ythioageiebchlaa
open Go.RowKit
set_option linter.unusedVariables false
set_option linter.unusedSimpArgs false

theorem Try.infoRPr2 : (Try.prog.info? 121).map (fun i => (i.zero, i.size, i.bytes)) = some (some (.agg #[.int .i64 0, .int .u32 0, .string ⟨#[]⟩, .string ⟨#[]⟩]), 4, 48) := by kernel_rfl
def ToldTo (t : TypeId) (l : List Pr) (w : World) (e : Ending) (w' : World) : Prop :=
  ∃ v', e = .returned v' ∧ w'.ownsRow w.heap.size t 4 v' l.length (l.flatMap prE) ∧ Fr [] w w'
set_option maxRecDepth 100000 in
set_option maxHeartbeats 2000000 in
theorem told_any (v : Value) (l : List Pr) (w : World) (hv : View w v l.length (l.flatMap prE)) (hl : l.length ≤ 1000000) :
    Calls Try.prog 49 #[v] w (ToldTo 121 l w) := by
  obtain ⟨i0, hi, hz0, hz1, hz2⟩ := info_parts Try.infoRPr2
  have HC : Hid (0 < l.length → ∃ bb off c, v = .slice (some ⟨bb, off, none⟩) l.length c ∧ bb < w.heap.size ∧ ∀ (i : Nat) (hi : i < l.length) j u, (prE l[i])[j]? = some u → w.cell? ⟨bb, off + i * 4 + j, none⟩ = some u) := Lib.hid (fun hl => hv.at prE_len (by decide) hl)
  obtain ⟨A, c, rfl, _⟩ := hv
  have ho := own_emp w 121 4 w.heap.size (Nat.le_refl _)
  have hf0 : Fr [] w (w.alloc (.cells #[] 121)) := (Fr.refl _ _).alloc _
  go_enter Try.func49, Try.ntmps49
  go_wp2
  go_loopw [3, 9] (fun v i wr => ∃ k : Nat, i = .int .i64 k ∧ k ≤ l.length ∧ wr.ownsRow w.heap.size 121 4 v k ((l.take k).flatMap prE) ∧ Fr [] w wr) (fun _ i _ => l.length - (intOf i).toNat)
  case atStart => exact ⟨0, rfl, by omega, ho, hf0⟩
  case round =>
    clear ho hf0
    obtain ⟨k, rfl, hk, hown, hfr⟩ := hrel
    have HF := Lib.hid hfr
    have hszr := hfr.size
    obtain ⟨A', cp', rfl⟩ := own_shape hown
    have HW := Lib.hid hown
    clear hfr hown
    by_cases hlt : k < l.length
    · obtain ⟨bb, off, c', hsl, hbb, hc⟩ := HC.out (by omega)
      cases hsl
      have hcell := hc k hlt
      have hsn : Hid ((l.take (k + 1)).flatMap prE = (l.take k).flatMap prE ++ prE l[k]) := Lib.hid (by rw [List.take_succ_eq_append_getElem hlt, flat_snoc])
      generalize l[k] = x at *
      obtain ⟨xi, xn, xs, xt⟩ := x
      have c0 : wr.cell? ⟨bb, off + k * 4, none⟩ = some (.int .i64 xi) := HF.out.cell (hcell 0 _ rfl) (by simp)
      have c1 : wr.cell? ⟨bb, off + k * 4 + 1, none⟩ = some (.int .u32 xn) := HF.out.cell (hcell 1 _ rfl) (by simp)
      have c2 : wr.cell? ⟨bb, off + k * 4 + 2, none⟩ = some (.string ⟨xs.toArray⟩) := HF.out.cell (hcell 2 _ rfl) (by simp)
      have c3 : wr.cell? ⟨bb, off + k * 4 + 3, none⟩ = some (.string ⟨xt.toArray⟩) := HF.out.cell (hcell 3 _ rfl) (by simp)
      clear hcell hc
      have fr1 := Lib.hid (HF.out.alloc (.cells #[.int .i64 xi, .int .u32 xn, .string ⟨xs.toArray⟩, .string ⟨xt.toArray⟩] 116))
      have ow1 := Lib.hid (HW.out.alloc (.cells #[.int .i64 xi, .int .u32 xn, .string ⟨xs.toArray⟩, .string ⟨xt.toArray⟩] 116))
      go_wp2_with (at_builtin; refine wpl_app _ rfl (.tmp 13) (.tmp 15) 48 rfl w.heap.size 121 i0 (.agg #[.int .i64 0, .int .u32 0, .string ⟨#[]⟩, .string ⟨#[]⟩]) 4 48 Try.underlying48 hi hz0 hz1 hz2 rfl (by decide) _ k ((l.take k).flatMap prE) rfl (ow1.out.alloc _) ⟨wr.heap.size + 1, 0, none⟩ 1 1 (prE ⟨xi, xn, xs, xt⟩) rfl rfl ?c1 ?c2 ?c3 ?c4 ?c5 ?_)
      try (case c1 => exact news_at _ _ (by simp) _ _)
      try (case c2 => first | exact ⟨rfl, rfl, rfl, rfl⟩ | (intro u hu; simp [prE] at hu; rcases hu with rfl | rfl | rfl | rfl <;> rfl))
      try (case c3 => unfold maxLen; omega)
      try (case c4 => omega)
      try (case c5 => first | omega | (simp; omega))
      intro v' w2 hown2 hg _
      have own3 : w2.ownsRow w.heap.size 121 4 v' (k + 1) ((l.take (k + 1)).flatMap prE) := by rw [hsn.out]; exact hown2
      have fr2 : Fr [] w w2 := (Fr.alloc fr1.out _).app (ow1.out.alloc _) (Nat.le_refl _) hg
      obtain ⟨A4, cp4, rfl⟩ := own_shape own3
      replace own3 := Lib.hid own3
      replace fr2 := Lib.hid fr2
      clear hown2 hg
      go_wp2
      go_roundw
      case rel => exact ⟨k + 1, by go_num, by omega, own3.out, fr2.out⟩
      case measure => simp [intOf]; omega
    · obtain rfl : k = l.length := by omega
      rw [List.take_length] at HW
      go_wp2
      go_ret
      exact ⟨_, rfl, HW.out, HF.out⟩
def cutP (x : Pr) : Pr := ⟨x.id, x.n, x.s.take 20, x.t.take 20⟩
def fewR (l : List Pr) : List Pr := (l.take 8).map cutP
set_option maxRecDepth 100000 in
set_option maxHeartbeats 2000000 in
theorem few_any (v : Value) (l : List Pr) (w : World) (hv : View w v l.length (l.flatMap prE)) (hl : l.length ≤ 9223372036854775807) (hok : ∀ x ∈ l, x.s.length ≤ 9223372036854775807 ∧ x.t.length ≤ 9223372036854775807) :
    Calls Try.prog 40 #[v] w (ToldTo 116 (fewR l) w) := by
  obtain ⟨i0, hi, hz0, hz1, hz2⟩ := info_parts Try.infoPr
  have HC : Hid (0 < l.length → ∃ bb off c, v = .slice (some ⟨bb, off, none⟩) l.length c ∧ bb < w.heap.size ∧ ∀ (i : Nat) (hi : i < l.length) j u, (prE l[i])[j]? = some u → w.cell? ⟨bb, off + i * 4 + j, none⟩ = some u) := Lib.hid (fun hl => hv.at prE_len (by decide) hl)
  obtain ⟨A, c, rfl, _⟩ := hv
  have HK := Lib.hid hok
  have ho := own_emp w 116 4 w.heap.size (Nat.le_refl _)
  have hf0 : Fr [] w (w.alloc (.cells #[] 116)) := (Fr.refl _ _).alloc _
  clear hok
  go_enter Try.func40, Try.ntmps40
  go_wp2
  go_loopw [3, 4] (fun v i wr => ∃ k : Nat, i = .int .i64 k ∧ k ≤ l.length ∧ k ≤ 8 ∧ wr.ownsRow w.heap.size 116 4 v k (((l.take k).map cutP).flatMap prE) ∧ Fr [] w wr) (fun _ i _ => 8 - (intOf i).toNat)
  case atStart => exact ⟨0, rfl, by omega, by omega, ho, hf0⟩
  case round =>
    clear ho hf0
    obtain ⟨k, rfl, hk, hk8, hown, hfr⟩ := hrel
    have HF := Lib.hid hfr
    have hszr := hfr.size
    obtain ⟨A', cp', rfl⟩ := own_shape hown
    have HW := Lib.hid hown
    clear hfr hown
    by_cases hlt : k < l.length
    · by_cases hlt8 : (k : Int) < 8
      · obtain ⟨bb, off, c', hsl, hbb, hc⟩ := HC.out (by omega)
        cases hsl
        have hcell := hc k hlt
        have hok := HK.out l[k] (List.getElem_mem hlt)
        have hsn : Hid (((l.take (k + 1)).map cutP).flatMap prE = ((l.take k).map cutP).flatMap prE ++ prE (cutP l[k])) := Lib.hid (by rw [List.take_succ_eq_append_getElem hlt, List.map_append, List.map_cons, List.map_nil, flat_snoc])
        generalize l[k] = x at *
        obtain ⟨xi, xn, xs, xt⟩ := x
        have c0 : wr.cell? ⟨bb, off + k * 4, none⟩ = some (.int .i64 xi) := HF.out.cell (hcell 0 _ rfl) (by simp)
        have c1 : wr.cell? ⟨bb, off + k * 4 + 1, none⟩ = some (.int .u32 xn) := HF.out.cell (hcell 1 _ rfl) (by simp)
        have c2 : wr.cell? ⟨bb, off + k * 4 + 2, none⟩ = some (.string ⟨xs.toArray⟩) := HF.out.cell (hcell 2 _ rfl) (by simp)
        have c3 : wr.cell? ⟨bb, off + k * 4 + 3, none⟩ = some (.string ⟨xt.toArray⟩) := HF.out.cell (hcell 3 _ rfl) (by simp)
        clear hcell hc
        obtain ⟨hs1, hs2⟩ := hok
        dsimp only at hs1 hs2
        go_wp2
        go_region_with ((first | (go_at_call 13; (with_reducible refine (cut_any xs 20 _ hs1 (by decide)).mono ?_); rintro _ _ ⟨rfl, rfl⟩) | (go_at_call 13; (with_reducible refine (cut_any xt 20 _ hs2 (by decide)).mono ?_); rintro _ _ ⟨rfl, rfl⟩)))
        all_goals
          have frx : Fr [] wr (wr.alloc (.cells #[.int .i64 xi, .int .u32 xn, .string ⟨(xs.take 20).toArray⟩, .string ⟨(xt.take 20).toArray⟩] 116)).drew := ((Fr.refl [] wr).alloc _).drew
          have pbx : (wr.alloc (.cells #[.int .i64 xi, .int .u32 xn, .string ⟨(xs.take 20).toArray⟩, .string ⟨(xt.take 20).toArray⟩] 116)).drew.heap[wr.heap.size]? = some (.cells #[.int .i64 xi, .int .u32 xn, .string ⟨(xs.take 20).toArray⟩, .string ⟨(xt.take 20).toArray⟩] 116 (0, 0)) := blk_new wr _
          obtain ⟨y, hy⟩ : ∃ y, (wr.alloc (.cells #[.int .i64 xi, .int .u32 xn, .string ⟨(xs.take 20).toArray⟩, .string ⟨(xt.take 20).toArray⟩] 116)).drew = y := ⟨_, rfl⟩
          rw [hy] at frx pbx ⊢
          clear hy c0 c1 c2 c3
          have fr1 := Lib.hid (HF.out.trans frx (by simp))
          have ow1 := Lib.hid (own_fr frx HW.out (by simp))
          have zy := frx.size
          clear frx
          obtain ⟨⟨c0, c1, c2, c3⟩, ⟨f0, f1, f2, f3⟩, _⟩ := blk4_facts pbx
          clear pbx
          go_wp2_with (at_builtin; refine wpl_app _ rfl (.tmp 29) (.tmp 31) 24 rfl w.heap.size 116 i0 (.agg #[.int .i64 0, .int .u32 0, .string ⟨#[]⟩, .string ⟨#[]⟩]) 4 48 Try.underlying24 hi hz0 hz1 hz2 rfl (by decide) _ k (((l.take k).map cutP).flatMap prE) rfl (ow1.out.alloc _) ⟨y.heap.size, 0, none⟩ 1 1 (prE (cutP ⟨xi, xn, xs, xt⟩)) rfl rfl ?c1 ?c2 ?c3 ?c4 ?c5 ?_)
          try (case c1 => exact news_at _ _ (by simp) _ _)
          try (case c2 => first | exact ⟨rfl, rfl, rfl, rfl⟩ | (intro u hu; simp [prE, cutP] at hu; rcases hu with rfl | rfl | rfl | rfl <;> rfl))
          try (case c3 => unfold maxLen; omega)
          try (case c4 => omega)
          try (case c5 => first | omega | (simp; omega))
          intro v' w2 hown2 hg _
          have own3 : w2.ownsRow w.heap.size 116 4 v' (k + 1) (((l.take (k + 1)).map cutP).flatMap prE) := by rw [hsn.out, List.map_take]; first | exact hown2 | (rw [List.map_take] at hown2; exact hown2)
          have fr2 : Fr [] w w2 := (Fr.alloc fr1.out _).app (ow1.out.alloc _) (Nat.le_refl _) hg
          obtain ⟨A4, cp4, rfl⟩ := own_shape own3
          replace own3 := Lib.hid own3
          replace fr2 := Lib.hid fr2
          clear hown2 hg
          go_wp2
          go_roundw
          case rel => exact ⟨k + 1, by go_num, by omega, by omega, own3.out, fr2.out⟩
          case measure => simp [intOf]; omega
      · have hk8' : Hid (k = 8) := Lib.hid (by omega)
        have HE := Lib.hid (show fewR l = (l.take k).map cutP from by rw [hk8'.out]; rfl)
        have HL := Lib.hid (show (fewR l).length = k from by rw [HE.out, List.length_map, List.length_take]; omega)
        go_wp2
        go_ret
        exact ⟨.slice A' k cp', rfl, by rw [HL.out, HE.out]; exact HW.out, HF.out⟩
    · have HE := Lib.hid (show fewR l = (l.take k).map cutP from by rw [fewR, List.take_of_length_le (by omega), List.take_of_length_le (by omega)])
      have HL := Lib.hid (show (fewR l).length = k from by rw [HE.out, List.length_map, List.length_take]; omega)
      go_wp2
      go_ret
      exact ⟨.slice A' k cp', rfl, by rw [HL.out, HE.out]; exact HW.out, HF.out⟩
end Go.Proofs.Ythioageiebchlaa
