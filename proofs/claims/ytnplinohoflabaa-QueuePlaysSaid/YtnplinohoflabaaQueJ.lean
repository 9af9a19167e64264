/- What Parts of the reference of layer 16, Is of the law package of layer 12 come to. Conditions: numbers and strings that may be. -/
import Derived.Test.YtnplinohoflabaaQueI
namespace Go.Proofs.Ytnplinohoflabaa
open Go.RowKit
set_option linter.unusedSimpArgs false
set_option linter.unusedVariables false
attribute [local go_sem ↓] Go.wp_at_zero Go.wp_at_succ

set_option maxHeartbeats 4000000 in
set_option maxRecDepth 100000 in
theorem rparts_any (v : Value) (LL : List (Ms × List Pr)) (now : Int) (w : World) (hv : View w v LL.length (LL.flatMap fun p => msC p.1)) (hl : LL.length ≤ 1000000) (hR : ∀ p ∈ LL, MOk 139 w p) (hn0 : 0 ≤ now) (hn1 : now ≤ 1000000) :
    Calls Try.prog 28 #[v, .int .i64 now] w fun e w' => ∃ vs vo, e = .returned (.tuple #[vs, vo]) ∧ w'.ownsRow w.heap.size 42 7 vo (fsts (LL.filter (goneP now))).length ((fsts (LL.filter (goneP now))).flatMap msC) ∧ w'.ownsRow w.heap.size 42 7 vs (fsts (LL.filter fun p => !goneP now p)).length ((fsts (LL.filter fun p => !goneP now p)).flatMap msC) ∧ Fr [] w w' := by
  obtain ⟨i0, hi, hz0, hz1, hz2⟩ := info_parts Try.infoRMs
  have HR := Lib.hid hR
  have HC : Hid (0 < LL.length → ∃ b off c, v = .slice (some ⟨b, off, none⟩) LL.length c ∧ b < w.heap.size ∧ ∀ (i : Nat) (hi : i < LL.length) j u, (msC LL[i].1)[j]? = some u → w.cell? ⟨b, off + i * 7 + j, none⟩ = some u) := Lib.hid (fun hl => View.at (enc := fun p : Ms × List Pr => msC p.1) hv (fun p => msC_len p.1) (by decide) hl)
  obtain ⟨A, c, rfl, _⟩ := hv
  have ho1 := Lib.hid ((own_emp w 42 7 w.heap.size (Nat.le_refl _)).alloc (.cells #[] 42))
  have ho2 := own_emp (w.alloc (.cells #[] 42)) 42 7 w.heap.size (by simp)
  simp only [World.size_alloc] at ho2
  have HO2 := Lib.hid ho2
  have F0 := Lib.hid (((Fr.refl [] w).alloc (.cells #[] 42)).alloc (.cells #[] 42))
  clear hR ho2
  go_enter Try.func28, Try.ntmps28
  go_wp2
  go_loopw [6, 7, 14] (fun vs vo i wr => ∃ k : Nat, i = .int .i64 k ∧ k ≤ LL.length ∧ wr.ownsRow w.heap.size 42 7 vo (fsts ((LL.take k).filter (goneP now))).length ((fsts ((LL.take k).filter (goneP now))).flatMap msC) ∧ wr.ownsRow w.heap.size 42 7 vs (fsts ((LL.take k).filter fun p => !goneP now p)).length ((fsts ((LL.take k).filter fun p => !goneP now p)).flatMap msC) ∧ (vo.ownBlock = none ∨ vo.ownBlock ≠ vs.ownBlock) ∧ Fr [] w wr) (fun _ _ i _ => LL.length - (intOf i).toNat)
  case atStart => exact ⟨0, rfl, by omega, HO2.out, ho1.out, Or.inr (by simp [Value.ownBlock]), F0.out⟩
  case round =>
    obtain ⟨k, rfl, hk, hwo, hws, hne, hfr⟩ := hrel
    have HF := Lib.hid hfr
    have hszr := hfr.size
    have HO := Lib.hid hwo
    have HS := Lib.hid hws
    have HN := Lib.hid hne
    clear hfr hwo hws hne
    by_cases hlt : k < LL.length
    · obtain ⟨bb, off, c', hsl, hbb, hc⟩ := HC.out (by omega)
      cases hsl
      have hcell := hc k hlt
      have hok := HR.out LL[k] (List.getElem_mem hlt)
      have ht : LL.take (k + 1) = LL.take k ++ [LL[k]] := List.take_succ_eq_append_getElem hlt
      have hlk : ∀ f : Ms × List Pr → Bool, (fsts ((LL.take k).filter f)).length ≤ k := fun f => by
        rw [fsts, List.length_map]; exact Nat.le_trans (List.length_filter_le _ _) (List.length_take_le _ _)
      have hlo := hlk (goneP now)
      have hls := hlk (fun p => !goneP now p)
      have ho1 : Hid (goneP now LL[k] = true → fsts ((LL.take (k + 1)).filter (goneP now)) = fsts ((LL.take k).filter (goneP now)) ++ [LL[k].1]) := Lib.hid (fun hg => by rw [ht, filt_snoc, if_pos hg])
      have ho2 : Hid (goneP now LL[k] = false → fsts ((LL.take (k + 1)).filter (goneP now)) = fsts ((LL.take k).filter (goneP now))) := Lib.hid (fun hg => by rw [ht, filt_snoc, if_neg (by simp [hg]), List.append_nil])
      have hs1 : Hid (goneP now LL[k] = true → fsts ((LL.take (k + 1)).filter fun p => !goneP now p) = fsts ((LL.take k).filter fun p => !goneP now p)) := Lib.hid (fun hg => by rw [ht, filt_snoc, if_neg (by simp [hg]), List.append_nil])
      have hs2 : Hid (goneP now LL[k] = false → fsts ((LL.take (k + 1)).filter fun p => !goneP now p) = fsts ((LL.take k).filter fun p => !goneP now p) ++ [LL[k].1]) := Lib.hid (fun hg => by rw [ht, filt_snoc, if_pos (by simp [hg])])
      clear hlk ht
      obtain ⟨GO', hGO⟩ : ∃ G, fsts ((LL.take (k + 1)).filter (goneP now)) = G := ⟨_, rfl⟩
      obtain ⟨GS', hGS⟩ : ∃ G, fsts ((LL.take (k + 1)).filter fun p => !goneP now p) = G := ⟨_, rfl⟩
      rw [hGO] at ho1 ho2
      rw [hGS] at hs1 hs2
      have HGO := Lib.hid hGO
      have HGS := Lib.hid hGS
      clear hGO hGS
      generalize fsts ((LL.take k).filter (goneP now)) = GO at *
      generalize fsts ((LL.take k).filter fun p => !goneP now p) = GS at *
      generalize LL[k] = p at *
      obtain ⟨x, ps⟩ := p
      obtain ⟨hrd, hpl, hpn, hat0, hat1⟩ := hok
      dsimp only at hcell hpl hpn hat0 hat1 ho1 ho2 hs1 hs2
      obtain ⟨g, hg⟩ : ∃ g, goneB x.at_ ps now = g := ⟨_, rfl⟩
      have hgo := fun W hW => rgone_any x ps now W hW (by omega) hpn hat0 (by omega) hn0 hn1
      rw [hg] at hgo
      have hgp : goneP now (x, ps) = g := hg
      rw [hgp] at ho1 ho2 hs1 hs2
      have hvw : View w (.slice x.A x.n x.c) ps.length (ps.flatMap prE) := hrd.1
      clear hg hgp hrd hpl hpn hat0 hat1
      obtain ⟨fr, at_, qs, rt, A, n, c, tp, py⟩ := x
      dsimp only [msC] at hgo hvw
      have c0 : wr.cell? ⟨bb, off + k * 7, none⟩ = some (.string ⟨fr.toArray⟩) := HF.out.cell (hcell 0 _ rfl) (by simp)
      have c1 : wr.cell? ⟨bb, off + k * 7 + 1, none⟩ = some (.int .i64 at_) := HF.out.cell (hcell 1 _ rfl) (by simp)
      have c2 : wr.cell? ⟨bb, off + k * 7 + 2, none⟩ = some (.int .u8 qs) := HF.out.cell (hcell 2 _ rfl) (by simp)
      have c3 : wr.cell? ⟨bb, off + k * 7 + 3, none⟩ = some (.bool rt) := HF.out.cell (hcell 3 _ rfl) (by simp)
      have c4 : wr.cell? ⟨bb, off + k * 7 + 4, none⟩ = some (.slice A n c) := HF.out.cell (hcell 4 _ rfl) (by simp)
      have c5 : wr.cell? ⟨bb, off + k * 7 + 5, none⟩ = some (.string ⟨tp.toArray⟩) := HF.out.cell (hcell 5 _ rfl) (by simp)
      have c6 : wr.cell? ⟨bb, off + k * 7 + 6, none⟩ = some (.string ⟨py.toArray⟩) := HF.out.cell (hcell 6 _ rfl) (by simp)
      have HG := Lib.hid hgo
      have HV := Lib.hid hvw
      have hx := Lib.hid (hcell)
      obtain ⟨Ao, co, rfl⟩ := own_shape HO.out
      obtain ⟨As, cs, rfl⟩ := own_shape HS.out
      have fr1 := Lib.hid (HF.out.alloc (.cells #[.string ⟨fr.toArray⟩, .int .i64 at_, .int .u8 qs, .bool rt, .slice A n c, .string ⟨tp.toArray⟩, .string ⟨py.toArray⟩] 42))
      have ow1 := Lib.hid (HO.out.alloc (.cells #[.string ⟨fr.toArray⟩, .int .i64 at_, .int .u8 qs, .bool rt, .slice A n c, .string ⟨tp.toArray⟩, .string ⟨py.toArray⟩] 42))
      have os1 := Lib.hid (HS.out.alloc (.cells #[.string ⟨fr.toArray⟩, .int .i64 at_, .int .u8 qs, .bool rt, .slice A n c, .string ⟨tp.toArray⟩, .string ⟨py.toArray⟩] 42))
      have hb1 := blk_new wr (.cells #[.string ⟨fr.toArray⟩, .int .i64 at_, .int .u8 qs, .bool rt, .slice A n c, .string ⟨tp.toArray⟩, .string ⟨py.toArray⟩] 42)
      have hlto := Lib.hid (fun k hk => (HO.out.lt k hk).2)
      have hlts := Lib.hid (fun k hk => (HS.out.lt k hk).2)
      clear hcell hc hgo hvw HO HS
      go_wp2_with fail
      refine (HG.out _ (HV.out.fr fr1.out (by simp))).mono ?_
      rintro _ w2 ⟨rfl, g2⟩
      clear c0 c1 c2 c3 c4 c5 c6
      replace fr1 := Lib.hid (fr1.out.trans g2 (by simp))
      replace ow1 := Lib.hid (own_fr g2 ow1.out (by simp))
      replace os1 := Lib.hid (own_fr g2 os1.out (by simp))
      have hb2 := g2.blk hb1 (by simp)
      have hsz2 := g2.size
      simp only [World.size_alloc] at hsz2
      have HB2 := Lib.hid hb2
      obtain ⟨⟨c0, c1, c2, c3, c4, c5, c6⟩, _, _⟩ := blk7_facts hb2
      clear g2 hb1 hb2 HG HV
      cases g with
      | true =>
        have hn2 := Lib.hid (news_at w2 w2.heap.size rfl (msC ⟨fr, at_, qs, rt, A, n, c, tp, py⟩) 42)
        go_wp2_with (at_builtin; refine wpl_app _ rfl (.tmp 21) (.tmp 23) 51 rfl w.heap.size 42 i0 _ 7 88 Try.underlying51 hi hz0 hz1 hz2 rfl (by decide) _ GO.length (GO.flatMap msC) rfl (ow1.out.alloc _) ⟨w2.heap.size, 0, none⟩ 1 1 (msC ⟨fr, at_, qs, rt, A, n, c, tp, py⟩) rfl rfl hn2.out (msC_one _) ?c3 ?c4 ?c5 ?_)
        case c3 => unfold maxLen; omega
        case c4 => omega
        case c5 => simp; omega
        intro v' w3 hown3 hg3 hfresh
        have e1 := ho1.out (by trivial)
        have e2 := hs1.out (by trivial)
        have own3 : w3.ownsRow w.heap.size 42 7 v' GO'.length (GO'.flatMap msC) := by rw [e1]; simpa using hown3
        have os3 := grown_own hg3 (os1.out.alloc (.cells (msC ⟨fr, at_, qs, rt, A, n, c, tp, py⟩).toArray 42)) (by rcases HN.out with h | h; (rw [h]; cases hb : (Value.slice As GS.length cs).ownBlock; (exact Or.inl rfl); (exact Or.inr (by simp))); (exact Or.inr (Ne.symm h)))
        rw [← e2] at os3
        have fr3 := Lib.hid ((Fr.alloc fr1.out (.cells (msC ⟨fr, at_, qs, rt, A, n, c, tp, py⟩).toArray 42)).app (ow1.out.alloc _) (Nat.le_refl _) hg3)
        have hne3 : v'.ownBlock = none ∨ v'.ownBlock ≠ (Value.slice As GS'.length cs).ownBlock := by
          rw [e2]
          rcases hfresh with hf | ⟨gb, hgb, hge⟩
          · rw [hf]; exact HN.out
          · right
            intro e
            have := hlts.out gb (by rw [← e, hgb])
            simp at hge; omega
        obtain ⟨A4, c4', rfl⟩ := own_shape own3
        have HO3 := Lib.hid own3
        have HS3 := Lib.hid os3
        have HN3 := Lib.hid hne3
        have HE2 := Lib.hid e2
        clear hown3 hg3 hfresh e1 own3 os3 hne3 e2
        go_wp2
        go_roundw
        case rel => exact ⟨k + 1, by go_num, by omega, by rw [HGO.out]; exact HO3.out, by rw [HGS.out]; have h3 := HS3.out; rw [HE2.out] at h3 ⊢; exact h3, by rw [← HE2.out]; exact HN3.out, fr3.out⟩
        case measure => simp [intOf]; omega
      | false =>
        have hn2 := Lib.hid (news_at w2 w2.heap.size rfl (msC ⟨fr, at_, qs, rt, A, n, c, tp, py⟩) 42)
        go_wp2_with (at_builtin; refine wpl_app _ rfl (.tmp 25) (.tmp 27) 51 rfl w.heap.size 42 i0 _ 7 88 Try.underlying51 hi hz0 hz1 hz2 rfl (by decide) _ GS.length (GS.flatMap msC) rfl (os1.out.alloc _) ⟨w2.heap.size, 0, none⟩ 1 1 (msC ⟨fr, at_, qs, rt, A, n, c, tp, py⟩) rfl rfl hn2.out (msC_one _) ?c3 ?c4 ?c5 ?_)
        case c3 => unfold maxLen; omega
        case c4 => omega
        case c5 => simp; omega
        intro v' w3 hown3 hg3 hfresh
        have e1 := hs2.out (by trivial)
        have e2 := ho2.out (by trivial)
        have own3 : w3.ownsRow w.heap.size 42 7 v' GS'.length (GS'.flatMap msC) := by rw [e1]; simpa using hown3
        have os3 := grown_own hg3 (ow1.out.alloc (.cells (msC ⟨fr, at_, qs, rt, A, n, c, tp, py⟩).toArray 42)) HN.out
        rw [← e2] at os3
        have fr3 := Lib.hid ((Fr.alloc fr1.out (.cells (msC ⟨fr, at_, qs, rt, A, n, c, tp, py⟩).toArray 42)).app (os1.out.alloc _) (Nat.le_refl _) hg3)
        have hne3 : (Value.slice Ao GO'.length co).ownBlock = none ∨ (Value.slice Ao GO'.length co).ownBlock ≠ v'.ownBlock := by
          rw [e2]
          rcases hfresh with hf | ⟨gb, hgb, hge⟩
          · rw [hf]; exact HN.out
          · right
            intro e
            have := hlto.out gb (by rw [e, hgb])
            simp at hge; omega
        obtain ⟨A4, c4', rfl⟩ := own_shape own3
        have HO3 := Lib.hid own3
        have HS3 := Lib.hid os3
        have HN3 := Lib.hid hne3
        have HE2 := Lib.hid e2
        clear hown3 hg3 hfresh e1 own3 os3 hne3 e2
        go_wp2
        go_roundw
        case rel => exact ⟨k + 1, by go_num, by omega, by rw [HGO.out]; have h3 := HS3.out; rw [HE2.out] at h3 ⊢; exact h3, by rw [HGS.out]; exact HO3.out, by rw [← HE2.out]; exact HN3.out, fr3.out⟩
        case measure => simp [intOf]; omega
    · obtain rfl : k = LL.length := by omega
      rw [List.take_length] at HO HS
      obtain ⟨Ao, co, rfl⟩ := own_shape HO.out
      obtain ⟨As, cs, rfl⟩ := own_shape HS.out
      go_wp2
      go_ret2
      exact ⟨_, _, rfl, HO.out, HS.out, HF.out⟩

set_option maxHeartbeats 4000000 in
set_option maxRecDepth 100000 in
theorem is12_any (v u : Value) (LL RR : List (Ms × List Pr)) (w : World) (hv : View w v LL.length (LL.flatMap fun p => msC p.1)) (hu : View w u RR.length (RR.flatMap fun p => msC p.1)) (hl : LL.length ≤ 1000000) (he : LL.map lg = RR.map lg) (hL : ∀ p ∈ LL, MOk 136 w p) (hR : ∀ p ∈ RR, MOk 139 w p) :
    Calls Try.prog 29 #[v, u] w fun e w' => e = .returned (.int .i64 0) ∧ Fr [] w w' := by
  have hlen : LL.length = RR.length := by have := congrArg List.length he; simpa using this
  have HC : Hid (0 < LL.length → ∃ b off c, v = .slice (some ⟨b, off, none⟩) LL.length c ∧ b < w.heap.size ∧ ∀ (i : Nat) (hi : i < LL.length) j u, (msC LL[i].1)[j]? = some u → w.cell? ⟨b, off + i * 7 + j, none⟩ = some u) := Lib.hid (fun hl => View.at (enc := fun p : Ms × List Pr => msC p.1) hv (fun p => msC_len p.1) (by decide) hl)
  have HD : Hid (0 < RR.length → ∃ b off c, u = .slice (some ⟨b, off, none⟩) RR.length c ∧ b < w.heap.size ∧ ∀ (i : Nat) (hi : i < RR.length) j u, (msC RR[i].1)[j]? = some u → w.cell? ⟨b, off + i * 7 + j, none⟩ = some u) := Lib.hid (fun hl => View.at (enc := fun p : Ms × List Pr => msC p.1) hu (fun p => msC_len p.1) (by decide) hl)
  obtain ⟨A, c, rfl, _⟩ := hv
  obtain ⟨B, d, rfl, _⟩ := hu
  have HE := Lib.hid he
  have HLL := Lib.hid hL
  have HRR := Lib.hid hR
  have HN := Lib.hid hlen
  have hne : ((LL.length : Int) != (RR.length : Int)) = false := by rw [hlen]; simp
  clear he hL hR
  go_enter Try.func29, Try.ntmps29
  rw [HN.out] at hne ⊢
  clear hlen
  go_wp2
  go_loopw [13] (fun i wr => ∃ k : Nat, i = .int .i64 k ∧ k ≤ RR.length ∧ Fr [] w wr) (fun i _ => RR.length - (intOf i).toNat)
  case atStart => exact ⟨0, rfl, by omega, Fr.refl _ _⟩
  case round =>
    obtain ⟨k, rfl, hk, hfr⟩ := hrel
    have HF := Lib.hid hfr
    clear hfr
    by_cases hlt : k < RR.length
    · have hlt2 : k < LL.length := by rw [HN.out]; exact hlt
      obtain ⟨bb, off, c', hsl, hbb, hc⟩ := HC.out (by omega)
      obtain ⟨bd, offd, d', hsd, hbd, hd⟩ := HD.out (by omega)
      rw [HN.out] at hsl
      cases hsl
      cases hsd
      have hcell := hc k hlt2
      have hdell := hd k hlt
      have hokL := HLL.out LL[k] (List.getElem_mem hlt2)
      have hokR := HRR.out RR[k] (List.getElem_mem hlt)
      have hlg : lg LL[k] = lg RR[k] := by
        have h1 : (LL.map lg)[k]? = (RR.map lg)[k]? := by rw [HE.out]
        rw [List.getElem?_map, List.getElem?_map, List.getElem?_eq_getElem hlt2, List.getElem?_eq_getElem hlt] at h1
        simpa using h1
      generalize LL[k] = p at *
      generalize RR[k] = p' at *
      obtain ⟨x, ps⟩ := p
      obtain ⟨x', ps'⟩ := p'
      obtain ⟨fr, at_, qs, rt, A, n, c, tp, py⟩ := x
      obtain ⟨fr', at', qs', rt', A', n', c', tp', py'⟩ := x'
      simp only [lg, Mg.mk.injEq] at hlg
      obtain ⟨rfl, rfl, rfl, rfl, rfl, rfl, rfl⟩ := hlg
      have hvL : View w (.slice A n c) ps.length (ps.flatMap prE) := hokL.1.1
      have hvR : View w (.slice A' n' c') ps.length (ps.flatMap prE) := hokR.1.1
      have hpl : ps.length ≤ 1000000 := by have := hokL.2.1; dsimp only at this; omega
      have c0 : wr.cell? ⟨bb, off + k * 7, none⟩ = some (.string ⟨fr.toArray⟩) := HF.out.cell (hcell 0 _ rfl) (by simp)
      have c1 : wr.cell? ⟨bb, off + k * 7 + 1, none⟩ = some (.int .i64 at_) := HF.out.cell (hcell 1 _ rfl) (by simp)
      have c2 : wr.cell? ⟨bb, off + k * 7 + 2, none⟩ = some (.int .u8 qs) := HF.out.cell (hcell 2 _ rfl) (by simp)
      have c3 : wr.cell? ⟨bb, off + k * 7 + 3, none⟩ = some (.bool rt) := HF.out.cell (hcell 3 _ rfl) (by simp)
      have c4 : wr.cell? ⟨bb, off + k * 7 + 4, none⟩ = some (.slice A n c) := HF.out.cell (hcell 4 _ rfl) (by simp)
      have c5 : wr.cell? ⟨bb, off + k * 7 + 5, none⟩ = some (.string ⟨tp.toArray⟩) := HF.out.cell (hcell 5 _ rfl) (by simp)
      have c6 : wr.cell? ⟨bb, off + k * 7 + 6, none⟩ = some (.string ⟨py.toArray⟩) := HF.out.cell (hcell 6 _ rfl) (by simp)
      have d0 : wr.cell? ⟨bd, offd + k * 7, none⟩ = some (.string ⟨fr.toArray⟩) := HF.out.cell (hdell 0 _ rfl) (by simp)
      have d1 : wr.cell? ⟨bd, offd + k * 7 + 1, none⟩ = some (.int .i64 at_) := HF.out.cell (hdell 1 _ rfl) (by simp)
      have d2 : wr.cell? ⟨bd, offd + k * 7 + 2, none⟩ = some (.int .u8 qs) := HF.out.cell (hdell 2 _ rfl) (by simp)
      have d3 : wr.cell? ⟨bd, offd + k * 7 + 3, none⟩ = some (.bool rt) := HF.out.cell (hdell 3 _ rfl) (by simp)
      have d4 : wr.cell? ⟨bd, offd + k * 7 + 4, none⟩ = some (.slice A' n' c') := HF.out.cell (hdell 4 _ rfl) (by simp)
      have d5 : wr.cell? ⟨bd, offd + k * 7 + 5, none⟩ = some (.string ⟨tp.toArray⟩) := HF.out.cell (hdell 5 _ rfl) (by simp)
      have d6 : wr.cell? ⟨bd, offd + k * 7 + 6, none⟩ = some (.string ⟨py.toArray⟩) := HF.out.cell (hdell 6 _ rfl) (by simp)
      have HVL := Lib.hid (hvL.fr HF.out (by simp))
      have HVR := Lib.hid (hvR.fr HF.out (by simp))
      have hk0 : (0 : Int) ≤ (k : Int) := by omega
      have hk1 : (k : Int) < (RR.length : Int) := by omega
      clear hcell hc hdell hd hokL hokR hvL hvR
      go_wp2
      go_region_held3 (fun w' => w'.cell? ⟨bb, off + k * 7, none⟩ = some (.string ⟨fr.toArray⟩) ∧ w'.cell? ⟨bb, off + k * 7 + 1, none⟩ = some (.int .i64 at_) ∧ w'.cell? ⟨bb, off + k * 7 + 2, none⟩ = some (.int .u8 qs) ∧ w'.cell? ⟨bb, off + k * 7 + 3, none⟩ = some (.bool rt) ∧ w'.cell? ⟨bb, off + k * 7 + 4, none⟩ = some (.slice A n c) ∧ w'.cell? ⟨bb, off + k * 7 + 5, none⟩ = some (.string ⟨tp.toArray⟩) ∧ w'.cell? ⟨bb, off + k * 7 + 6, none⟩ = some (.string ⟨py.toArray⟩) ∧ w'.cell? ⟨bd, offd + k * 7, none⟩ = some (.string ⟨fr.toArray⟩) ∧ w'.cell? ⟨bd, offd + k * 7 + 1, none⟩ = some (.int .i64 at_) ∧ w'.cell? ⟨bd, offd + k * 7 + 2, none⟩ = some (.int .u8 qs) ∧ w'.cell? ⟨bd, offd + k * 7 + 3, none⟩ = some (.bool rt) ∧ w'.cell? ⟨bd, offd + k * 7 + 4, none⟩ = some (.slice A' n' c') ∧ w'.cell? ⟨bd, offd + k * 7 + 5, none⟩ = some (.string ⟨tp.toArray⟩) ∧ w'.cell? ⟨bd, offd + k * 7 + 6, none⟩ = some (.string ⟨py.toArray⟩)) (first | go_keep | exact kk) (first | (go_at_call 21; refine (told12_any ⟨fr, at_, qs, rt, A, n, c, tp, py⟩ ps _ (HVL.out.fr (S := []) ((Fr.refl [] wr).drew) (by simp)) hpl).mono ?_; rintro _ y1 ⟨A8, c8, rfl, tv8, g8⟩; dsimp only [msC]; have kk := (show (fun w' : World => w'.cell? ⟨bb, off + k * 7, none⟩ = some (.string ⟨fr.toArray⟩) ∧ w'.cell? ⟨bb, off + k * 7 + 1, none⟩ = some (.int .i64 at_) ∧ w'.cell? ⟨bb, off + k * 7 + 2, none⟩ = some (.int .u8 qs) ∧ w'.cell? ⟨bb, off + k * 7 + 3, none⟩ = some (.bool rt) ∧ w'.cell? ⟨bb, off + k * 7 + 4, none⟩ = some (.slice A n c) ∧ w'.cell? ⟨bb, off + k * 7 + 5, none⟩ = some (.string ⟨tp.toArray⟩) ∧ w'.cell? ⟨bb, off + k * 7 + 6, none⟩ = some (.string ⟨py.toArray⟩) ∧ w'.cell? ⟨bd, offd + k * 7, none⟩ = some (.string ⟨fr.toArray⟩) ∧ w'.cell? ⟨bd, offd + k * 7 + 1, none⟩ = some (.int .i64 at_) ∧ w'.cell? ⟨bd, offd + k * 7 + 2, none⟩ = some (.int .u8 qs) ∧ w'.cell? ⟨bd, offd + k * 7 + 3, none⟩ = some (.bool rt) ∧ w'.cell? ⟨bd, offd + k * 7 + 4, none⟩ = some (.slice A' n' c') ∧ w'.cell? ⟨bd, offd + k * 7 + 5, none⟩ = some (.string ⟨tp.toArray⟩) ∧ w'.cell? ⟨bd, offd + k * 7 + 6, none⟩ = some (.string ⟨py.toArray⟩)) y1 from ⟨(((Fr.refl [] wr).drew).trans g8 (by simp)).cell c0 (by simp), (((Fr.refl [] wr).drew).trans g8 (by simp)).cell c1 (by simp), (((Fr.refl [] wr).drew).trans g8 (by simp)).cell c2 (by simp), (((Fr.refl [] wr).drew).trans g8 (by simp)).cell c3 (by simp), (((Fr.refl [] wr).drew).trans g8 (by simp)).cell c4 (by simp), (((Fr.refl [] wr).drew).trans g8 (by simp)).cell c5 (by simp), (((Fr.refl [] wr).drew).trans g8 (by simp)).cell c6 (by simp), (((Fr.refl [] wr).drew).trans g8 (by simp)).cell d0 (by simp), (((Fr.refl [] wr).drew).trans g8 (by simp)).cell d1 (by simp), (((Fr.refl [] wr).drew).trans g8 (by simp)).cell d2 (by simp), (((Fr.refl [] wr).drew).trans g8 (by simp)).cell d3 (by simp), (((Fr.refl [] wr).drew).trans g8 (by simp)).cell d4 (by simp), (((Fr.refl [] wr).drew).trans g8 (by simp)).cell d5 (by simp), (((Fr.refl [] wr).drew).trans g8 (by simp)).cell d6 (by simp)⟩)) | (go_at_call 20; refine (same12_any ⟨fr, at_, qs, rt, A8, ps.length, c8, tp, py⟩ ⟨fr, at_, qs, rt, A', n', c', tp, py⟩ ps _ tv8.1 (HVR.out.fr (S := []) (((Fr.refl [] wr).drew).trans g8 (by simp)) (by simp)) hpl rfl).mono ?_; rintro _ y3 ⟨rfl, g10⟩; have kk := (show (fun w' : World => w'.cell? ⟨bb, off + k * 7, none⟩ = some (.string ⟨fr.toArray⟩) ∧ w'.cell? ⟨bb, off + k * 7 + 1, none⟩ = some (.int .i64 at_) ∧ w'.cell? ⟨bb, off + k * 7 + 2, none⟩ = some (.int .u8 qs) ∧ w'.cell? ⟨bb, off + k * 7 + 3, none⟩ = some (.bool rt) ∧ w'.cell? ⟨bb, off + k * 7 + 4, none⟩ = some (.slice A n c) ∧ w'.cell? ⟨bb, off + k * 7 + 5, none⟩ = some (.string ⟨tp.toArray⟩) ∧ w'.cell? ⟨bb, off + k * 7 + 6, none⟩ = some (.string ⟨py.toArray⟩) ∧ w'.cell? ⟨bd, offd + k * 7, none⟩ = some (.string ⟨fr.toArray⟩) ∧ w'.cell? ⟨bd, offd + k * 7 + 1, none⟩ = some (.int .i64 at_) ∧ w'.cell? ⟨bd, offd + k * 7 + 2, none⟩ = some (.int .u8 qs) ∧ w'.cell? ⟨bd, offd + k * 7 + 3, none⟩ = some (.bool rt) ∧ w'.cell? ⟨bd, offd + k * 7 + 4, none⟩ = some (.slice A' n' c') ∧ w'.cell? ⟨bd, offd + k * 7 + 5, none⟩ = some (.string ⟨tp.toArray⟩) ∧ w'.cell? ⟨bd, offd + k * 7 + 6, none⟩ = some (.string ⟨py.toArray⟩)) y3 from ⟨((((Fr.refl [] wr).drew).trans g8 (by simp)).trans g10 (by simp)).cell c0 (by simp), ((((Fr.refl [] wr).drew).trans g8 (by simp)).trans g10 (by simp)).cell c1 (by simp), ((((Fr.refl [] wr).drew).trans g8 (by simp)).trans g10 (by simp)).cell c2 (by simp), ((((Fr.refl [] wr).drew).trans g8 (by simp)).trans g10 (by simp)).cell c3 (by simp), ((((Fr.refl [] wr).drew).trans g8 (by simp)).trans g10 (by simp)).cell c4 (by simp), ((((Fr.refl [] wr).drew).trans g8 (by simp)).trans g10 (by simp)).cell c5 (by simp), ((((Fr.refl [] wr).drew).trans g8 (by simp)).trans g10 (by simp)).cell c6 (by simp), ((((Fr.refl [] wr).drew).trans g8 (by simp)).trans g10 (by simp)).cell d0 (by simp), ((((Fr.refl [] wr).drew).trans g8 (by simp)).trans g10 (by simp)).cell d1 (by simp), ((((Fr.refl [] wr).drew).trans g8 (by simp)).trans g10 (by simp)).cell d2 (by simp), ((((Fr.refl [] wr).drew).trans g8 (by simp)).trans g10 (by simp)).cell d3 (by simp), ((((Fr.refl [] wr).drew).trans g8 (by simp)).trans g10 (by simp)).cell d4 (by simp), ((((Fr.refl [] wr).drew).trans g8 (by simp)).trans g10 (by simp)).cell d5 (by simp), ((((Fr.refl [] wr).drew).trans g8 (by simp)).trans g10 (by simp)).cell d6 (by simp)⟩)))
      have F3 := Lib.hid (HF.out.trans ((((Fr.refl [] wr).drew).trans g8 (by simp)).trans g10 (by simp)) (by simp))
      clear c0 c1 c2 c3 c4 c5 c6 d0 d1 d2 d3 d4 d5 d6 kk g8 g10 tv8
      go_wp2
      go_roundw
      case rel => exact ⟨k + 1, by go_num, by omega, F3.out⟩
      case measure => simp [intOf]; omega
    · obtain rfl : k = RR.length := by omega
      go_wp2
      go_ret
      exact ⟨rfl, HF.out⟩
end Go.Proofs.Ytnplinohoflabaa
