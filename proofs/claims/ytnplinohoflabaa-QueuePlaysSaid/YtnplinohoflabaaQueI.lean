/- What Is of the law package of layer 12, Expire of package queue, Parts of its reference come to. Conditions: numbers and strings that may be. -/
import Derived.Test.YtnplinohoflabaaQueG
import Derived.Test.YtnplinohoflabaaMsG
namespace Go.Proofs.Ytnplinohoflabaa
open Go.RowKit
set_option linter.unusedSimpArgs false
set_option linter.unusedVariables false
attribute [local go_sem ↓] Go.wp_at_zero Go.wp_at_succ

/-- A message with its properties: numbers and strings that may be; its properties read. -/
def MOk (T : TypeId) (w : World) (p : Ms × List Pr) : Prop := Rds T w p ∧ p.2.length ≤ 8 ∧ (∀ x ∈ p.2, x.n < 4294967296) ∧ 0 ≤ p.1.at_ ∧ p.1.at_ ≤ 100000
theorem MOk.fr {T : TypeId} {S : List Nat} {w w' : World} {p : Ms × List Pr} (h : MOk T w p) (hf : Fr S w w') (hS : ∀ k ∈ S, NotT T w k) : MOk T w' p := ⟨TView.fr h.1 hf hS, h.2⟩
theorem MOk.fr0 {T : TypeId} {w w' : World} {p : Ms × List Pr} (h : MOk T w p) (hf : Fr [] w w') : MOk T w' p := h.fr hf (by simp)
def fsts (l : List (Ms × List Pr)) : List Ms := l.map Prod.fst
def goneP (now : Int) (p : Ms × List Pr) : Bool := goneB p.1.at_ p.2 now
theorem fsts_flat (l : List (Ms × List Pr)) : (fsts l).flatMap msC = l.flatMap fun p => msC p.1 := by simp [fsts, List.flatMap_map]
theorem filt_snoc (f : Ms × List Pr → Bool) (l : List (Ms × List Pr)) (p : Ms × List Pr) : fsts ((l ++ [p]).filter f) = fsts (l.filter f) ++ if f p = true then [p.1] else [] := by
  cases h : f p <;> simp [fsts, List.filter_append, h]
set_option maxHeartbeats 4000000 in
set_option maxRecDepth 100000 in
/-- Expire, or Parts: two rows grow side by side. -/
theorem qexpire_any (base q : Nat) (v : Value) (LL : List (Ms × List Pr)) (most : Nat) (now : Int) (w : World) (h : QAt w base q v (fsts LL) most) (hb : base ≤ w.heap.size) (hl : LL.length ≤ 1000000) (hR : ∀ p ∈ LL, MOk 136 w p) (hn0 : 0 ≤ now) (hn1 : now ≤ 1000000) :
    Calls Try.prog 24 #[.pointer (some ⟨q, 0, none⟩), .int .i64 now] w fun e w' => ∃ vo vs, e = .returned vo ∧ w'.ownsRow w.heap.size 29 7 vo (fsts (LL.filter (goneP now))).length ((fsts (LL.filter (goneP now))).flatMap msC) ∧ QAt w' base q vs (fsts (LL.filter fun p => !goneP now p)) most ∧ Fr [q] w w' := by
  obtain ⟨i0, hi, hz0, hz1, hz2⟩ := info_parts Try.infoMs
  obtain ⟨hq, ho⟩ := h
  have HQ := Lib.hid hq
  have HR := Lib.hid hR
  have hfl : (fsts LL).length = LL.length := by simp [fsts]
  have HC : Hid (0 < LL.length → ∃ b off c, v = .slice (some ⟨b, off, none⟩) LL.length c ∧ b < w.heap.size ∧ ∀ (i : Nat) (hi : i < LL.length) j u, (msC LL[i].1)[j]? = some u → w.cell? ⟨b, off + i * 7 + j, none⟩ = some u) := Lib.hid (fun hl => View.at (enc := fun p : Ms × List Pr => msC p.1) (by rw [← fsts_flat, ← hfl]; exact own_view ho) (fun p => msC_len p.1) (by decide) hl)
  rw [hfl] at ho
  obtain ⟨A, c, rfl⟩ := own_shape ho
  obtain ⟨c0, c1, z0, z1, _⟩ := blk2_facts hq
  clear hq ho hR hfl
  go_enter Try.func24, Try.ntmps24
  go_wp2
  go_loopw [5, 6, 14] (fun vo vs i wr => ∃ k : Nat, i = .int .i64 k ∧ k ≤ LL.length ∧ wr.ownsRow w.heap.size 29 7 vo (fsts ((LL.take k).filter (goneP now))).length ((fsts ((LL.take k).filter (goneP now))).flatMap msC) ∧ wr.ownsRow w.heap.size 29 7 vs (fsts ((LL.take k).filter fun p => !goneP now p)).length ((fsts ((LL.take k).filter fun p => !goneP now p)).flatMap msC) ∧ (vo.ownBlock = none ∨ vo.ownBlock ≠ vs.ownBlock) ∧ Fr [] w wr) (fun _ _ i _ => LL.length - (intOf i).toNat)
  case atStart => exact ⟨0, rfl, by omega, World.ownsRow_nil _ _ _ _, World.ownsRow_nil _ _ _ _, Or.inl rfl, Fr.refl _ _⟩
  case round =>
    obtain ⟨k, rfl, hk, hwo, hws, hne, hfr⟩ := hrel
    have HF := Lib.hid hfr
    have hszr := hfr.size
    have HO := Lib.hid hwo
    have HS := Lib.hid hws
    have HN := Lib.hid hne
    clear hfr hwo hws hne c0 c1 z0 z1
    by_cases hlt : k < LL.length
    · obtain ⟨bb, off, c', hsl, hbb, hc⟩ := HC.out (by omega)
      cases hsl
      have hcell := hc k hlt
      have hok := HR.out LL[k] (List.getElem_mem hlt)
      have ht : LL.take (k + 1) = LL.take k ++ [LL[k]] := List.take_succ_eq_append_getElem hlt
      have hlk : ∀ f : Ms × List Pr → Bool, (fsts ((LL.take k).filter f)).length ≤ k := fun f => by
        rw [fsts, List.length_map]; exact Nat.le_trans (List.length_filter_le _ _) (List.length_take_le _ _)
      have hlo := hlk (goneP now)
      have hls := hlk (fun p => !goneP now p)
      have ho1 : Hid (goneP now LL[k] = true → fsts ((LL.take (k + 1)).filter (goneP now)) = fsts ((LL.take k).filter (goneP now)) ++ [LL[k].1]) := Lib.hid (fun hg => by rw [ht, filt_snoc, if_pos hg])
      have ho2 : Hid (goneP now LL[k] = false → fsts ((LL.take (k + 1)).filter (goneP now)) = fsts ((LL.take k).filter (goneP now))) := Lib.hid (fun hg => by rw [ht, filt_snoc, if_neg (by simp [hg]), List.append_nil])
      have hs1 : Hid (goneP now LL[k] = true → fsts ((LL.take (k + 1)).filter fun p => !goneP now p) = fsts ((LL.take k).filter fun p => !goneP now p)) := Lib.hid (fun hg => by rw [ht, filt_snoc, if_neg (by simp [hg]), List.append_nil])
      have hs2 : Hid (goneP now LL[k] = false → fsts ((LL.take (k + 1)).filter fun p => !goneP now p) = fsts ((LL.take k).filter fun p => !goneP now p) ++ [LL[k].1]) := Lib.hid (fun hg => by rw [ht, filt_snoc, if_pos (by simp [hg])])
      clear hlk ht
      obtain ⟨GO', hGO⟩ : ∃ G, fsts ((LL.take (k + 1)).filter (goneP now)) = G := ⟨_, rfl⟩
      obtain ⟨GS', hGS⟩ : ∃ G, fsts ((LL.take (k + 1)).filter fun p => !goneP now p) = G := ⟨_, rfl⟩
      rw [hGO] at ho1 ho2
      rw [hGS] at hs1 hs2
      have HGO := Lib.hid hGO
      have HGS := Lib.hid hGS
      clear hGO hGS
      generalize fsts ((LL.take k).filter (goneP now)) = GO at *
      generalize fsts ((LL.take k).filter fun p => !goneP now p) = GS at *
      generalize LL[k] = p at *
      obtain ⟨x, ps⟩ := p
      obtain ⟨hrd, hpl, hpn, hat0, hat1⟩ := hok
      dsimp only at hcell hpl hpn hat0 hat1 ho1 ho2 hs1 hs2
      obtain ⟨g, hg⟩ : ∃ g, goneB x.at_ ps now = g := ⟨_, rfl⟩
      have hgo := fun W hW => gone_any x ps now W hW (by omega) hpn hat0 (by omega) hn0 hn1
      rw [hg] at hgo
      have hgp : goneP now (x, ps) = g := hg
      rw [hgp] at ho1 ho2 hs1 hs2
      have hvw : View w (.slice x.A x.n x.c) ps.length (ps.flatMap prE) := hrd.1
      clear hg hgp hrd hpl hpn hat0 hat1
      obtain ⟨fr, at_, qs, rt, A, n, c, tp, py⟩ := x
      dsimp only [msC] at hgo hvw
      have c0 : wr.cell? ⟨bb, off + k * 7, none⟩ = some (.string ⟨fr.toArray⟩) := HF.out.cell (hcell 0 _ rfl) (by simp)
      have c1 : wr.cell? ⟨bb, off + k * 7 + 1, none⟩ = some (.int .i64 at_) := HF.out.cell (hcell 1 _ rfl) (by simp)
      have c2 : wr.cell? ⟨bb, off + k * 7 + 2, none⟩ = some (.int .u8 qs) := HF.out.cell (hcell 2 _ rfl) (by simp)
      have c3 : wr.cell? ⟨bb, off + k * 7 + 3, none⟩ = some (.bool rt) := HF.out.cell (hcell 3 _ rfl) (by simp)
      have c4 : wr.cell? ⟨bb, off + k * 7 + 4, none⟩ = some (.slice A n c) := HF.out.cell (hcell 4 _ rfl) (by simp)
      have c5 : wr.cell? ⟨bb, off + k * 7 + 5, none⟩ = some (.string ⟨tp.toArray⟩) := HF.out.cell (hcell 5 _ rfl) (by simp)
      have c6 : wr.cell? ⟨bb, off + k * 7 + 6, none⟩ = some (.string ⟨py.toArray⟩) := HF.out.cell (hcell 6 _ rfl) (by simp)
      have HG := Lib.hid hgo
      have HV := Lib.hid hvw
      have hx := Lib.hid (hcell)
      obtain ⟨Ao, co, rfl⟩ := own_shape HO.out
      obtain ⟨As, cs, rfl⟩ := own_shape HS.out
      have fr1 := Lib.hid (HF.out.alloc (.cells #[.string ⟨fr.toArray⟩, .int .i64 at_, .int .u8 qs, .bool rt, .slice A n c, .string ⟨tp.toArray⟩, .string ⟨py.toArray⟩] 29))
      have ow1 := Lib.hid (HO.out.alloc (.cells #[.string ⟨fr.toArray⟩, .int .i64 at_, .int .u8 qs, .bool rt, .slice A n c, .string ⟨tp.toArray⟩, .string ⟨py.toArray⟩] 29))
      have os1 := Lib.hid (HS.out.alloc (.cells #[.string ⟨fr.toArray⟩, .int .i64 at_, .int .u8 qs, .bool rt, .slice A n c, .string ⟨tp.toArray⟩, .string ⟨py.toArray⟩] 29))
      have hb1 := blk_new wr (.cells #[.string ⟨fr.toArray⟩, .int .i64 at_, .int .u8 qs, .bool rt, .slice A n c, .string ⟨tp.toArray⟩, .string ⟨py.toArray⟩] 29)
      have hlto := Lib.hid (fun k hk => (HO.out.lt k hk).2)
      have hlts := Lib.hid (fun k hk => (HS.out.lt k hk).2)
      clear hcell hc hgo hvw HO HS
      go_wp2_with fail
      refine (HG.out _ (HV.out.fr fr1.out (by simp))).mono ?_
      rintro _ w2 ⟨rfl, g2⟩
      clear c0 c1 c2 c3 c4 c5 c6
      replace fr1 := Lib.hid (fr1.out.trans g2 (by simp))
      replace ow1 := Lib.hid (own_fr g2 ow1.out (by simp))
      replace os1 := Lib.hid (own_fr g2 os1.out (by simp))
      have hb2 := g2.blk hb1 (by simp)
      have hsz2 := g2.size
      simp only [World.size_alloc] at hsz2
      have HB2 := Lib.hid hb2
      obtain ⟨⟨c0, c1, c2, c3, c4, c5, c6⟩, _, _⟩ := blk7_facts hb2
      clear g2 hb1 hb2 HG HV
      cases g with
      | true =>
        have hn2 := Lib.hid (news_at w2 w2.heap.size rfl (msC ⟨fr, at_, qs, rt, A, n, c, tp, py⟩) 29)
        go_wp2_with (at_builtin; refine wpl_app _ rfl (.tmp 21) (.tmp 23) 22 rfl w.heap.size 29 i0 _ 7 88 Try.underlying22 hi hz0 hz1 hz2 rfl (by decide) _ GO.length (GO.flatMap msC) rfl (ow1.out.alloc _) ⟨w2.heap.size, 0, none⟩ 1 1 (msC ⟨fr, at_, qs, rt, A, n, c, tp, py⟩) rfl rfl hn2.out (msC_one _) ?c3 ?c4 ?c5 ?_)
        case c3 => unfold maxLen; omega
        case c4 => omega
        case c5 => simp; omega
        intro v' w3 hown3 hg3 hfresh
        have e1 := ho1.out (by trivial)
        have e2 := hs1.out (by trivial)
        have own3 : w3.ownsRow w.heap.size 29 7 v' GO'.length (GO'.flatMap msC) := by rw [e1]; simpa using hown3
        have os3 := grown_own hg3 (os1.out.alloc (.cells (msC ⟨fr, at_, qs, rt, A, n, c, tp, py⟩).toArray 29)) (by rcases HN.out with h | h; (rw [h]; cases hb : (Value.slice As GS.length cs).ownBlock; (exact Or.inl rfl); (exact Or.inr (by simp))); (exact Or.inr (Ne.symm h)))
        rw [← e2] at os3
        have fr3 := Lib.hid ((Fr.alloc fr1.out (.cells (msC ⟨fr, at_, qs, rt, A, n, c, tp, py⟩).toArray 29)).app (ow1.out.alloc _) (Nat.le_refl _) hg3)
        have hne3 : v'.ownBlock = none ∨ v'.ownBlock ≠ (Value.slice As GS'.length cs).ownBlock := by
          rw [e2]
          rcases hfresh with hf | ⟨gb, hgb, hge⟩
          · rw [hf]; exact HN.out
          · right
            intro e
            have := hlts.out gb (by rw [← e, hgb])
            simp at hge; omega
        obtain ⟨A4, c4', rfl⟩ := own_shape own3
        have HO3 := Lib.hid own3
        have HS3 := Lib.hid os3
        have HN3 := Lib.hid hne3
        have HE2 := Lib.hid e2
        clear hown3 hg3 hfresh e1 own3 os3 hne3 e2
        go_wp2
        go_roundw
        case rel => exact ⟨k + 1, by go_num, by omega, by rw [HGO.out]; exact HO3.out, by rw [HGS.out]; have h3 := HS3.out; rw [HE2.out] at h3 ⊢; exact h3, by rw [← HE2.out]; exact HN3.out, fr3.out⟩
        case measure => simp [intOf]; omega
      | false =>
        have hn2 := Lib.hid (news_at w2 w2.heap.size rfl (msC ⟨fr, at_, qs, rt, A, n, c, tp, py⟩) 29)
        go_wp2_with (at_builtin; refine wpl_app _ rfl (.tmp 25) (.tmp 27) 22 rfl w.heap.size 29 i0 _ 7 88 Try.underlying22 hi hz0 hz1 hz2 rfl (by decide) _ GS.length (GS.flatMap msC) rfl (os1.out.alloc _) ⟨w2.heap.size, 0, none⟩ 1 1 (msC ⟨fr, at_, qs, rt, A, n, c, tp, py⟩) rfl rfl hn2.out (msC_one _) ?c3 ?c4 ?c5 ?_)
        case c3 => unfold maxLen; omega
        case c4 => omega
        case c5 => simp; omega
        intro v' w3 hown3 hg3 hfresh
        have e1 := hs2.out (by trivial)
        have e2 := ho2.out (by trivial)
        have own3 : w3.ownsRow w.heap.size 29 7 v' GS'.length (GS'.flatMap msC) := by rw [e1]; simpa using hown3
        have os3 := grown_own hg3 (ow1.out.alloc (.cells (msC ⟨fr, at_, qs, rt, A, n, c, tp, py⟩).toArray 29)) HN.out
        rw [← e2] at os3
        have fr3 := Lib.hid ((Fr.alloc fr1.out (.cells (msC ⟨fr, at_, qs, rt, A, n, c, tp, py⟩).toArray 29)).app (os1.out.alloc _) (Nat.le_refl _) hg3)
        have hne3 : (Value.slice Ao GO'.length co).ownBlock = none ∨ (Value.slice Ao GO'.length co).ownBlock ≠ v'.ownBlock := by
          rw [e2]
          rcases hfresh with hf | ⟨gb, hgb, hge⟩
          · rw [hf]; exact HN.out
          · right
            intro e
            have := hlto.out gb (by rw [e, hgb])
            simp at hge; omega
        obtain ⟨A4, c4', rfl⟩ := own_shape own3
        have HO3 := Lib.hid own3
        have HS3 := Lib.hid os3
        have HN3 := Lib.hid hne3
        have HE2 := Lib.hid e2
        clear hown3 hg3 hfresh e1 own3 os3 hne3 e2
        go_wp2
        go_roundw
        case rel => exact ⟨k + 1, by go_num, by omega, by rw [HGO.out]; have h3 := HS3.out; rw [HE2.out] at h3 ⊢; exact h3, by rw [HGS.out]; exact HO3.out, by rw [← HE2.out]; exact HN3.out, fr3.out⟩
        case measure => simp [intOf]; omega
    · obtain rfl : k = LL.length := by omega
      rw [List.take_length] at HO HS
      obtain ⟨Ao, co, rfl⟩ := own_shape HO.out
      obtain ⟨As, cs, rfl⟩ := own_shape HS.out
      have hq2 := HF.out.blk HQ.out (by simp)
      obtain ⟨c0, c1, z0, z1, _⟩ := blk2_facts hq2
      have HQ3 := Lib.hid (blk_set hq2 0 (.slice As (fsts (LL.filter fun p => !goneP now p)).length cs))
      have hlow := Lib.hid (fun k hk => (HO.out.lt k hk).1)
      have hlows := Lib.hid (fun k hk => (HS.out.lt k hk).1)
      have hqw := blk_lt HQ.out
      have HO3 := Lib.hid (own_set HO.out (p := ⟨q, 0, none⟩) (by intro e; have := hlow.out _ e.symm; simp at this; omega) (.slice As (fsts (LL.filter fun p => !goneP now p)).length cs))
      have HS3 := Lib.hid (own_base (own_set HS.out (p := ⟨q, 0, none⟩) (by intro e; have := hlows.out _ e.symm; simp at this; omega) (.slice As (fsts (LL.filter fun p => !goneP now p)).length cs)) (base' := base) (fun k hk => by have := hlows.out k hk; omega))
      have HF3 := Lib.hid ((HF.out.mono (T := [q]) (by simp)).setCell (p := ⟨q, 0, none⟩) (Or.inr (by simp)) (.slice As (fsts (LL.filter fun p => !goneP now p)).length cs))
      clear hq2
      go_wp2
      go_ret
      exact ⟨_, .slice As (fsts (LL.filter fun p => !goneP now p)).length cs, rfl, HO3.out, ⟨HQ3.out, HS3.out⟩, HF3.out⟩
end Go.Proofs.Ytnplinohoflabaa
