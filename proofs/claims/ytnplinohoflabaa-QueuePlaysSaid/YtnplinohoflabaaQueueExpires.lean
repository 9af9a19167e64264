/- The walk of the law QueueExpires. -/
import Derived.Test.YtnplinohoflabaaQueueRoom
namespace Go.Proofs.Ytnplinohoflabaa
open Go.RowKit
set_option linter.unusedSimpArgs false
set_option linter.unusedVariables false

theorem mok_all {w w' : World} {LL : List (Ms × List Pr)} {S : List Nat} (h : ∀ p ∈ LL, MOk 136 w p) (hf : Fr S w w') (hS : ∀ k ∈ S, NotT 136 w k) : ∀ p ∈ LL, MOk 136 w' p := fun p hp => (h p hp).fr hf hS
theorem QAt.nots {w : World} {base q : Nat} {v : Value} {L : List Ms} {most : Nat} (H : QAt w base q v L most) : ∀ k ∈ q :: v.ownBlock.toList, NotT 136 w k := by
  intro k hk
  rcases List.mem_cons.1 hk with rfl | hk
  · exact NotT.blk H.1 (by decide)
  · exact NotT.own H.2 (by decide) k (by simpa using hk)
theorem fsts_len (l : List (Ms × List Pr)) : (fsts l).length = l.length := by simp [fsts]
/-- Where the elements of an own row of messages stand. -/
theorem row_at {w : World} {base : Nat} {v : Value} {G : List (Ms × List Pr)} (h : w.ownsRow base 29 7 v (fsts G).length ((fsts G).flatMap msC)) (h0 : 0 < G.length) :
    ∃ b off c, v = .slice (some ⟨b, off, none⟩) G.length c ∧ b < w.heap.size ∧ ∀ (i : Nat) (hi : i < G.length) j u, (msC G[i].1)[j]? = some u → w.cell? ⟨b, off + i * 7 + j, none⟩ = some u :=
  View.at (enc := fun p : Ms × List Pr => msC p.1) (by rw [← fsts_flat, ← fsts_len]; exact own_view h) (fun p => msC_len p.1) (by decide) h0
set_option maxHeartbeats 8000000 in
set_option maxRecDepth 100000 in
theorem queueExpires_walk (x0 : Option Addr) (y0 z0 : Nat) (f0 : List (Ms × List Pr)) (a1 a2 : Int) (w1 : (Lit.int .i64 a1).wf = true) (w2 : (Lit.int .i64 a2).wf = true) (W : World) (H0 : MsIn W (.slice x0 y0 z0) f0) :
    Calls Try.prog 6 #[.slice x0 y0 z0, .int .i64 a1, .int .i64 a2] W fun e w' => e = .returned (.bool true) ∧ Fr [] W w' := by
  clear w1 w2
  have hyl : y0 = f0.length := by
    obtain ⟨_, ⟨_, _, he, _⟩, _⟩ := H0
    injection he
  subst hyl
  have hl1 := H0.1
  have HM := Lib.hid H0
  clear H0
  go_enter Try.func6, Try.ntmps6
  go_wp2_with fail
  refine (awake16_any _).mono ?_
  rintro _ w1 ⟨rfl, F1⟩
  go_wp2_with fail
  refine (qnew_any 50 w1).mono ?_
  rintro _ w2 ⟨rfl, rfl⟩
  rw [show max (50 : Int) 0 = ((50 : Nat) : Int) from rfl]
  have hQ : W.heap.size ≤ w1.heap.size := F1.size
  have hq0 : QAt (w1.alloc (.cells #[.slice none 0 0, .int .i64 ((50 : Nat) : Int)] 100)) w1.heap.size w1.heap.size (.slice none 0 0) (fsts []) 50 := ⟨blk_new w1 _, World.ownsRow_nil _ _ _ _⟩
  have F2 : Fr [] W (w1.alloc (.cells #[.slice none 0 0, .int .i64 ((50 : Nat) : Int)] 100)) := F1.alloc _
  generalize w1.heap.size = Q at *
  generalize w1.alloc (.cells #[.slice none 0 0, .int .i64 ((50 : Nat) : Int)] 100) = w2 at *
  clear F1
  go_wp2
  go_loopw [8] (fun i wr => ∃ (k : Nat) (v : Value) (LL : List (Ms × List Pr)), i = .int .i64 k ∧ k ≤ f0.length ∧ k ≤ 40 ∧ QAt wr Q Q v (fsts LL) 50 ∧ Hid (∀ p ∈ LL, MOk 136 wr p) ∧ LL.length = k ∧ Q ≤ wr.heap.size ∧ Fr [] W wr) (fun i _ => 40 - (intOf i).toNat)
  case atStart => exact ⟨0, _, [], rfl, by omega, by omega, hq0, Lib.hid (by simp), rfl, by have := blk_lt hq0.1; omega, F2⟩
  case round =>
    clear hq0 F2
    obtain ⟨k, v, LL, rfl, hk, hk40, hq, HR, hL, hQr, hfr⟩ := hrel
    have HF := Lib.hid hfr
    have HQ := Lib.hid hq
    have HL := Lib.hid hL
    have hL40 : LL.length ≤ 40 := by omega
    clear hfr hq hL
    by_cases hlt : k < f0.length
    · by_cases hlt4 : (k : Int) < 40
      · obtain ⟨bb, off, c', hsl, hbb, hc⟩ := HM.out.at (by omega)
        cases hsl
        have hcell := hc k hlt
        have hin := HM.out.2.2 f0[k] (List.getElem_mem hlt)
        generalize f0[k] = p at *
        obtain ⟨x, ps⟩ := p
        dsimp only at hcell hin
        obtain ⟨hv, hpl, hok, hqb, hab, hs1, hs2, hs3⟩ := hin
        have hfew := few12_any x ps wr (hv.fr HF.out (by simp)) hpl (fun y hy => (hok y hy).2) hs1 hs2 hs3
        have hfok := fewR_ok ps hok
        unfold FewTo12 at hfew
        obtain ⟨fr, at_, qs, rt, A, n, c, tp, py⟩ := x
        have c0 : wr.cell? ⟨bb, off + k * 7, none⟩ = some (.string ⟨fr.toArray⟩) := HF.out.cell (hcell 0 _ rfl) (by simp)
        have c1 : wr.cell? ⟨bb, off + k * 7 + 1, none⟩ = some (.int .i64 at_) := HF.out.cell (hcell 1 _ rfl) (by simp)
        have c2 : wr.cell? ⟨bb, off + k * 7 + 2, none⟩ = some (.int .u8 qs) := HF.out.cell (hcell 2 _ rfl) (by simp)
        have c3 : wr.cell? ⟨bb, off + k * 7 + 3, none⟩ = some (.bool rt) := HF.out.cell (hcell 3 _ rfl) (by simp)
        have c4 : wr.cell? ⟨bb, off + k * 7 + 4, none⟩ = some (.slice A n c) := HF.out.cell (hcell 4 _ rfl) (by simp)
        have c5 : wr.cell? ⟨bb, off + k * 7 + 5, none⟩ = some (.string ⟨tp.toArray⟩) := HF.out.cell (hcell 5 _ rfl) (by simp)
        have c6 : wr.cell? ⟨bb, off + k * 7 + 6, none⟩ = some (.string ⟨py.toArray⟩) := HF.out.cell (hcell 6 _ rfl) (by simp)
        have htick := tickN_le at_
        have HFew := Lib.hid hfew
        have HFK := Lib.hid hfok
        have HQB := Lib.hid hqb
        clear hcell hc hfew hfok hv hok hqb hab hs1 hs2 hs3 hpl
        go_wp2_with fail
        refine HFew.out.mono ?_
        rintro _ w3 ⟨A3, d3, rfl, tv3, g3⟩
        clear c0 c1 c2 c3 c4 c5 c6 HFew
        try dsimp only at tv3
        have hok3 : MOk 136 w3 ((⟨fr.take 10, tickN at_, qs, rt, A3, (fewR ps).length, d3, tp.take 30, py.take 30⟩ : Ms), fewR ps) := ⟨tv3, HFK.out.1, fun x hx => (HFK.out.2 x hx).1, by dsimp only; omega, by dsimp only; omega⟩
        have hqb3 := HQB.out
        try dsimp only at hqb3
        clear HFK tv3 htick HQB
        try dsimp only
        generalize fewR ps = ps' at *
        generalize fr.take 10 = fr at *
        generalize tickN at_ = at_ at *
        generalize tp.take 30 = tp at *
        generalize py.take 30 = py at *
        have HK3 := Lib.hid hok3
        clear hok3
        try dsimp only [msC]
        have F3 := Lib.hid (HF.out.trans g3 (by simp))
        have H3 := Lib.hid (HQ.out.fr0 g3)
        have R3 := Lib.hid (mok_all HR.out g3 (by simp))
        have hs3 := g3.size
        clear g3
        have hl50 : (fsts LL).length < 50 := by rw [fsts_len, HL.out]; omega
        have HP := Lib.hid (push_room ltMs (fsts LL) ⟨fr, at_, qs, rt, A3, ps'.length, d3, tp, py⟩ 50 hl50)
        go_wp2_with fail
        refine (qpush_eq Q Q v (fsts LL) 50 ⟨fr, at_, qs, rt, A3, ps'.length, d3, tp, py⟩ _ H3.out (by omega) (by omega) (by decide) (fsts LL ++ [(⟨fr, at_, qs, rt, A3, ps'.length, d3, tp, py⟩ : Ms)]) none ms0 false HP.out rfl rfl).mono ?_
        rintro _ w5 ⟨v5, rfl, H5, g5⟩
        have F5 := Lib.hid (F3.out.que g5 H3.out hQ hQ)
        have H6 : Hid (QAt w5 Q Q v5 (fsts (LL ++ [((⟨fr, at_, qs, rt, A3, ps'.length, d3, tp, py⟩ : Ms), ps')])) 50) := Lib.hid (by rw [show fsts (LL ++ [((⟨fr, at_, qs, rt, A3, ps'.length, d3, tp, py⟩ : Ms), ps')]) = fsts LL ++ [(⟨fr, at_, qs, rt, A3, ps'.length, d3, tp, py⟩ : Ms)] from by simp [fsts]]; exact H5)
        have R5 : Hid (∀ p ∈ LL ++ [((⟨fr, at_, qs, rt, A3, ps'.length, d3, tp, py⟩ : Ms), ps')], MOk 136 w5 p) := Lib.hid (fun p hp => by
          rcases List.mem_append.1 hp with hp | hp
          · exact (R3.out p hp).fr g5 H3.out.nots
          · rw [List.mem_singleton.1 hp]; exact HK3.out.fr g5 H3.out.nots)
        have hs5 := g5.size
        have hlen : Hid ((LL ++ [((⟨fr, at_, qs, rt, A3, ps'.length, d3, tp, py⟩ : Ms), ps')]).length = k + 1) := Lib.hid (by rw [List.length_append, HL.out]; rfl)
        clear g5 H5
        go_wp2
        go_roundw
        case rel => exact ⟨k + 1, v5, _, by go_num, by omega, by omega, H6.out, R5, hlen.out, by omega, F5.out⟩
        case measure => simp [intOf]; omega
      · have h40 : decide ((k : Int) < 40) = false := by simpa using hlt4
        go_wp2_with fail
        refine (tick_any a1 _).mono ?_
        rintro _ _ ⟨rfl, rfl⟩
        go_wp2_with fail
        refine (tick_any a2 _).mono ?_
        rintro _ _ ⟨rfl, rfl⟩
        have ht1 := tickN_le a1
        have ht2 := tickN_le a2
        generalize tickN a1 = ta at *
        generalize tickN a2 = tb at *
        go_wp2_with fail
        refine (qlen_any _ _ _ _ _ _ HQ.out).mono ?_
        rintro _ _ ⟨rfl, rfl⟩
        rw [fsts_len]
        go_wp2_with fail
        refine (qexpire_any Q Q v LL 50 ta _ HQ.out hQr (by omega) HR.out (by omega) (by omega)).mono ?_
        rintro _ w5 ⟨vx, vs, rfl, ox, hq5, g5⟩
        have F5 := Lib.hid (HF.out.trans g5 (by intro x hx h; simp at h; omega))
        have R5 := Lib.hid (mok_all HR.out g5 (fun k hk => HQ.out.nots k (by simp at hk; simp [hk])))
        have hs5 := g5.size
        have hxq := own_ne ox hq5.1 (by decide)
        have H5 := Lib.hid hq5
        clear g5 hq5
        have hG1 : ∀ p ∈ LL.filter (goneP ta), p ∈ LL ∧ goneP ta p = true := fun p hp => List.mem_filter.1 hp
        have hS1 : ∀ p ∈ LL.filter (fun p => !goneP ta p), p ∈ LL ∧ goneP ta p = false := fun p hp => by
          have := List.mem_filter.1 hp
          exact ⟨this.1, by simpa using this.2⟩
        have hsum1 : (LL.filter (goneP ta)).length + (LL.filter fun p => !goneP ta p).length = LL.length := by
          rw [← List.length_append]; exact (List.filter_append_perm (goneP ta) LL).length_eq
        generalize LL.filter (goneP ta) = G1 at *
        generalize LL.filter (fun p => !goneP ta p) = S1 at *
        have HG1 := Lib.hid hG1
        have HS1 := Lib.hid hS1
        clear hG1 hS1
        go_wp2_with fail
        refine (qexpire_any Q Q vs S1 50 (ta + tb) _ H5.out (by omega) (by omega) (fun p hp => R5.out p (HS1.out p hp).1) (by omega) (by omega)).mono ?_
        rintro _ w6 ⟨vy, vt, rfl, oy, hq6, g6⟩
        have F6 := Lib.hid (F5.out.trans g6 (by intro x hx h; simp at h; omega))
        have R6 := Lib.hid (mok_all R5.out g6 (fun k hk => H5.out.nots k (by simp at hk; simp [hk])))
        have ox6 := own_fr g6 ox (fun k hk h => by simp at h; subst h; exact hxq hk)
        have hs6 := g6.size
        have H6 := Lib.hid hq6
        clear g6 hq6 hxq ox
        have hG2 : ∀ p ∈ S1.filter (goneP (ta + tb)), p ∈ S1 ∧ goneP (ta + tb) p = true := fun p hp => List.mem_filter.1 hp
        have hS2 : ∀ p ∈ S1.filter (fun p => !goneP (ta + tb) p), p ∈ S1 ∧ goneP (ta + tb) p = false := fun p hp => by
          have := List.mem_filter.1 hp
          exact ⟨this.1, by simpa using this.2⟩
        have hsum2 : (S1.filter (goneP (ta + tb))).length + (S1.filter fun p => !goneP (ta + tb) p).length = S1.length := by
          rw [← List.length_append]; exact (List.filter_append_perm (goneP (ta + tb)) S1).length_eq
        generalize S1.filter (goneP (ta + tb)) = G2 at *
        generalize S1.filter (fun p => !goneP (ta + tb) p) = S2 at *
        have HG2 := Lib.hid hG2
        have HS2 := Lib.hid hS2
        clear hG2 hS2
        have HCX := Lib.hid (fun h => row_at ox6 h)
        have HCY := Lib.hid (fun h => row_at oy h)
        rw [fsts_len] at ox6 oy
        obtain ⟨Ax, cx, rfl⟩ := own_shape ox6
        obtain ⟨Ay, cy, rfl⟩ := own_shape oy
        have HOX := Lib.hid ox6
        clear ox6 oy
        go_wp2
        go_loopw [54] (fun i wq => ∃ k : Nat, i = .int .i64 k ∧ k ≤ G1.length ∧ Fr [] w6 wq) (fun i _ => G1.length - (intOf i).toNat)
        case atStart => exact ⟨0, rfl, by omega, Fr.refl _ _⟩
        case round =>
          obtain ⟨kx, rfl, hkx, hfx⟩ := hrel
          have HFX := Lib.hid hfx
          clear hfx
          by_cases hltx : kx < G1.length
          · obtain ⟨bb, off, c', hsl, hbb, hc⟩ := HCX.out (by omega)
            cases hsl
            have hcell := hc kx hltx
            have hin := HG1.out G1[kx] (List.getElem_mem hltx)
            have hok := R6.out _ hin.1
            generalize G1[kx] = p at *
            obtain ⟨x, ps⟩ := p
            obtain ⟨hrd, hpl, hpn, hat0, hat1⟩ := hok
            have hg1 := fun W hW => gone_any x ps ta W hW (by dsimp only at hpl; omega) hpn hat0 (by dsimp only at hat1; omega) (by omega) (by omega)
            rw [show goneB x.at_ ps ta = true from hin.2] at hg1
            have hvw : View w6 (.slice x.A x.n x.c) ps.length (ps.flatMap prE) := hrd.1
            clear hin hrd hpl hpn hat0 hat1
            obtain ⟨fr, at_, qs, rt, A, n, c, tp, py⟩ := x
            dsimp only [msC] at hg1 hvw hcell
            have c0 : wr.cell? ⟨bb, off + kx * 7, none⟩ = some (.string ⟨fr.toArray⟩) := HFX.out.cell (hcell 0 _ rfl) (by simp)
            have c1 : wr.cell? ⟨bb, off + kx * 7 + 1, none⟩ = some (.int .i64 at_) := HFX.out.cell (hcell 1 _ rfl) (by simp)
            have c2 : wr.cell? ⟨bb, off + kx * 7 + 2, none⟩ = some (.int .u8 qs) := HFX.out.cell (hcell 2 _ rfl) (by simp)
            have c3 : wr.cell? ⟨bb, off + kx * 7 + 3, none⟩ = some (.bool rt) := HFX.out.cell (hcell 3 _ rfl) (by simp)
            have c4 : wr.cell? ⟨bb, off + kx * 7 + 4, none⟩ = some (.slice A n c) := HFX.out.cell (hcell 4 _ rfl) (by simp)
            have c5 : wr.cell? ⟨bb, off + kx * 7 + 5, none⟩ = some (.string ⟨tp.toArray⟩) := HFX.out.cell (hcell 5 _ rfl) (by simp)
            have c6 : wr.cell? ⟨bb, off + kx * 7 + 6, none⟩ = some (.string ⟨py.toArray⟩) := HFX.out.cell (hcell 6 _ rfl) (by simp)
            have HG := Lib.hid hg1
            have HV := Lib.hid hvw
            have fr1 := Lib.hid (HFX.out.alloc (.cells #[.string ⟨fr.toArray⟩, .int .i64 at_, .int .u8 qs, .bool rt, .slice A n c, .string ⟨tp.toArray⟩, .string ⟨py.toArray⟩] 29))
            clear hcell hc hg1 hvw
            go_wp2_with fail
            refine (HG.out _ (HV.out.fr fr1.out (by simp))).mono ?_
            rintro _ w7 ⟨rfl, g7⟩
            have fr2 := Lib.hid (fr1.out.trans g7 (by simp))
            clear g7
            go_wp2
            go_roundw
            case rel => exact ⟨kx + 1, by go_num, by omega, fr2.out⟩
            case measure => simp [intOf]; omega
          · obtain ⟨z, hz⟩ : ∃ z, z = wr := ⟨_, rfl⟩
            rw [← hz] at HFX ⊢
            clear hz
            go_wp2
            go_loopw [65] (fun i wq => ∃ k : Nat, i = .int .i64 k ∧ k ≤ G2.length ∧ Fr [] w6 wq) (fun i _ => G2.length - (intOf i).toNat)
            case atStart => exact ⟨0, rfl, by omega, HFX.out⟩
            case round =>
              obtain ⟨ky, rfl, hky, hfy⟩ := hrel
              have HFY := Lib.hid hfy
              clear hfy
              by_cases hlty : ky < G2.length
              · obtain ⟨bb, off, c', hsl, hbb, hc⟩ := HCY.out (by omega)
                cases hsl
                have hcell := hc ky hlty
                have hin := HG2.out G2[ky] (List.getElem_mem hlty)
                have hin1 := HS1.out _ hin.1
                have hok := R6.out _ hin1.1
                generalize G2[ky] = p at *
                obtain ⟨x, ps⟩ := p
                obtain ⟨hrd, hpl, hpn, hat0, hat1⟩ := hok
                have hg1 := fun W hW => gone_any x ps ta W hW (by dsimp only at hpl; omega) hpn hat0 (by dsimp only at hat1; omega) (by omega) (by omega)
                rw [show goneB x.at_ ps ta = false from hin1.2] at hg1
                have hg2 := fun W hW => gone_any x ps (ta + tb) W hW (by dsimp only at hpl; omega) hpn hat0 (by dsimp only at hat1; omega) (by omega) (by omega)
                rw [show goneB x.at_ ps (ta + tb) = true from hin.2] at hg2
                have hvw : View w6 (.slice x.A x.n x.c) ps.length (ps.flatMap prE) := hrd.1
                clear hin hin1 hrd hpl hpn hat0 hat1
                obtain ⟨fr, at_, qs, rt, A, n, c, tp, py⟩ := x
                dsimp only [msC] at hg1 hg2 hvw hcell
                have c0 : wr.cell? ⟨bb, off + ky * 7, none⟩ = some (.string ⟨fr.toArray⟩) := HFY.out.cell (hcell 0 _ rfl) (by simp)
                have c1 : wr.cell? ⟨bb, off + ky * 7 + 1, none⟩ = some (.int .i64 at_) := HFY.out.cell (hcell 1 _ rfl) (by simp)
                have c2 : wr.cell? ⟨bb, off + ky * 7 + 2, none⟩ = some (.int .u8 qs) := HFY.out.cell (hcell 2 _ rfl) (by simp)
                have c3 : wr.cell? ⟨bb, off + ky * 7 + 3, none⟩ = some (.bool rt) := HFY.out.cell (hcell 3 _ rfl) (by simp)
                have c4 : wr.cell? ⟨bb, off + ky * 7 + 4, none⟩ = some (.slice A n c) := HFY.out.cell (hcell 4 _ rfl) (by simp)
                have c5 : wr.cell? ⟨bb, off + ky * 7 + 5, none⟩ = some (.string ⟨tp.toArray⟩) := HFY.out.cell (hcell 5 _ rfl) (by simp)
                have c6 : wr.cell? ⟨bb, off + ky * 7 + 6, none⟩ = some (.string ⟨py.toArray⟩) := HFY.out.cell (hcell 6 _ rfl) (by simp)
                have HG := Lib.hid hg1
                have HH := Lib.hid hg2
                have HV := Lib.hid hvw
                have fr1 := Lib.hid (HFY.out.alloc (.cells #[.string ⟨fr.toArray⟩, .int .i64 at_, .int .u8 qs, .bool rt, .slice A n c, .string ⟨tp.toArray⟩, .string ⟨py.toArray⟩] 29))
                have hb1 := blk_new wr (.cells #[.string ⟨fr.toArray⟩, .int .i64 at_, .int .u8 qs, .bool rt, .slice A n c, .string ⟨tp.toArray⟩, .string ⟨py.toArray⟩] 29)
                clear hcell hc hg1 hg2 hvw
                go_wp2_with fail
                refine (HG.out _ (HV.out.fr fr1.out (by simp))).mono ?_
                rintro _ w7 ⟨rfl, g7⟩
                have fr2 := Lib.hid (fr1.out.trans g7 (by simp))
                clear c0 c1 c2 c3 c4 c5 c6
                obtain ⟨⟨c0, c1, c2, c3, c4, c5, c6⟩, _, _⟩ := blk7_facts (g7.blk hb1 (by simp))
                clear g7 hb1
                go_wp2_with fail
                refine (HH.out _ (HV.out.fr fr2.out (by simp))).mono ?_
                rintro _ w8 ⟨rfl, g8⟩
                have fr3 := Lib.hid (fr2.out.trans g8 (by simp))
                clear g8
                go_wp2
                go_roundw
                case rel => exact ⟨ky + 1, by go_num, by omega, fr3.out⟩
                case measure => simp [intOf]; omega
              · obtain ⟨z2, hz2⟩ : ∃ z2, z2 = wr := ⟨_, rfl⟩
                rw [← hz2] at HFY ⊢
                clear hz2
                have H9 := Lib.hid (H6.out.fr0 HFY.out)
                go_wp2_with fail
                refine (qlist_any _ _ _ _ _ _ H9.out (by rw [fsts_len]; omega)).mono ?_
                rintro _ w9 ⟨vl, rfl, ol, g9⟩
                have HCL := Lib.hid (fun h => row_at ol h)
                rw [fsts_len] at ol
                obtain ⟨Al, cl, rfl⟩ := own_shape ol
                have HF9 := Lib.hid (HFY.out.trans g9 (by simp))
                clear g9 ol
                go_wp2
                go_loopw [82] (fun i wq => ∃ k : Nat, i = .int .i64 k ∧ k ≤ S2.length ∧ Fr [] w6 wq ∧ Fr [] w9 wq) (fun i _ => S2.length - (intOf i).toNat)
                case atStart => exact ⟨0, rfl, by omega, HF9.out, Fr.refl _ _⟩
                case round =>
                  obtain ⟨kl, rfl, hkl, hfl, hfl9⟩ := hrel
                  have HFL := Lib.hid hfl
                  have HFL9 := Lib.hid hfl9
                  clear hfl hfl9
                  by_cases hltl : kl < S2.length
                  · obtain ⟨bb, off, c', hsl, hbb, hc⟩ := HCL.out (by omega)
                    cases hsl
                    have hcell := hc kl hltl
                    have hin := HS2.out S2[kl] (List.getElem_mem hltl)
                    have hin1 := HS1.out _ hin.1
                    have hok := R6.out _ hin1.1
                    generalize S2[kl] = p at *
                    obtain ⟨x, ps⟩ := p
                    obtain ⟨hrd, hpl, hpn, hat0, hat1⟩ := hok
                    have hg2 := fun W hW => gone_any x ps (ta + tb) W hW (by dsimp only at hpl; omega) hpn hat0 (by dsimp only at hat1; omega) (by omega) (by omega)
                    rw [show goneB x.at_ ps (ta + tb) = false from hin.2] at hg2
                    have hvw : View w6 (.slice x.A x.n x.c) ps.length (ps.flatMap prE) := hrd.1
                    clear hin hin1 hrd hpl hpn hat0 hat1
                    obtain ⟨fr, at_, qs, rt, A, n, c, tp, py⟩ := x
                    dsimp only [msC] at hg2 hvw hcell
                    have c0 : wr.cell? ⟨bb, off + kl * 7, none⟩ = some (.string ⟨fr.toArray⟩) := HFL9.out.cell (hcell 0 _ rfl) (by simp)
                    have c1 : wr.cell? ⟨bb, off + kl * 7 + 1, none⟩ = some (.int .i64 at_) := HFL9.out.cell (hcell 1 _ rfl) (by simp)
                    have c2 : wr.cell? ⟨bb, off + kl * 7 + 2, none⟩ = some (.int .u8 qs) := HFL9.out.cell (hcell 2 _ rfl) (by simp)
                    have c3 : wr.cell? ⟨bb, off + kl * 7 + 3, none⟩ = some (.bool rt) := HFL9.out.cell (hcell 3 _ rfl) (by simp)
                    have c4 : wr.cell? ⟨bb, off + kl * 7 + 4, none⟩ = some (.slice A n c) := HFL9.out.cell (hcell 4 _ rfl) (by simp)
                    have c5 : wr.cell? ⟨bb, off + kl * 7 + 5, none⟩ = some (.string ⟨tp.toArray⟩) := HFL9.out.cell (hcell 5 _ rfl) (by simp)
                    have c6 : wr.cell? ⟨bb, off + kl * 7 + 6, none⟩ = some (.string ⟨py.toArray⟩) := HFL9.out.cell (hcell 6 _ rfl) (by simp)
                    have HH := Lib.hid hg2
                    have HV := Lib.hid hvw
                    have fr1 := Lib.hid (HFL.out.alloc (.cells #[.string ⟨fr.toArray⟩, .int .i64 at_, .int .u8 qs, .bool rt, .slice A n c, .string ⟨tp.toArray⟩, .string ⟨py.toArray⟩] 29))
                    have fr9 := Lib.hid (HFL9.out.alloc (.cells #[.string ⟨fr.toArray⟩, .int .i64 at_, .int .u8 qs, .bool rt, .slice A n c, .string ⟨tp.toArray⟩, .string ⟨py.toArray⟩] 29))
                    clear hcell hc hg2 hvw
                    go_wp2_with fail
                    refine (HH.out _ (HV.out.fr fr1.out (by simp))).mono ?_
                    rintro _ w7 ⟨rfl, g7⟩
                    have fr2 := Lib.hid (fr1.out.trans g7 (by simp))
                    have fr29 := Lib.hid (fr9.out.trans g7 (by simp))
                    clear g7
                    go_wp2
                    go_roundw
                    case rel => exact ⟨kl + 1, by go_num, by omega, fr2.out, fr29.out⟩
                    case measure => simp [intOf]; omega
                  · obtain ⟨z3, hz3⟩ : ∃ z3, z3 = wr := ⟨_, rfl⟩
                    rw [← hz3] at HFL ⊢
                    clear hz3 HFL9
                    have H10 := Lib.hid (H6.out.fr0 HFL.out)
                    have hend : ((G1.length : Int) + (G2.length : Int) + (S2.length : Int) == (LL.length : Int)) = true := by rw [beq_iff_eq]; omega
                    go_wp2_with fail
                    refine (qlen_any _ _ _ _ _ _ H10.out).mono ?_
                    rintro _ _ ⟨rfl, rfl⟩
                    rw [fsts_len]
                    go_wp2
                    go_ret
                    exact ⟨rfl, F6.out.trans HFL.out (by simp)⟩
    · have hk1 : decide (k < f0.length) = false := by simpa using hlt
      go_wp2_with fail
      refine (tick_any a1 _).mono ?_
      rintro _ _ ⟨rfl, rfl⟩
      go_wp2_with fail
      refine (tick_any a2 _).mono ?_
      rintro _ _ ⟨rfl, rfl⟩
      have ht1 := tickN_le a1
      have ht2 := tickN_le a2
      generalize tickN a1 = ta at *
      generalize tickN a2 = tb at *
      go_wp2_with fail
      refine (qlen_any _ _ _ _ _ _ HQ.out).mono ?_
      rintro _ _ ⟨rfl, rfl⟩
      rw [fsts_len]
      go_wp2_with fail
      refine (qexpire_any Q Q v LL 50 ta _ HQ.out hQr (by omega) HR.out (by omega) (by omega)).mono ?_
      rintro _ w5 ⟨vx, vs, rfl, ox, hq5, g5⟩
      have F5 := Lib.hid (HF.out.trans g5 (by intro x hx h; simp at h; omega))
      have R5 := Lib.hid (mok_all HR.out g5 (fun k hk => HQ.out.nots k (by simp at hk; simp [hk])))
      have hs5 := g5.size
      have hxq := own_ne ox hq5.1 (by decide)
      have H5 := Lib.hid hq5
      clear g5 hq5
      have hG1 : ∀ p ∈ LL.filter (goneP ta), p ∈ LL ∧ goneP ta p = true := fun p hp => List.mem_filter.1 hp
      have hS1 : ∀ p ∈ LL.filter (fun p => !goneP ta p), p ∈ LL ∧ goneP ta p = false := fun p hp => by
        have := List.mem_filter.1 hp
        exact ⟨this.1, by simpa using this.2⟩
      have hsum1 : (LL.filter (goneP ta)).length + (LL.filter fun p => !goneP ta p).length = LL.length := by
        rw [← List.length_append]; exact (List.filter_append_perm (goneP ta) LL).length_eq
      generalize LL.filter (goneP ta) = G1 at *
      generalize LL.filter (fun p => !goneP ta p) = S1 at *
      have HG1 := Lib.hid hG1
      have HS1 := Lib.hid hS1
      clear hG1 hS1
      go_wp2_with fail
      refine (qexpire_any Q Q vs S1 50 (ta + tb) _ H5.out (by omega) (by omega) (fun p hp => R5.out p (HS1.out p hp).1) (by omega) (by omega)).mono ?_
      rintro _ w6 ⟨vy, vt, rfl, oy, hq6, g6⟩
      have F6 := Lib.hid (F5.out.trans g6 (by intro x hx h; simp at h; omega))
      have R6 := Lib.hid (mok_all R5.out g6 (fun k hk => H5.out.nots k (by simp at hk; simp [hk])))
      have ox6 := own_fr g6 ox (fun k hk h => by simp at h; subst h; exact hxq hk)
      have hs6 := g6.size
      have H6 := Lib.hid hq6
      clear g6 hq6 hxq ox
      have hG2 : ∀ p ∈ S1.filter (goneP (ta + tb)), p ∈ S1 ∧ goneP (ta + tb) p = true := fun p hp => List.mem_filter.1 hp
      have hS2 : ∀ p ∈ S1.filter (fun p => !goneP (ta + tb) p), p ∈ S1 ∧ goneP (ta + tb) p = false := fun p hp => by
        have := List.mem_filter.1 hp
        exact ⟨this.1, by simpa using this.2⟩
      have hsum2 : (S1.filter (goneP (ta + tb))).length + (S1.filter fun p => !goneP (ta + tb) p).length = S1.length := by
        rw [← List.length_append]; exact (List.filter_append_perm (goneP (ta + tb)) S1).length_eq
      generalize S1.filter (goneP (ta + tb)) = G2 at *
      generalize S1.filter (fun p => !goneP (ta + tb) p) = S2 at *
      have HG2 := Lib.hid hG2
      have HS2 := Lib.hid hS2
      clear hG2 hS2
      have HCX := Lib.hid (fun h => row_at ox6 h)
      have HCY := Lib.hid (fun h => row_at oy h)
      rw [fsts_len] at ox6 oy
      obtain ⟨Ax, cx, rfl⟩ := own_shape ox6
      obtain ⟨Ay, cy, rfl⟩ := own_shape oy
      have HOX := Lib.hid ox6
      clear ox6 oy
      go_wp2
      go_loopw [54] (fun i wq => ∃ k : Nat, i = .int .i64 k ∧ k ≤ G1.length ∧ Fr [] w6 wq) (fun i _ => G1.length - (intOf i).toNat)
      case atStart => exact ⟨0, rfl, by omega, Fr.refl _ _⟩
      case round =>
        obtain ⟨kx, rfl, hkx, hfx⟩ := hrel
        have HFX := Lib.hid hfx
        clear hfx
        by_cases hltx : kx < G1.length
        · obtain ⟨bb, off, c', hsl, hbb, hc⟩ := HCX.out (by omega)
          cases hsl
          have hcell := hc kx hltx
          have hin := HG1.out G1[kx] (List.getElem_mem hltx)
          have hok := R6.out _ hin.1
          generalize G1[kx] = p at *
          obtain ⟨x, ps⟩ := p
          obtain ⟨hrd, hpl, hpn, hat0, hat1⟩ := hok
          have hg1 := fun W hW => gone_any x ps ta W hW (by dsimp only at hpl; omega) hpn hat0 (by dsimp only at hat1; omega) (by omega) (by omega)
          rw [show goneB x.at_ ps ta = true from hin.2] at hg1
          have hvw : View w6 (.slice x.A x.n x.c) ps.length (ps.flatMap prE) := hrd.1
          clear hin hrd hpl hpn hat0 hat1
          obtain ⟨fr, at_, qs, rt, A, n, c, tp, py⟩ := x
          dsimp only [msC] at hg1 hvw hcell
          have c0 : wr.cell? ⟨bb, off + kx * 7, none⟩ = some (.string ⟨fr.toArray⟩) := HFX.out.cell (hcell 0 _ rfl) (by simp)
          have c1 : wr.cell? ⟨bb, off + kx * 7 + 1, none⟩ = some (.int .i64 at_) := HFX.out.cell (hcell 1 _ rfl) (by simp)
          have c2 : wr.cell? ⟨bb, off + kx * 7 + 2, none⟩ = some (.int .u8 qs) := HFX.out.cell (hcell 2 _ rfl) (by simp)
          have c3 : wr.cell? ⟨bb, off + kx * 7 + 3, none⟩ = some (.bool rt) := HFX.out.cell (hcell 3 _ rfl) (by simp)
          have c4 : wr.cell? ⟨bb, off + kx * 7 + 4, none⟩ = some (.slice A n c) := HFX.out.cell (hcell 4 _ rfl) (by simp)
          have c5 : wr.cell? ⟨bb, off + kx * 7 + 5, none⟩ = some (.string ⟨tp.toArray⟩) := HFX.out.cell (hcell 5 _ rfl) (by simp)
          have c6 : wr.cell? ⟨bb, off + kx * 7 + 6, none⟩ = some (.string ⟨py.toArray⟩) := HFX.out.cell (hcell 6 _ rfl) (by simp)
          have HG := Lib.hid hg1
          have HV := Lib.hid hvw
          have fr1 := Lib.hid (HFX.out.alloc (.cells #[.string ⟨fr.toArray⟩, .int .i64 at_, .int .u8 qs, .bool rt, .slice A n c, .string ⟨tp.toArray⟩, .string ⟨py.toArray⟩] 29))
          clear hcell hc hg1 hvw
          go_wp2_with fail
          refine (HG.out _ (HV.out.fr fr1.out (by simp))).mono ?_
          rintro _ w7 ⟨rfl, g7⟩
          have fr2 := Lib.hid (fr1.out.trans g7 (by simp))
          clear g7
          go_wp2
          go_roundw
          case rel => exact ⟨kx + 1, by go_num, by omega, fr2.out⟩
          case measure => simp [intOf]; omega
        · obtain ⟨z, hz⟩ : ∃ z, z = wr := ⟨_, rfl⟩
          rw [← hz] at HFX ⊢
          clear hz
          go_wp2
          go_loopw [65] (fun i wq => ∃ k : Nat, i = .int .i64 k ∧ k ≤ G2.length ∧ Fr [] w6 wq) (fun i _ => G2.length - (intOf i).toNat)
          case atStart => exact ⟨0, rfl, by omega, HFX.out⟩
          case round =>
            obtain ⟨ky, rfl, hky, hfy⟩ := hrel
            have HFY := Lib.hid hfy
            clear hfy
            by_cases hlty : ky < G2.length
            · obtain ⟨bb, off, c', hsl, hbb, hc⟩ := HCY.out (by omega)
              cases hsl
              have hcell := hc ky hlty
              have hin := HG2.out G2[ky] (List.getElem_mem hlty)
              have hin1 := HS1.out _ hin.1
              have hok := R6.out _ hin1.1
              generalize G2[ky] = p at *
              obtain ⟨x, ps⟩ := p
              obtain ⟨hrd, hpl, hpn, hat0, hat1⟩ := hok
              have hg1 := fun W hW => gone_any x ps ta W hW (by dsimp only at hpl; omega) hpn hat0 (by dsimp only at hat1; omega) (by omega) (by omega)
              rw [show goneB x.at_ ps ta = false from hin1.2] at hg1
              have hg2 := fun W hW => gone_any x ps (ta + tb) W hW (by dsimp only at hpl; omega) hpn hat0 (by dsimp only at hat1; omega) (by omega) (by omega)
              rw [show goneB x.at_ ps (ta + tb) = true from hin.2] at hg2
              have hvw : View w6 (.slice x.A x.n x.c) ps.length (ps.flatMap prE) := hrd.1
              clear hin hin1 hrd hpl hpn hat0 hat1
              obtain ⟨fr, at_, qs, rt, A, n, c, tp, py⟩ := x
              dsimp only [msC] at hg1 hg2 hvw hcell
              have c0 : wr.cell? ⟨bb, off + ky * 7, none⟩ = some (.string ⟨fr.toArray⟩) := HFY.out.cell (hcell 0 _ rfl) (by simp)
              have c1 : wr.cell? ⟨bb, off + ky * 7 + 1, none⟩ = some (.int .i64 at_) := HFY.out.cell (hcell 1 _ rfl) (by simp)
              have c2 : wr.cell? ⟨bb, off + ky * 7 + 2, none⟩ = some (.int .u8 qs) := HFY.out.cell (hcell 2 _ rfl) (by simp)
              have c3 : wr.cell? ⟨bb, off + ky * 7 + 3, none⟩ = some (.bool rt) := HFY.out.cell (hcell 3 _ rfl) (by simp)
              have c4 : wr.cell? ⟨bb, off + ky * 7 + 4, none⟩ = some (.slice A n c) := HFY.out.cell (hcell 4 _ rfl) (by simp)
              have c5 : wr.cell? ⟨bb, off + ky * 7 + 5, none⟩ = some (.string ⟨tp.toArray⟩) := HFY.out.cell (hcell 5 _ rfl) (by simp)
              have c6 : wr.cell? ⟨bb, off + ky * 7 + 6, none⟩ = some (.string ⟨py.toArray⟩) := HFY.out.cell (hcell 6 _ rfl) (by simp)
              have HG := Lib.hid hg1
              have HH := Lib.hid hg2
              have HV := Lib.hid hvw
              have fr1 := Lib.hid (HFY.out.alloc (.cells #[.string ⟨fr.toArray⟩, .int .i64 at_, .int .u8 qs, .bool rt, .slice A n c, .string ⟨tp.toArray⟩, .string ⟨py.toArray⟩] 29))
              have hb1 := blk_new wr (.cells #[.string ⟨fr.toArray⟩, .int .i64 at_, .int .u8 qs, .bool rt, .slice A n c, .string ⟨tp.toArray⟩, .string ⟨py.toArray⟩] 29)
              clear hcell hc hg1 hg2 hvw
              go_wp2_with fail
              refine (HG.out _ (HV.out.fr fr1.out (by simp))).mono ?_
              rintro _ w7 ⟨rfl, g7⟩
              have fr2 := Lib.hid (fr1.out.trans g7 (by simp))
              clear c0 c1 c2 c3 c4 c5 c6
              obtain ⟨⟨c0, c1, c2, c3, c4, c5, c6⟩, _, _⟩ := blk7_facts (g7.blk hb1 (by simp))
              clear g7 hb1
              go_wp2_with fail
              refine (HH.out _ (HV.out.fr fr2.out (by simp))).mono ?_
              rintro _ w8 ⟨rfl, g8⟩
              have fr3 := Lib.hid (fr2.out.trans g8 (by simp))
              clear g8
              go_wp2
              go_roundw
              case rel => exact ⟨ky + 1, by go_num, by omega, fr3.out⟩
              case measure => simp [intOf]; omega
            · obtain ⟨z2, hz2⟩ : ∃ z2, z2 = wr := ⟨_, rfl⟩
              rw [← hz2] at HFY ⊢
              clear hz2
              have H9 := Lib.hid (H6.out.fr0 HFY.out)
              go_wp2_with fail
              refine (qlist_any _ _ _ _ _ _ H9.out (by rw [fsts_len]; omega)).mono ?_
              rintro _ w9 ⟨vl, rfl, ol, g9⟩
              have HCL := Lib.hid (fun h => row_at ol h)
              rw [fsts_len] at ol
              obtain ⟨Al, cl, rfl⟩ := own_shape ol
              have HF9 := Lib.hid (HFY.out.trans g9 (by simp))
              clear g9 ol
              go_wp2
              go_loopw [82] (fun i wq => ∃ k : Nat, i = .int .i64 k ∧ k ≤ S2.length ∧ Fr [] w6 wq ∧ Fr [] w9 wq) (fun i _ => S2.length - (intOf i).toNat)
              case atStart => exact ⟨0, rfl, by omega, HF9.out, Fr.refl _ _⟩
              case round =>
                obtain ⟨kl, rfl, hkl, hfl, hfl9⟩ := hrel
                have HFL := Lib.hid hfl
                have HFL9 := Lib.hid hfl9
                clear hfl hfl9
                by_cases hltl : kl < S2.length
                · obtain ⟨bb, off, c', hsl, hbb, hc⟩ := HCL.out (by omega)
                  cases hsl
                  have hcell := hc kl hltl
                  have hin := HS2.out S2[kl] (List.getElem_mem hltl)
                  have hin1 := HS1.out _ hin.1
                  have hok := R6.out _ hin1.1
                  generalize S2[kl] = p at *
                  obtain ⟨x, ps⟩ := p
                  obtain ⟨hrd, hpl, hpn, hat0, hat1⟩ := hok
                  have hg2 := fun W hW => gone_any x ps (ta + tb) W hW (by dsimp only at hpl; omega) hpn hat0 (by dsimp only at hat1; omega) (by omega) (by omega)
                  rw [show goneB x.at_ ps (ta + tb) = false from hin.2] at hg2
                  have hvw : View w6 (.slice x.A x.n x.c) ps.length (ps.flatMap prE) := hrd.1
                  clear hin hin1 hrd hpl hpn hat0 hat1
                  obtain ⟨fr, at_, qs, rt, A, n, c, tp, py⟩ := x
                  dsimp only [msC] at hg2 hvw hcell
                  have c0 : wr.cell? ⟨bb, off + kl * 7, none⟩ = some (.string ⟨fr.toArray⟩) := HFL9.out.cell (hcell 0 _ rfl) (by simp)
                  have c1 : wr.cell? ⟨bb, off + kl * 7 + 1, none⟩ = some (.int .i64 at_) := HFL9.out.cell (hcell 1 _ rfl) (by simp)
                  have c2 : wr.cell? ⟨bb, off + kl * 7 + 2, none⟩ = some (.int .u8 qs) := HFL9.out.cell (hcell 2 _ rfl) (by simp)
                  have c3 : wr.cell? ⟨bb, off + kl * 7 + 3, none⟩ = some (.bool rt) := HFL9.out.cell (hcell 3 _ rfl) (by simp)
                  have c4 : wr.cell? ⟨bb, off + kl * 7 + 4, none⟩ = some (.slice A n c) := HFL9.out.cell (hcell 4 _ rfl) (by simp)
                  have c5 : wr.cell? ⟨bb, off + kl * 7 + 5, none⟩ = some (.string ⟨tp.toArray⟩) := HFL9.out.cell (hcell 5 _ rfl) (by simp)
                  have c6 : wr.cell? ⟨bb, off + kl * 7 + 6, none⟩ = some (.string ⟨py.toArray⟩) := HFL9.out.cell (hcell 6 _ rfl) (by simp)
                  have HH := Lib.hid hg2
                  have HV := Lib.hid hvw
                  have fr1 := Lib.hid (HFL.out.alloc (.cells #[.string ⟨fr.toArray⟩, .int .i64 at_, .int .u8 qs, .bool rt, .slice A n c, .string ⟨tp.toArray⟩, .string ⟨py.toArray⟩] 29))
                  have fr9 := Lib.hid (HFL9.out.alloc (.cells #[.string ⟨fr.toArray⟩, .int .i64 at_, .int .u8 qs, .bool rt, .slice A n c, .string ⟨tp.toArray⟩, .string ⟨py.toArray⟩] 29))
                  clear hcell hc hg2 hvw
                  go_wp2_with fail
                  refine (HH.out _ (HV.out.fr fr1.out (by simp))).mono ?_
                  rintro _ w7 ⟨rfl, g7⟩
                  have fr2 := Lib.hid (fr1.out.trans g7 (by simp))
                  have fr29 := Lib.hid (fr9.out.trans g7 (by simp))
                  clear g7
                  go_wp2
                  go_roundw
                  case rel => exact ⟨kl + 1, by go_num, by omega, fr2.out, fr29.out⟩
                  case measure => simp [intOf]; omega
                · obtain ⟨z3, hz3⟩ : ∃ z3, z3 = wr := ⟨_, rfl⟩
                  rw [← hz3] at HFL ⊢
                  clear hz3 HFL9
                  have H10 := Lib.hid (H6.out.fr0 HFL.out)
                  have hend : ((G1.length : Int) + (G2.length : Int) + (S2.length : Int) == (LL.length : Int)) = true := by rw [beq_iff_eq]; omega
                  go_wp2_with fail
                  refine (qlen_any _ _ _ _ _ _ H10.out).mono ?_
                  rintro _ _ ⟨rfl, rfl⟩
                  rw [fsts_len]
                  go_wp2
                  go_ret
                  exact ⟨rfl, F6.out.trans HFL.out (by simp)⟩
end Go.Proofs.Ytnplinohoflabaa
