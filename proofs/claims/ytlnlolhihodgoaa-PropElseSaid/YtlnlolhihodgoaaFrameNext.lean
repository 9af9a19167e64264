/- What Reader.Next comes to: 'nextR'. -/
import Derived.Test.YtlnlolhihodgoaaFrame
import Derived.Test.YtlnlolhihodgoaaWord
import Derived.Deep.RegionWith
import Derived.Deep.RegionHeld3
import Derived.Deep.DeepCutAuto
import Derived.BigQuiet
namespace Go.Proofs.Ytlnlolhihodgoaa
open Go.RowKit

theorem chkE_two (k f : Int) (h : ¬ chkE k f = 0) : chkE k f = 2 := by
  unfold chkE at h ⊢
  split
  · rename_i h1; rw [if_pos h1] at h; exact absurd rfl h
  · rfl
theorem nextR_go (m : Int) (s : List UInt8) (c n : Nat) (q : Rd) (h0 : s ≠ []) (hc : (s.getD 0 0).toNat = c) (hk : chkE ((c / 16 : Nat) : Int) ((c % 16 : Nat) : Int) = 0) (hq : Rd.var ⟨s.drop 1, 0⟩ = (n, q)) :
    nextR m s 0 = if q.e = 1 then noF 1 s 0 else if q.e ≠ 0 then noF q.e [] q.e else if m < 1 + (var n).length + n then noF 4 [] 4
      else if q.s.length < n then noF 1 s 0 else ⟨((c / 16 : Nat) : Int), ((c % 16 : Nat) : Int), q.s.take n, 0, q.s.drop n, 0⟩ := by
  have h1 : ¬ chkE ((c / 16 : Nat) : Int) ((c % 16 : Nat) : Int) ≠ 0 := fun h => h hk
  rw [nextR, if_neg (fun h => h rfl), if_neg h0, hc, if_neg h1, hq]
theorem varGo_lt : ∀ (j u v : Nat) (r : Rd), v < u → (Rd.varGo u v j r).1 < 128 ^ (j + 1) * u := by
  intro j
  induction j with
  | zero =>
    intro u v r h
    rw [Rd.varGo]
    split
    · show 0 < _; omega
    split
    · split
      · show 0 < _; omega
      · rename_i h1 _
        have := Nat.mul_le_mul_right u (Nat.le_of_lt_succ h1)
        show v + _ * u < _; omega
    · show 0 < _; omega
  | succ j ih =>
    intro u v r h
    have hp : 0 < 128 ^ (j + 1) := Nat.pow_pos (by decide)
    have e : 128 ^ (j + 1 + 1) * u = 128 ^ (j + 1) * (u * 128) := by rw [Nat.pow_succ, Nat.mul_assoc, Nat.mul_comm 128 u]
    have h0 : u * 128 ≤ 128 ^ (j + 1) * (u * 128) := Nat.le_mul_of_pos_left _ hp
    rw [Rd.varGo, e]
    split
    · show 0 < _; omega
    split
    · split
      · show 0 < _; omega
      · rename_i h1 _
        have := Nat.mul_le_mul_right u (Nat.le_of_lt_succ h1)
        show v + _ * u < _; omega
    · refine ih _ _ _ ?_
      have : (Rd.num r 1).1 % 128 ≤ 127 := by omega
      have := Nat.mul_le_mul_right u this
      omega
theorem var_lt (r : Rd) : (Rd.var r).1 < 268435456 := varGo_lt 3 1 0 r (by decide)
theorem varGo_left2 (j : Nat) : ∀ (u v : Nat) (r : Rd), (Rd.varGo u v j r).2.s.length ≤ r.s.length := by
  induction j with
  | zero =>
    intro u v r
    have h := Rd.raw_left r 1
    rw [Rd.varGo]
    split
    · exact h
    split
    · split <;> exact h
    · exact h
  | succ j ih =>
    intro u v r
    have h := Rd.raw_left r 1
    rw [Rd.varGo]
    split
    · exact h
    split
    · split <;> exact h
    · exact Nat.le_trans (ih _ _ _) h

set_option maxRecDepth 100000 in
set_option maxHeartbeats 1500000 in
theorem next_any (b : Nat) (m : Int) (s : List UInt8) (x : Int) (w : World) (h : RdrAt w b m s x) (hs : s.length ≤ 9223372036854775807) :
    Calls Try.prog 21 #[.pointer (some ⟨b, 0, none⟩)] w fun e w' => e = .returned (.tuple #[.agg #[.int .i64 (nextR m s x).k, .int .i64 (nextR m s x).f, .string ⟨(nextR m s x).b.toArray⟩], .int .i64 (nextR m s x).e]) ∧ RdrAt w' b m (nextR m s x).s (nextR m s x).x ∧ Fr [b] w w' := by
  obtain ⟨⟨c0, c1, c2⟩, ⟨f0, f1, f2⟩, hb⟩ := blk3_facts h.blk
  have H := Lib.hid h
  clear h
  by_cases hx : x = 0
  · subst hx
    by_cases hn : s = []
    · have HG : Hid (nextR m s 0 = noF 1 s 0) := Lib.hid (by rw [nextR, if_neg (by simp), if_pos hn])
      subst hn
      go_enter Try.func21, Try.ntmps21
      go_wp2
      refine bodyPost_ret (v := .tuple #[.agg #[.int .i64 0, .int .i64 0, .string ⟨[].toArray⟩], .int .i64 1]) (by simp [results, Try.results21, go_sem, *]) rfl ?_
      rw [HG.out]
      exact ⟨rfl, H.out.fr (S := []) (by repeat (first | exact Fr.refl _ _ | (with_reducible apply Fr.alloc) | (with_reducible apply Fr.drew) | (with_reducible apply Fr.drewN) | (with_reducible refine Fr.setCell ?_ (by simp) _))) (by simp), (by repeat (first | exact Fr.refl _ _ | (with_reducible apply Fr.alloc) | (with_reducible apply Fr.drew) | (with_reducible apply Fr.drewN) | (with_reducible refine Fr.setCell ?_ (by simp) _)))⟩
    · have hne : s.isEmpty = false := by simpa using hn
      have hl0 : 0 < s.length := List.length_pos_iff.2 hn
      obtain ⟨c, hc⟩ : ∃ c, (s.getD 0 0).toNat = c := ⟨_, rfl⟩
      have hc0 := idx_nat s 0
      have hcl : c < 256 := by rw [← hc]; exact (s.getD 0 0).toNat_lt
      rw [hc] at hc0
      have HC := Lib.hid hc
      have HN := Lib.hid hn
      have e1 := and_i64 4 (c : Int) 15 (by decide) (by decide) (by omega) (by omega)
      clear hc hn
      go_enter Try.func21, Try.ntmps21
      go_wp2_with fail
      refine (check_any _ _ _ (by omega) (by omega)).mono ?_
      rintro _ w1 ⟨rfl, rfl⟩
      rw [show (c : Int) / 16 = ((c / 16 : Nat) : Int) from by omega, show (c : Int) % 16 = ((c % 16 : Nat) : Int) from by omega]
      by_cases hk : chkE ((c / 16 : Nat) : Int) ((c % 16 : Nat) : Int) = 0
      · rw [hk]
        go_wp2_with fail
        rw [ex_drop _ _ _ (Nat.le_refl _)]
        refine (over_any (s.drop 1) _).mono ?_
        rintro _ w2 ⟨rfl, hi2, hf2⟩
        have hP : (w.alloc (.cells #[.int .i64 0, .int .i64 0, .string ⟨[].toArray⟩] 39)).heap.size = w.heap.size + 1 := by simp
        rw [hP] at hi2 ⊢
        clear hP
        go_wp2_with fail
        refine (invar_any _ _ _ hi2 (by show (s.drop 1).length ≤ _; rw [List.length_drop]; omega)).mono ?_
        rintro _ w3 ⟨rfl, hi3, hf3⟩
        have hvl := var_lt ⟨s.drop 1, 0⟩
        have hvs : (Rd.var ⟨s.drop 1, 0⟩).2.s.length ≤ s.length := Nat.le_trans (varGo_left2 3 1 0 ⟨s.drop 1, 0⟩) (by simp)
        obtain ⟨⟨n, q⟩, hq⟩ : ∃ x, Rd.var ⟨s.drop 1, 0⟩ = x := ⟨_, rfl⟩
        rw [hq] at hvl hvs hi3 ⊢
        dsimp only at hvl hvs hi3 ⊢
        have HG := Lib.hid (nextR_go m s c n q HN.out HC.out hk hq)
        clear hq hk
        have hff : Fr [] w w3 := (Fr.alloc (Fr.refl [] w) _).trans (hf2.trans hf3 (by simp; omega)) (by simp)
        have hrf := (hf2.trans hf3 (S := []) (by simp; omega)).blk (b := w.heap.size) (blk_new w _) (by simp)
        have h3 : RdrAt w3 b m s 0 := H.out.fr hff (by simp)
        clear c0 c1 c2 f0 f1 f2 hf2 hf3 hi2 H
        have HR := Lib.hid hrf
        obtain ⟨⟨c0, c1, c2⟩, ⟨f0, f1, f2⟩, hb3⟩ := blk3_facts h3.blk
        obtain ⟨⟨r0, r1, r2⟩, ⟨p0, p1, p2⟩, hbr⟩ := blk3_facts hrf
        have H3 := Lib.hid h3
        have HI := Lib.hid hi3
        clear h3 hi3 hrf
        go_wp2_with fail
        refine (err_any _ _ _ HI.out).mono ?_
        rintro _ w4 ⟨rfl, rfl⟩
        by_cases q1 : q.e = 1
        · have HG2 := Lib.hid (HG.out.trans (if_pos q1))
          have t1 : (q.e == 1) = true := by simpa using q1
          have HQ := Lib.hid q1
          clear q1
          go_wp2
          refine bodyPost_ret (v := .tuple #[.agg #[.int .i64 0, .int .i64 0, .string ⟨[].toArray⟩], .int .i64 q.e]) (by simp [results, Try.results21, go_sem, *]) rfl ?_
          rw [HG2.out, HQ.out]
          have hff2 : Fr [b] w w3 := hff.mono (by simp)
          exact ⟨rfl, H3.out.fr (S := [w.heap.size]) (by repeat (first | exact Fr.refl _ _ | (with_reducible apply Fr.alloc) | (with_reducible refine Fr.setCell ?_ (Or.inr (by simp)) _))) (by simp; omega), (by repeat (first | assumption | (with_reducible apply Fr.alloc) | (with_reducible refine Fr.setCell ?_ (Or.inl (by simp)) _)))⟩
        by_cases q0 : q.e = 0
        · have HG2 := Lib.hid ((HG.out.trans (if_neg q1)).trans (if_neg (by simp [q0])))
          have t1 : (q.e == 1) = false := by simpa using q1
          have t2 : (q.e != 0) = false := by simpa using q0
          clear q1
          have hff2 : Fr [b] w w3 := hff.mono (by simp)
          have Q0 := Lib.hid q0
          clear q0 hff
          go_upto_region 16 with (fail)
          by_cases hbig : m < 1 + (var n).length + n
          · have HG3 := Lib.hid (HG2.out.trans (if_pos hbig))
            have d1 : decide (m < 1 + (var n).length + n) = true := by simpa using hbig
            clear hbig
            go_region_held3 (fun w' => w'.cell? ⟨b, 0, none⟩ = some (.int .i64 m)) (first | go_keep | exact y0) (first | (go_at_call 25; refine (fsize_any n _ (by omega)).mono ?_; rintro _ x1 ⟨rfl, g1⟩; have y0 := g1.cell (a := ⟨b, 0, none⟩) c0 (by simp)))
            go_wp2_with fail
            have h4 : RdrAt x1 b m s 0 := ⟨g1.blk (b := b) H3.out.blk (by simp)⟩
            have HR4 := Lib.hid (g1.blk (b := w.heap.size) HR.out (by simp))
            have hi4 : InAt x1 (w.heap.size + 1) q := g1.blk (b := w.heap.size + 1) HI.out (by simp)
            replace hff2 : Fr [b] w x1 := hff2.drew.trans g1 (by simp)
            have hsz := g1.size
            have hbx : w.heap.size < x1.heap.size := blk_lt HR4.out
            clear c0 c1 c2 f0 f1 f2 r0 r1 r2 p0 p1 p2 y0 g1 hb3 hbr
            refine (ffail_any b m s 0 4 _ h4).mono ?_
            rintro _ w5 ⟨rfl, h5, hf5⟩
            obtain ⟨⟨r0, r1, r2⟩, ⟨p0, p1, p2⟩, hbr⟩ := blk3_facts (hf5.blk HR4.out (by simp; omega))
            go_wp2
            refine bodyPost_ret (v := .tuple #[.agg #[.int .i64 0, .int .i64 0, .string ⟨[].toArray⟩], .int .i64 4]) (by simp [results, Try.results21, go_sem, *]) rfl ?_
            rw [HG3.out]
            replace hff2 := hff2.trans hf5 (by simp)
            exact ⟨rfl, h5.fr (S := [w.heap.size]) (by repeat (first | exact Fr.refl _ _ | (with_reducible apply Fr.alloc) | (with_reducible refine Fr.setCell ?_ (Or.inr (by simp)) _))) (by simp; omega), (by repeat (first | assumption | (with_reducible apply Fr.alloc) | (with_reducible refine Fr.setCell ?_ (Or.inl (by simp)) _)))⟩
          · have HG3 := Lib.hid (HG2.out.trans (if_neg hbig))
            have d1 : decide (m < 1 + (var n).length + n) = false := by simpa using hbig
            clear hbig
            go_region_held3 (fun w' => w'.cell? ⟨b, 0, none⟩ = some (.int .i64 m)) (first | go_keep | exact y0) (first | (go_at_call 25; refine (fsize_any n _ (by omega)).mono ?_; rintro _ x1 ⟨rfl, g1⟩; have y0 := g1.cell (a := ⟨b, 0, none⟩) c0 (by simp)))
            go_wp2_with fail
            have h4 : RdrAt x1 b m s 0 := ⟨g1.blk (b := b) H3.out.blk (by simp)⟩
            have HR4 := Lib.hid (g1.blk (b := w.heap.size) HR.out (by simp))
            have hi4 : InAt x1 (w.heap.size + 1) q := g1.blk (b := w.heap.size + 1) HI.out (by simp)
            replace hff2 : Fr [b] w x1 := hff2.drew.trans g1 (by simp)
            have hsz := g1.size
            have hbx : w.heap.size < x1.heap.size := blk_lt HR4.out
            clear c0 c1 c2 f0 f1 f2 r0 r1 r2 p0 p1 p2 y0 g1 hb3 hbr
            refine (left_any _ _ _ hi4).mono ?_
            rintro _ w5 ⟨rfl, rfl⟩
            by_cases hsh : q.s.length < n
            · have HG4 := Lib.hid (HG3.out.trans (if_pos hsh))
              have d2 : q.s.length < n := hsh
              clear hsh
              obtain ⟨⟨r0, r1, r2⟩, ⟨p0, p1, p2⟩, hbr⟩ := blk3_facts HR4.out
              go_wp2
              refine bodyPost_ret (v := .tuple #[.agg #[.int .i64 0, .int .i64 0, .string ⟨[].toArray⟩], .int .i64 1]) (by simp [results, Try.results21, go_sem, *]) rfl ?_
              rw [HG4.out]
              exact ⟨rfl, h4.fr (S := [w.heap.size]) (by repeat (first | exact Fr.refl _ _ | (with_reducible apply Fr.alloc) | (with_reducible refine Fr.setCell ?_ (Or.inr (by simp)) _))) (by simp; omega), (by repeat (first | assumption | (with_reducible apply Fr.alloc) | (with_reducible refine Fr.setCell ?_ (Or.inl (by simp)) _)))⟩
            · have HG4 := Lib.hid (HG3.out.trans (if_neg hsh))
              have d2 : ¬ q.s.length < n := hsh
              have hn : n ≤ q.s.length := by omega
              clear hsh
              go_wp2_with fail
              refine (raw_any _ q n _ hi4 (by omega)).mono ?_
              rintro _ w6 ⟨rfl, hi6, hf6⟩
              rw [Int.toNat_natCast, Rd.raw_ok q n Q0.out hn] at hi6 ⊢
              dsimp only at hi6 ⊢
              go_wp2_with fail
              refine (rest_any _ ⟨q.s.drop n, 0⟩ _ (hi6.fr ((Fr.refl [] _).alloc _) (by simp)) (by show (q.s.drop n).length ≤ _; rw [List.length_drop]; omega)).mono ?_
              rintro _ w7 ⟨rfl, hi7, hf7⟩
              rw [Rd.raw_ok _ _ rfl (Nat.le_refl _)]
              dsimp only
              rw [List.take_length]
              have hB := hf7.blk (b := b) (blk_old (hf6.blk h4.blk (by simp; omega)) _) (by simp; omega)
              have hRR := hf7.blk (b := w.heap.size) (blk_old (hf6.blk HR4.out (by simp)) _) (by simp)
              have hFF := hf7.blk (b := w6.heap.size) (blk_new w6 _) (by have := blk_lt hi6; simp; omega)
              have hff7 : Fr [b] w w7 := hff2.trans ((hf6.trans ((Fr.refl [] w6).alloc _) (by simp)).trans hf7 (T := [w.heap.size + 1]) (S := [w.heap.size + 1]) (by simp)) (by simp; omega)
              have h7 := blk_lt hB
              have h7r := blk_lt hRR
              obtain ⟨⟨c0, c1, c2⟩, ⟨f0, f1, f2⟩, _⟩ := blk3_facts hB
              obtain ⟨⟨r0, r1, r2⟩, ⟨p0, p1, p2⟩, _⟩ := blk3_facts hRR
              obtain ⟨⟨s0, s1, s2⟩, ⟨o0, o1, o2⟩, _⟩ := blk3_facts hFF
              have h5 : RdrAt (w7.setCell ⟨b, 1, none⟩ (.string ⟨(q.s.drop n).toArray⟩)) b m (q.s.drop n) 0 := ⟨blk_set hB 1 _⟩
              have hff5 : Fr [b] w (w7.setCell ⟨b, 1, none⟩ (.string ⟨(q.s.drop n).toArray⟩)) := hff7.setCell (Or.inr (by simp)) _
              have hbF : w6.heap.size ≠ b := by have := blk_lt h4.blk; have := hf6.size; omega
              have H5 := Lib.hid h5
              have HF5 := Lib.hid hff5
              have hb6 := blk_lt hi6
              clear hB hRR hFF hi7 hf7 hi6 hf6 h4 hi4 hff2 hff7 h5 hff5
              generalize w6.heap.size = F at *
              go_wp2
              refine bodyPost_ret (v := .tuple #[.agg #[.int .i64 ((c / 16 : Nat) : Int), .int .i64 ((c % 16 : Nat) : Int), .string ⟨(q.s.take n).toArray⟩], .int .i64 0]) (by simp [results, Try.results21, go_sem, *]) rfl ?_
              rw [HG4.out]
              exact ⟨rfl, H5.out.fr (S := [w.heap.size]) (by repeat (first | exact Fr.refl _ _ | (with_reducible apply Fr.alloc) | (with_reducible refine Fr.setCell ?_ (Or.inr (by simp)) _))) (by simp; omega), (by repeat (first | assumption | (with_reducible apply Fr.alloc) | (with_reducible refine Fr.setCell ?_ (Or.inl (by simp)) _)))⟩
        · have HG2 := Lib.hid ((HG.out.trans (if_neg q1)).trans (if_pos q0))
          have t1 : (q.e == 1) = false := by simpa using q1
          have t2 : (q.e != 0) = true := by simpa using q0
          clear q1 q0
          go_wp2_with fail
          refine (ffail_any b m s 0 q.e _ H3.out).mono ?_
          rintro _ w5 ⟨rfl, h5, hf5⟩
          obtain ⟨⟨r0, r1, r2⟩, ⟨p0, p1, p2⟩, hbr⟩ := blk3_facts (hf5.blk HR.out (by simp; omega))
          clear c0 c1 c2 f0 f1 f2
          go_wp2
          refine bodyPost_ret (v := .tuple #[.agg #[.int .i64 0, .int .i64 0, .string ⟨[].toArray⟩], .int .i64 q.e]) (by simp [results, Try.results21, go_sem, *]) rfl ?_
          rw [HG2.out]
          have hff2 : Fr [b] w w5 := (hff.mono (by simp)).trans hf5 (by simp)
          exact ⟨rfl, h5.fr (S := [w.heap.size]) (by repeat (first | exact Fr.refl _ _ | (with_reducible apply Fr.alloc) | (with_reducible refine Fr.setCell ?_ (Or.inr (by simp)) _))) (by simp; omega), (by repeat (first | assumption | (with_reducible apply Fr.alloc) | (with_reducible refine Fr.setCell ?_ (Or.inl (by simp)) _)))⟩
      · have HG : Hid (nextR m s 0 = noF 2 [] 2) := Lib.hid (by rw [nextR, if_neg (by simp), if_neg HN.out, HC.out, if_pos hk])
        rw [chkE_two _ _ hk]
        clear hk
        go_wp2_with fail
        refine (ffail_any b m s 0 2 _ (H.out.fr (S := []) (by repeat (first | exact Fr.refl _ _ | (with_reducible apply Fr.alloc) | (with_reducible apply Fr.drew) | (with_reducible apply Fr.drewN) | (with_reducible refine Fr.setCell ?_ (by simp) _))) (by simp))).mono ?_
        rintro _ w2 ⟨rfl, h2, hf2⟩
        obtain ⟨⟨r0, r1, r2⟩, ⟨p0, p1, p2⟩, hbr⟩ := blk3_facts (hf2.blk (b := w.heap.size) (blk_new _ _) (by simp; omega))
        clear c0 c1 c2 f0 f1 f2
        go_wp2
        refine bodyPost_ret (v := .tuple #[.agg #[.int .i64 0, .int .i64 0, .string ⟨[].toArray⟩], .int .i64 2]) (by simp [results, Try.results21, go_sem, *]) rfl ?_
        rw [HG.out]
        have hff : Fr [b] w w2 := ((Fr.refl [b] w).alloc _).trans hf2 (by simp)
        exact ⟨rfl, h2.fr (S := [w.heap.size]) (by repeat (first | exact Fr.refl _ _ | (with_reducible apply Fr.alloc) | (with_reducible refine Fr.setCell ?_ (Or.inr (by simp)) _))) (by simp; omega), (by repeat (first | assumption | (with_reducible apply Fr.alloc) | (with_reducible refine Fr.setCell ?_ (Or.inl (by simp)) _)))⟩
  · have hx1 : (x != 0) = true := by simpa using hx
    have HG : Hid (nextR m s x = noF x s x) := Lib.hid (by rw [nextR, if_pos hx])
    clear hx
    go_enter Try.func21, Try.ntmps21
    go_wp2_with fail
    go_region
    go_wp2
    refine bodyPost_ret (v := .tuple #[.agg #[.int .i64 0, .int .i64 0, .string ⟨[].toArray⟩], .int .i64 x]) (by simp [results, Try.results21, go_sem, *]) rfl ?_
    rw [HG.out]
    exact ⟨rfl, H.out.fr (S := []) (by repeat (first | exact Fr.refl _ _ | (with_reducible apply Fr.alloc) | (with_reducible apply Fr.drew) | (with_reducible apply Fr.drewN) | (with_reducible refine Fr.setCell ?_ (by simp) _))) (by simp), (by repeat (first | exact Fr.refl _ _ | (with_reducible apply Fr.alloc) | (with_reducible apply Fr.drew) | (with_reducible apply Fr.drewN) | (with_reducible refine Fr.setCell ?_ (by simp) _)))⟩
end Go.Proofs.Ytlnlolhihodgoaa
