/- What 'take' of the law package of layer 1 does: the reader and the reference's cursor go the same way, and the answers are alike. Conditions: numbers within their kinds, strings that may be. -/
import Derived.Test.YtpbdngcngnkfmaaLawA
import Derived.Test.YtpbdngcngnkfmaaRefA
namespace Go.Proofs.Ytpbdngcngnkfmaa
open Go.RowKit

def takeR (k : Int) (n : Nat) (r : Rd) : Rd :=
  if k = 1 then (r.num 1).2 else if k = 2 then (r.num 2).2 else if k = 3 then (r.num 4).2 else if k = 4 then r.var.2 else if k = 5 then (r.raw (n % 20 - 2)).2 else if k = 6 then r.data.2 else r
theorem varGo_left (j : Nat) : ∀ (u v : Nat) (r : Rd), (Rd.varGo u v j r).2.s.length ≤ r.s.length := by
  induction j with
  | zero =>
    intro u v r
    have h := r.raw_left 1
    rw [Rd.varGo]
    split
    · exact h
    · split
      · split <;> exact h
      · exact h
  | succ j ih =>
    intro u v r
    have h := r.raw_left 1
    rw [Rd.varGo.eq_def]
    simp only []
    split
    · exact h
    · split
      · split <;> exact h
      · exact Nat.le_trans (ih _ _ _) h
theorem takeR_left (k : Int) (n : Nat) (r : Rd) : (takeR k n r).s.length ≤ r.s.length := by
  have h1 := r.raw_left 1
  have h2 := r.raw_left 2
  have h3 := r.raw_left 4
  have h4 := varGo_left 3 1 0 r
  have h5 := r.raw_left (n % 20 - 2)
  have h6 := (r.num 2).2.raw_left (r.num 2).1
  unfold takeR
  repeat' split
  all_goals first | exact h1 | exact h2 | exact h3 | exact h4 | exact h5 | exact Nat.le_trans h6 h2 | exact Nat.le_refl _

set_option maxHeartbeats 4000000 in
set_option maxRecDepth 100000 in
theorem take1_any (b : Nat) (r : Rd) (n : Nat) (s : List UInt8) (w : World) (h : InAt w b r) (hs : r.s.length ≤ 9223372036854775807) :
    Calls Try.prog 44 #[.pointer (some ⟨b, 0, none⟩), .agg #[.string ⟨r.s.toArray⟩, .int .i64 r.e], .agg #[.int .i64 1, .int .u32 n, .string ⟨s.toArray⟩]] w fun e w' => e = .returned (.tuple #[.agg #[.string ⟨(r.num 1).2.s.toArray⟩, .int .i64 (r.num 1).2.e], .bool true]) ∧ InAt w' b (r.num 1).2 ∧ Fr [b] w w' := by
  have hlt := h.facts.2.2.2.2
  have B1 := Lib.hid (blk_old (blk_old (blk_new w (.cells #[.string ⟨r.s.toArray⟩, .int .i64 r.e] 60)) (.cells #[.int .i64 1, .int .u32 n, .string ⟨s.toArray⟩] 44)) (.cells #[.string ⟨[].toArray⟩, .int .i64 0] 60))
  have B2 := Lib.hid (blk_old (blk_at1 w (.cells #[.string ⟨r.s.toArray⟩, .int .i64 r.e] 60) (.cells #[.int .i64 1, .int .u32 n, .string ⟨s.toArray⟩] 44)) (.cells #[.string ⟨[].toArray⟩, .int .i64 0] 60))
  have B3 := Lib.hid (blk_at2 w (.cells #[.string ⟨r.s.toArray⟩, .int .i64 r.e] 60) (.cells #[.int .i64 1, .int .u32 n, .string ⟨s.toArray⟩] 44) (.cells #[.string ⟨[].toArray⟩, .int .i64 0] 60))
  have hW : Fr [] w (((w.alloc (.cells #[.string ⟨r.s.toArray⟩, .int .i64 r.e] 60)).alloc (.cells #[.int .i64 1, .int .u32 n, .string ⟨s.toArray⟩] 44)).alloc (.cells #[.string ⟨[].toArray⟩, .int .i64 0] 60)) := (((Fr.refl [] w).alloc _).alloc _).alloc _
  have hi := h.fr hW (by simp)
  have hv : ((r.num 1).1 : Int) < 4294967296 := by have := r.num_lt 1; omega
  go_enter Try.func44, Try.ntmps44
  go_wp2_with fail
  refine (byte_any b r _ (by exact hi.fr ((Fr.refl [] _).alloc _) (by simp)) hs).mono ?_
  rintro _ w1 ⟨rfl, h1, hf0⟩
  have hf1 : Fr [b] _ w1 := ((Fr.refl [b] _).alloc _).trans hf0 (by simp)
  clear hf0
  have K1 := Lib.hid (hf1.blk B1.out (by simp; omega))
  have K2 := Lib.hid (hf1.blk B2.out (by simp; omega))
  have K3 := Lib.hid (hf1.blk B3.out (by simp; omega))
  obtain ⟨c0, c1, f0, f1, hlt1⟩ := blk2_facts K1.out
  obtain ⟨⟨d0, d1, d2⟩, ⟨g0, g1, g2⟩, hlt2⟩ := blk3_facts K2.out
  obtain ⟨e0, e1, k0, k1, hlt3⟩ := blk2_facts K3.out
  have hX : Fr [b] w _ := hW.mono (T := [b]) (by simp)
  go_wp2_with fail
  refine (rnum_any r 1 w1 hs (by decide) (by decide)).mono ?_
  rintro _ w2 ⟨rfl, hf2⟩
  rw [show (1 : Int).toNat = 1 from rfl]
  have h2 := h1.fr hf2 (by simp)
  have L1 := Lib.hid (hf2.blk K1.out (by simp))
  have L2 := Lib.hid (hf2.blk K2.out (by simp))
  have L3 := Lib.hid (hf2.blk K3.out (by simp))
  clear c0 c1 f0 f1 hlt1 d0 d1 d2 g0 g1 g2 hlt2 e0 e1 k0 k1 hlt3
  obtain ⟨c0, c1, f0, f1, hlt1⟩ := blk2_facts L1.out
  obtain ⟨⟨d0, d1, d2⟩, ⟨g0, g1, g2⟩, hlt2⟩ := blk3_facts L2.out
  obtain ⟨e0, e1, k0, k1, hlt3⟩ := blk2_facts L3.out
  have hff : Fr [b] w w2 := (hX.trans hf1 (by simp)).trans hf2 (by simp)
  have hfe := Lib.hid hff
  obtain ⟨⟨v, q⟩, hq⟩ : ∃ x, r.num 1 = x := ⟨_, rfl⟩
  rw [hq] at h2 hv ⊢
  have Hq := Lib.hid hq
  clear hq hff hf1 hf2 hX hW hi h1 h
  go_wp2
  refine bodyPost_ret (v := .tuple #[.agg #[.string ⟨q.s.toArray⟩, .int .i64 q.e], .bool true]) (by simp [results, Try.results44, go_sem, *]) rfl ?_
  rw [Hq.out]
  have hff := hfe.out
  exact ⟨rfl, h2.fr (S := [w.heap.size, w.heap.size + 1, w.heap.size + 2]) (by repeat (first | exact Fr.refl _ _ | (with_reducible apply Fr.alloc) | (with_reducible apply Fr.drew) | (with_reducible apply Fr.drewN) | (with_reducible refine Fr.setCell ?_ (by simp) _))) (by simp; omega), (by repeat (first | exact Fr.refl _ _ | assumption | (with_reducible apply Fr.alloc) | (with_reducible apply Fr.drew) | (with_reducible apply Fr.drewN) | (with_reducible refine Fr.setCell ?_ (Or.inl (by (try simp) <;> omega)) _) | (refine Fr.trans ?_ (by assumption) (by simp))))⟩
set_option maxHeartbeats 4000000 in
set_option maxRecDepth 100000 in
theorem take2_any (b : Nat) (r : Rd) (n : Nat) (s : List UInt8) (w : World) (h : InAt w b r) (hs : r.s.length ≤ 9223372036854775807) :
    Calls Try.prog 44 #[.pointer (some ⟨b, 0, none⟩), .agg #[.string ⟨r.s.toArray⟩, .int .i64 r.e], .agg #[.int .i64 2, .int .u32 n, .string ⟨s.toArray⟩]] w fun e w' => e = .returned (.tuple #[.agg #[.string ⟨(r.num 2).2.s.toArray⟩, .int .i64 (r.num 2).2.e], .bool true]) ∧ InAt w' b (r.num 2).2 ∧ Fr [b] w w' := by
  have hlt := h.facts.2.2.2.2
  have B1 := Lib.hid (blk_old (blk_old (blk_new w (.cells #[.string ⟨r.s.toArray⟩, .int .i64 r.e] 60)) (.cells #[.int .i64 2, .int .u32 n, .string ⟨s.toArray⟩] 44)) (.cells #[.string ⟨[].toArray⟩, .int .i64 0] 60))
  have B2 := Lib.hid (blk_old (blk_at1 w (.cells #[.string ⟨r.s.toArray⟩, .int .i64 r.e] 60) (.cells #[.int .i64 2, .int .u32 n, .string ⟨s.toArray⟩] 44)) (.cells #[.string ⟨[].toArray⟩, .int .i64 0] 60))
  have B3 := Lib.hid (blk_at2 w (.cells #[.string ⟨r.s.toArray⟩, .int .i64 r.e] 60) (.cells #[.int .i64 2, .int .u32 n, .string ⟨s.toArray⟩] 44) (.cells #[.string ⟨[].toArray⟩, .int .i64 0] 60))
  have hW : Fr [] w (((w.alloc (.cells #[.string ⟨r.s.toArray⟩, .int .i64 r.e] 60)).alloc (.cells #[.int .i64 2, .int .u32 n, .string ⟨s.toArray⟩] 44)).alloc (.cells #[.string ⟨[].toArray⟩, .int .i64 0] 60)) := (((Fr.refl [] w).alloc _).alloc _).alloc _
  have hi := h.fr hW (by simp)
  have hv : ((r.num 2).1 : Int) < 4294967296 := by have := r.num_lt 2; omega
  go_enter Try.func44, Try.ntmps44
  go_wp2_with fail
  refine (intwo_any b r _ (by exact hi.fr ((Fr.refl [] _).alloc _) (by simp)) hs).mono ?_
  rintro _ w1 ⟨rfl, h1, hf0⟩
  have hf1 : Fr [b] _ w1 := ((Fr.refl [b] _).alloc _).trans hf0 (by simp)
  clear hf0
  have K1 := Lib.hid (hf1.blk B1.out (by simp; omega))
  have K2 := Lib.hid (hf1.blk B2.out (by simp; omega))
  have K3 := Lib.hid (hf1.blk B3.out (by simp; omega))
  obtain ⟨c0, c1, f0, f1, hlt1⟩ := blk2_facts K1.out
  obtain ⟨⟨d0, d1, d2⟩, ⟨g0, g1, g2⟩, hlt2⟩ := blk3_facts K2.out
  obtain ⟨e0, e1, k0, k1, hlt3⟩ := blk2_facts K3.out
  have hX : Fr [b] w _ := hW.mono (T := [b]) (by simp)
  go_wp2_with fail
  refine (rnum_any r 2 w1 hs (by decide) (by decide)).mono ?_
  rintro _ w2 ⟨rfl, hf2⟩
  rw [show (2 : Int).toNat = 2 from rfl]
  have h2 := h1.fr hf2 (by simp)
  have L1 := Lib.hid (hf2.blk K1.out (by simp))
  have L2 := Lib.hid (hf2.blk K2.out (by simp))
  have L3 := Lib.hid (hf2.blk K3.out (by simp))
  clear c0 c1 f0 f1 hlt1 d0 d1 d2 g0 g1 g2 hlt2 e0 e1 k0 k1 hlt3
  obtain ⟨c0, c1, f0, f1, hlt1⟩ := blk2_facts L1.out
  obtain ⟨⟨d0, d1, d2⟩, ⟨g0, g1, g2⟩, hlt2⟩ := blk3_facts L2.out
  obtain ⟨e0, e1, k0, k1, hlt3⟩ := blk2_facts L3.out
  have hff : Fr [b] w w2 := (hX.trans hf1 (by simp)).trans hf2 (by simp)
  have hfe := Lib.hid hff
  obtain ⟨⟨v, q⟩, hq⟩ : ∃ x, r.num 2 = x := ⟨_, rfl⟩
  rw [hq] at h2 hv ⊢
  have Hq := Lib.hid hq
  clear hq hff hf1 hf2 hX hW hi h1 h
  go_wp2
  refine bodyPost_ret (v := .tuple #[.agg #[.string ⟨q.s.toArray⟩, .int .i64 q.e], .bool true]) (by simp [results, Try.results44, go_sem, *]) rfl ?_
  rw [Hq.out]
  have hff := hfe.out
  exact ⟨rfl, h2.fr (S := [w.heap.size, w.heap.size + 1, w.heap.size + 2]) (by repeat (first | exact Fr.refl _ _ | (with_reducible apply Fr.alloc) | (with_reducible apply Fr.drew) | (with_reducible apply Fr.drewN) | (with_reducible refine Fr.setCell ?_ (by simp) _))) (by simp; omega), (by repeat (first | exact Fr.refl _ _ | assumption | (with_reducible apply Fr.alloc) | (with_reducible apply Fr.drew) | (with_reducible apply Fr.drewN) | (with_reducible refine Fr.setCell ?_ (Or.inl (by (try simp) <;> omega)) _) | (refine Fr.trans ?_ (by assumption) (by simp))))⟩
set_option maxHeartbeats 4000000 in
set_option maxRecDepth 100000 in
theorem take3_any (b : Nat) (r : Rd) (n : Nat) (s : List UInt8) (w : World) (h : InAt w b r) (hs : r.s.length ≤ 9223372036854775807) :
    Calls Try.prog 44 #[.pointer (some ⟨b, 0, none⟩), .agg #[.string ⟨r.s.toArray⟩, .int .i64 r.e], .agg #[.int .i64 3, .int .u32 n, .string ⟨s.toArray⟩]] w fun e w' => e = .returned (.tuple #[.agg #[.string ⟨(r.num 4).2.s.toArray⟩, .int .i64 (r.num 4).2.e], .bool true]) ∧ InAt w' b (r.num 4).2 ∧ Fr [b] w w' := by
  have hlt := h.facts.2.2.2.2
  have B1 := Lib.hid (blk_old (blk_old (blk_new w (.cells #[.string ⟨r.s.toArray⟩, .int .i64 r.e] 60)) (.cells #[.int .i64 3, .int .u32 n, .string ⟨s.toArray⟩] 44)) (.cells #[.string ⟨[].toArray⟩, .int .i64 0] 60))
  have B2 := Lib.hid (blk_old (blk_at1 w (.cells #[.string ⟨r.s.toArray⟩, .int .i64 r.e] 60) (.cells #[.int .i64 3, .int .u32 n, .string ⟨s.toArray⟩] 44)) (.cells #[.string ⟨[].toArray⟩, .int .i64 0] 60))
  have B3 := Lib.hid (blk_at2 w (.cells #[.string ⟨r.s.toArray⟩, .int .i64 r.e] 60) (.cells #[.int .i64 3, .int .u32 n, .string ⟨s.toArray⟩] 44) (.cells #[.string ⟨[].toArray⟩, .int .i64 0] 60))
  have hW : Fr [] w (((w.alloc (.cells #[.string ⟨r.s.toArray⟩, .int .i64 r.e] 60)).alloc (.cells #[.int .i64 3, .int .u32 n, .string ⟨s.toArray⟩] 44)).alloc (.cells #[.string ⟨[].toArray⟩, .int .i64 0] 60)) := (((Fr.refl [] w).alloc _).alloc _).alloc _
  have hi := h.fr hW (by simp)
  have hv : ((r.num 4).1 : Int) < 4294967296 := by have := r.num_lt 4; omega
  go_enter Try.func44, Try.ntmps44
  go_wp2_with fail
  refine (infour_any b r _ (by exact hi.fr ((Fr.refl [] _).alloc _) (by simp)) hs).mono ?_
  rintro _ w1 ⟨rfl, h1, hf0⟩
  have hf1 : Fr [b] _ w1 := ((Fr.refl [b] _).alloc _).trans hf0 (by simp)
  clear hf0
  have K1 := Lib.hid (hf1.blk B1.out (by simp; omega))
  have K2 := Lib.hid (hf1.blk B2.out (by simp; omega))
  have K3 := Lib.hid (hf1.blk B3.out (by simp; omega))
  obtain ⟨c0, c1, f0, f1, hlt1⟩ := blk2_facts K1.out
  obtain ⟨⟨d0, d1, d2⟩, ⟨g0, g1, g2⟩, hlt2⟩ := blk3_facts K2.out
  obtain ⟨e0, e1, k0, k1, hlt3⟩ := blk2_facts K3.out
  have hX : Fr [b] w _ := hW.mono (T := [b]) (by simp)
  go_wp2_with fail
  refine (rnum_any r 4 w1 hs (by decide) (by decide)).mono ?_
  rintro _ w2 ⟨rfl, hf2⟩
  rw [show (4 : Int).toNat = 4 from rfl]
  have h2 := h1.fr hf2 (by simp)
  have L1 := Lib.hid (hf2.blk K1.out (by simp))
  have L2 := Lib.hid (hf2.blk K2.out (by simp))
  have L3 := Lib.hid (hf2.blk K3.out (by simp))
  clear c0 c1 f0 f1 hlt1 d0 d1 d2 g0 g1 g2 hlt2 e0 e1 k0 k1 hlt3
  obtain ⟨c0, c1, f0, f1, hlt1⟩ := blk2_facts L1.out
  obtain ⟨⟨d0, d1, d2⟩, ⟨g0, g1, g2⟩, hlt2⟩ := blk3_facts L2.out
  obtain ⟨e0, e1, k0, k1, hlt3⟩ := blk2_facts L3.out
  have hff : Fr [b] w w2 := (hX.trans hf1 (by simp)).trans hf2 (by simp)
  have hfe := Lib.hid hff
  obtain ⟨⟨v, q⟩, hq⟩ : ∃ x, r.num 4 = x := ⟨_, rfl⟩
  rw [hq] at h2 hv ⊢
  have Hq := Lib.hid hq
  clear hq hff hf1 hf2 hX hW hi h1 h
  go_wp2
  refine bodyPost_ret (v := .tuple #[.agg #[.string ⟨q.s.toArray⟩, .int .i64 q.e], .bool true]) (by simp [results, Try.results44, go_sem, *]) rfl ?_
  rw [Hq.out]
  have hff := hfe.out
  exact ⟨rfl, h2.fr (S := [w.heap.size, w.heap.size + 1, w.heap.size + 2]) (by repeat (first | exact Fr.refl _ _ | (with_reducible apply Fr.alloc) | (with_reducible apply Fr.drew) | (with_reducible apply Fr.drewN) | (with_reducible refine Fr.setCell ?_ (by simp) _))) (by simp; omega), (by repeat (first | exact Fr.refl _ _ | assumption | (with_reducible apply Fr.alloc) | (with_reducible apply Fr.drew) | (with_reducible apply Fr.drewN) | (with_reducible refine Fr.setCell ?_ (Or.inl (by (try simp) <;> omega)) _) | (refine Fr.trans ?_ (by assumption) (by simp))))⟩
set_option maxHeartbeats 4000000 in
set_option maxRecDepth 100000 in
theorem take4_any (b : Nat) (r : Rd) (n : Nat) (s : List UInt8) (w : World) (h : InAt w b r) (hs : r.s.length ≤ 9223372036854775807) :
    Calls Try.prog 44 #[.pointer (some ⟨b, 0, none⟩), .agg #[.string ⟨r.s.toArray⟩, .int .i64 r.e], .agg #[.int .i64 4, .int .u32 n, .string ⟨s.toArray⟩]] w fun e w' => e = .returned (.tuple #[.agg #[.string ⟨(r.var).2.s.toArray⟩, .int .i64 (r.var).2.e], .bool true]) ∧ InAt w' b (r.var).2 ∧ Fr [b] w w' := by
  have hlt := h.facts.2.2.2.2
  have B1 := Lib.hid (blk_old (blk_old (blk_new w (.cells #[.string ⟨r.s.toArray⟩, .int .i64 r.e] 60)) (.cells #[.int .i64 4, .int .u32 n, .string ⟨s.toArray⟩] 44)) (.cells #[.string ⟨[].toArray⟩, .int .i64 0] 60))
  have B2 := Lib.hid (blk_old (blk_at1 w (.cells #[.string ⟨r.s.toArray⟩, .int .i64 r.e] 60) (.cells #[.int .i64 4, .int .u32 n, .string ⟨s.toArray⟩] 44)) (.cells #[.string ⟨[].toArray⟩, .int .i64 0] 60))
  have B3 := Lib.hid (blk_at2 w (.cells #[.string ⟨r.s.toArray⟩, .int .i64 r.e] 60) (.cells #[.int .i64 4, .int .u32 n, .string ⟨s.toArray⟩] 44) (.cells #[.string ⟨[].toArray⟩, .int .i64 0] 60))
  have hW : Fr [] w (((w.alloc (.cells #[.string ⟨r.s.toArray⟩, .int .i64 r.e] 60)).alloc (.cells #[.int .i64 4, .int .u32 n, .string ⟨s.toArray⟩] 44)).alloc (.cells #[.string ⟨[].toArray⟩, .int .i64 0] 60)) := (((Fr.refl [] w).alloc _).alloc _).alloc _
  have hi := h.fr hW (by simp)
  go_enter Try.func44, Try.ntmps44
  go_wp2_with fail
  refine (invar_any b r _ (by exact hi) hs).mono ?_
  rintro _ w1 ⟨rfl, h1, hf1⟩
  skip
  have K1 := Lib.hid (hf1.blk B1.out (by simp; omega))
  have K2 := Lib.hid (hf1.blk B2.out (by simp; omega))
  have K3 := Lib.hid (hf1.blk B3.out (by simp; omega))
  obtain ⟨c0, c1, f0, f1, hlt1⟩ := blk2_facts K1.out
  obtain ⟨⟨d0, d1, d2⟩, ⟨g0, g1, g2⟩, hlt2⟩ := blk3_facts K2.out
  obtain ⟨e0, e1, k0, k1, hlt3⟩ := blk2_facts K3.out
  have hX : Fr [b] w _ := hW.mono (T := [b]) (by simp)
  go_wp2_with fail
  refine (rtakevar_any r w1 hs).mono ?_
  rintro _ w2 ⟨rfl, hf2⟩
  skip
  have h2 := h1.fr hf2 (by simp)
  have L1 := Lib.hid (hf2.blk K1.out (by simp))
  have L2 := Lib.hid (hf2.blk K2.out (by simp))
  have L3 := Lib.hid (hf2.blk K3.out (by simp))
  clear c0 c1 f0 f1 hlt1 d0 d1 d2 g0 g1 g2 hlt2 e0 e1 k0 k1 hlt3
  obtain ⟨c0, c1, f0, f1, hlt1⟩ := blk2_facts L1.out
  obtain ⟨⟨d0, d1, d2⟩, ⟨g0, g1, g2⟩, hlt2⟩ := blk3_facts L2.out
  obtain ⟨e0, e1, k0, k1, hlt3⟩ := blk2_facts L3.out
  have hff : Fr [b] w w2 := (hX.trans hf1 (by simp)).trans hf2 (by simp)
  have hfe := Lib.hid hff
  obtain ⟨⟨v, q⟩, hq⟩ : ∃ x, r.var = x := ⟨_, rfl⟩
  rw [hq] at h2 ⊢
  have Hq := Lib.hid hq
  clear hq hff hf1 hf2 hX hW hi h1 h
  go_wp2
  refine bodyPost_ret (v := .tuple #[.agg #[.string ⟨q.s.toArray⟩, .int .i64 q.e], .bool true]) (by simp [results, Try.results44, go_sem, *]) rfl ?_
  rw [Hq.out]
  have hff := hfe.out
  exact ⟨rfl, h2.fr (S := [w.heap.size, w.heap.size + 1, w.heap.size + 2]) (by repeat (first | exact Fr.refl _ _ | (with_reducible apply Fr.alloc) | (with_reducible apply Fr.drew) | (with_reducible apply Fr.drewN) | (with_reducible refine Fr.setCell ?_ (by simp) _))) (by simp; omega), (by repeat (first | exact Fr.refl _ _ | assumption | (with_reducible apply Fr.alloc) | (with_reducible apply Fr.drew) | (with_reducible apply Fr.drewN) | (with_reducible refine Fr.setCell ?_ (Or.inl (by (try simp) <;> omega)) _) | (refine Fr.trans ?_ (by assumption) (by simp))))⟩
set_option maxHeartbeats 4000000 in
set_option maxRecDepth 100000 in
theorem take5_any (b : Nat) (r : Rd) (n : Nat) (s : List UInt8) (w : World) (h : InAt w b r) (hs : r.s.length ≤ 9223372036854775807) :
    Calls Try.prog 44 #[.pointer (some ⟨b, 0, none⟩), .agg #[.string ⟨r.s.toArray⟩, .int .i64 r.e], .agg #[.int .i64 5, .int .u32 n, .string ⟨s.toArray⟩]] w fun e w' => e = .returned (.tuple #[.agg #[.string ⟨(r.raw (n % 20 - 2)).2.s.toArray⟩, .int .i64 (r.raw (n % 20 - 2)).2.e], .bool true]) ∧ InAt w' b (r.raw (n % 20 - 2)).2 ∧ Fr [b] w w' := by
  have hlt := h.facts.2.2.2.2
  have B1 := Lib.hid (blk_old (blk_old (blk_new w (.cells #[.string ⟨r.s.toArray⟩, .int .i64 r.e] 60)) (.cells #[.int .i64 5, .int .u32 n, .string ⟨s.toArray⟩] 44)) (.cells #[.string ⟨[].toArray⟩, .int .i64 0] 60))
  have B2 := Lib.hid (blk_old (blk_at1 w (.cells #[.string ⟨r.s.toArray⟩, .int .i64 r.e] 60) (.cells #[.int .i64 5, .int .u32 n, .string ⟨s.toArray⟩] 44)) (.cells #[.string ⟨[].toArray⟩, .int .i64 0] 60))
  have B3 := Lib.hid (blk_at2 w (.cells #[.string ⟨r.s.toArray⟩, .int .i64 r.e] 60) (.cells #[.int .i64 5, .int .u32 n, .string ⟨s.toArray⟩] 44) (.cells #[.string ⟨[].toArray⟩, .int .i64 0] 60))
  have hW : Fr [] w (((w.alloc (.cells #[.string ⟨r.s.toArray⟩, .int .i64 r.e] 60)).alloc (.cells #[.int .i64 5, .int .u32 n, .string ⟨s.toArray⟩] 44)).alloc (.cells #[.string ⟨[].toArray⟩, .int .i64 0] 60)) := (((Fr.refl [] w).alloc _).alloc _).alloc _
  have hi := h.fr hW (by simp)
  go_enter Try.func44, Try.ntmps44
  go_wp2_with fail
  refine (raw_any b r _ _ (by exact hi) hs).mono ?_
  rintro _ w1 ⟨rfl, h1, hf1⟩
  rw [show ((n : Int) % 20 - 2).toNat = n % 20 - 2 from by omega] at *
  have K1 := Lib.hid (hf1.blk B1.out (by simp; omega))
  have K2 := Lib.hid (hf1.blk B2.out (by simp; omega))
  have K3 := Lib.hid (hf1.blk B3.out (by simp; omega))
  obtain ⟨c0, c1, f0, f1, hlt1⟩ := blk2_facts K1.out
  obtain ⟨⟨d0, d1, d2⟩, ⟨g0, g1, g2⟩, hlt2⟩ := blk3_facts K2.out
  obtain ⟨e0, e1, k0, k1, hlt3⟩ := blk2_facts K3.out
  have hX : Fr [b] w _ := hW.mono (T := [b]) (by simp)
  go_wp2_with fail
  refine (rraw_any r _ w1 hs).mono ?_
  rintro _ w2 ⟨rfl, hf2⟩
  rw [show ((n : Int) % 20 - 2).toNat = n % 20 - 2 from by omega] at *
  have h2 := h1.fr hf2 (by simp)
  have L1 := Lib.hid (hf2.blk K1.out (by simp))
  have L2 := Lib.hid (hf2.blk K2.out (by simp))
  have L3 := Lib.hid (hf2.blk K3.out (by simp))
  clear c0 c1 f0 f1 hlt1 d0 d1 d2 g0 g1 g2 hlt2 e0 e1 k0 k1 hlt3
  obtain ⟨c0, c1, f0, f1, hlt1⟩ := blk2_facts L1.out
  obtain ⟨⟨d0, d1, d2⟩, ⟨g0, g1, g2⟩, hlt2⟩ := blk3_facts L2.out
  obtain ⟨e0, e1, k0, k1, hlt3⟩ := blk2_facts L3.out
  have hff : Fr [b] w w2 := (hX.trans hf1 (by simp)).trans hf2 (by simp)
  have hfe := Lib.hid hff
  obtain ⟨⟨v, q⟩, hq⟩ : ∃ x, r.raw (n % 20 - 2) = x := ⟨_, rfl⟩
  rw [hq] at h2 ⊢
  have Hq := Lib.hid hq
  clear hq hff hf1 hf2 hX hW hi h1 h
  go_wp2
  refine bodyPost_ret (v := .tuple #[.agg #[.string ⟨q.s.toArray⟩, .int .i64 q.e], .bool true]) (by simp [results, Try.results44, go_sem, *]) rfl ?_
  rw [Hq.out]
  have hff := hfe.out
  exact ⟨rfl, h2.fr (S := [w.heap.size, w.heap.size + 1, w.heap.size + 2]) (by repeat (first | exact Fr.refl _ _ | (with_reducible apply Fr.alloc) | (with_reducible apply Fr.drew) | (with_reducible apply Fr.drewN) | (with_reducible refine Fr.setCell ?_ (by simp) _))) (by simp; omega), (by repeat (first | exact Fr.refl _ _ | assumption | (with_reducible apply Fr.alloc) | (with_reducible apply Fr.drew) | (with_reducible apply Fr.drewN) | (with_reducible refine Fr.setCell ?_ (Or.inl (by (try simp) <;> omega)) _) | (refine Fr.trans ?_ (by assumption) (by simp))))⟩
set_option maxHeartbeats 4000000 in
set_option maxRecDepth 100000 in
theorem take6_any (b : Nat) (r : Rd) (n : Nat) (s : List UInt8) (w : World) (h : InAt w b r) (hs : r.s.length ≤ 9223372036854775807) :
    Calls Try.prog 44 #[.pointer (some ⟨b, 0, none⟩), .agg #[.string ⟨r.s.toArray⟩, .int .i64 r.e], .agg #[.int .i64 6, .int .u32 n, .string ⟨s.toArray⟩]] w fun e w' => e = .returned (.tuple #[.agg #[.string ⟨(r.data).2.s.toArray⟩, .int .i64 (r.data).2.e], .bool true]) ∧ InAt w' b (r.data).2 ∧ Fr [b] w w' := by
  have hlt := h.facts.2.2.2.2
  have B1 := Lib.hid (blk_old (blk_old (blk_new w (.cells #[.string ⟨r.s.toArray⟩, .int .i64 r.e] 60)) (.cells #[.int .i64 6, .int .u32 n, .string ⟨s.toArray⟩] 44)) (.cells #[.string ⟨[].toArray⟩, .int .i64 0] 60))
  have B2 := Lib.hid (blk_old (blk_at1 w (.cells #[.string ⟨r.s.toArray⟩, .int .i64 r.e] 60) (.cells #[.int .i64 6, .int .u32 n, .string ⟨s.toArray⟩] 44)) (.cells #[.string ⟨[].toArray⟩, .int .i64 0] 60))
  have B3 := Lib.hid (blk_at2 w (.cells #[.string ⟨r.s.toArray⟩, .int .i64 r.e] 60) (.cells #[.int .i64 6, .int .u32 n, .string ⟨s.toArray⟩] 44) (.cells #[.string ⟨[].toArray⟩, .int .i64 0] 60))
  have hW : Fr [] w (((w.alloc (.cells #[.string ⟨r.s.toArray⟩, .int .i64 r.e] 60)).alloc (.cells #[.int .i64 6, .int .u32 n, .string ⟨s.toArray⟩] 44)).alloc (.cells #[.string ⟨[].toArray⟩, .int .i64 0] 60)) := (((Fr.refl [] w).alloc _).alloc _).alloc _
  have hi := h.fr hW (by simp)
  go_enter Try.func44, Try.ntmps44
  go_wp2_with fail
  refine (indata_any b r _ (by exact hi) hs).mono ?_
  rintro _ w1 ⟨rfl, h1, hf1⟩
  skip
  have K1 := Lib.hid (hf1.blk B1.out (by simp; omega))
  have K2 := Lib.hid (hf1.blk B2.out (by simp; omega))
  have K3 := Lib.hid (hf1.blk B3.out (by simp; omega))
  obtain ⟨c0, c1, f0, f1, hlt1⟩ := blk2_facts K1.out
  obtain ⟨⟨d0, d1, d2⟩, ⟨g0, g1, g2⟩, hlt2⟩ := blk3_facts K2.out
  obtain ⟨e0, e1, k0, k1, hlt3⟩ := blk2_facts K3.out
  have hX : Fr [b] w _ := hW.mono (T := [b]) (by simp)
  go_wp2_with fail
  refine (rtakedata_any r w1 hs).mono ?_
  rintro _ w2 ⟨rfl, hf2⟩
  skip
  have h2 := h1.fr hf2 (by simp)
  have L1 := Lib.hid (hf2.blk K1.out (by simp))
  have L2 := Lib.hid (hf2.blk K2.out (by simp))
  have L3 := Lib.hid (hf2.blk K3.out (by simp))
  clear c0 c1 f0 f1 hlt1 d0 d1 d2 g0 g1 g2 hlt2 e0 e1 k0 k1 hlt3
  obtain ⟨c0, c1, f0, f1, hlt1⟩ := blk2_facts L1.out
  obtain ⟨⟨d0, d1, d2⟩, ⟨g0, g1, g2⟩, hlt2⟩ := blk3_facts L2.out
  obtain ⟨e0, e1, k0, k1, hlt3⟩ := blk2_facts L3.out
  have hff : Fr [b] w w2 := (hX.trans hf1 (by simp)).trans hf2 (by simp)
  have hfe := Lib.hid hff
  obtain ⟨⟨v, q⟩, hq⟩ : ∃ x, r.data = x := ⟨_, rfl⟩
  rw [hq] at h2 ⊢
  have Hq := Lib.hid hq
  clear hq hff hf1 hf2 hX hW hi h1 h
  go_wp2
  refine bodyPost_ret (v := .tuple #[.agg #[.string ⟨q.s.toArray⟩, .int .i64 q.e], .bool true]) (by simp [results, Try.results44, go_sem, *]) rfl ?_
  rw [Hq.out]
  have hff := hfe.out
  exact ⟨rfl, h2.fr (S := [w.heap.size, w.heap.size + 1, w.heap.size + 2]) (by repeat (first | exact Fr.refl _ _ | (with_reducible apply Fr.alloc) | (with_reducible apply Fr.drew) | (with_reducible apply Fr.drewN) | (with_reducible refine Fr.setCell ?_ (by simp) _))) (by simp; omega), (by repeat (first | exact Fr.refl _ _ | assumption | (with_reducible apply Fr.alloc) | (with_reducible apply Fr.drew) | (with_reducible apply Fr.drewN) | (with_reducible refine Fr.setCell ?_ (Or.inl (by (try simp) <;> omega)) _) | (refine Fr.trans ?_ (by assumption) (by simp))))⟩
set_option maxHeartbeats 4000000 in
set_option maxRecDepth 100000 in
theorem take0_any (b : Nat) (r : Rd) (K : Int) (n : Nat) (s : List UInt8) (w : World) (h : InAt w b r) (e1 : (K == 1) = false) (e2 : (K == 2) = false) (e3 : (K == 3) = false) (e4 : (K == 4) = false) (e5 : (K == 5) = false) (e6 : (K == 6) = false) :
    Calls Try.prog 44 #[.pointer (some ⟨b, 0, none⟩), .agg #[.string ⟨r.s.toArray⟩, .int .i64 r.e], .agg #[.int .i64 K, .int .u32 n, .string ⟨s.toArray⟩]] w fun e w' => e = .returned (.tuple #[.agg #[.string ⟨r.s.toArray⟩, .int .i64 r.e], .bool true]) ∧ InAt w' b r ∧ Fr [b] w w' := by
  have hlt := h.facts.2.2.2.2
  go_enter Try.func44, Try.ntmps44
  go_wp2
  go_returns
  exact ⟨rfl, h.fr (S := [w.heap.size, w.heap.size + 1, w.heap.size + 2]) (by repeat (first | exact Fr.refl _ _ | (with_reducible apply Fr.alloc) | (with_reducible apply Fr.drew) | (with_reducible apply Fr.drewN) | (with_reducible refine Fr.setCell ?_ (by simp) _))) (by simp; omega), (by repeat (first | exact Fr.refl _ _ | assumption | (with_reducible apply Fr.alloc) | (with_reducible apply Fr.drew) | (with_reducible apply Fr.drewN) | (with_reducible refine Fr.setCell ?_ (Or.inl (by (try simp) <;> omega)) _) | (refine Fr.trans ?_ (by assumption) (by simp))))⟩
theorem ltake_any (b : Nat) (r : Rd) (K : Int) (n : Nat) (s : List UInt8) (w : World) (h : InAt w b r) (hs : r.s.length ≤ 9223372036854775807) :
    Calls Try.prog 44 #[.pointer (some ⟨b, 0, none⟩), .agg #[.string ⟨r.s.toArray⟩, .int .i64 r.e], .agg #[.int .i64 K, .int .u32 n, .string ⟨s.toArray⟩]] w fun e w' => e = .returned (.tuple #[.agg #[.string ⟨(takeR K n r).s.toArray⟩, .int .i64 (takeR K n r).e], .bool true]) ∧ InAt w' b (takeR K n r) ∧ Fr [b] w w' := by
  by_cases k1 : K = 1
  · subst k1; exact take1_any b r n s w h hs
  by_cases k2 : K = 2
  · subst k2; exact take2_any b r n s w h hs
  by_cases k3 : K = 3
  · subst k3; exact take3_any b r n s w h hs
  by_cases k4 : K = 4
  · subst k4; exact take4_any b r n s w h hs
  by_cases k5 : K = 5
  · subst k5; exact take5_any b r n s w h hs
  by_cases k6 : K = 6
  · subst k6; exact take6_any b r n s w h hs
  have e : takeR K n r = r := by unfold takeR; rw [if_neg k1, if_neg k2, if_neg k3, if_neg k4, if_neg k5, if_neg k6]
  rw [e]
  exact take0_any b r K n s w h (by simpa using k1) (by simpa using k2) (by simpa using k3) (by simpa using k4) (by simpa using k5) (by simpa using k6)
end Go.Proofs.Ytpbdngcngnkfmaa
