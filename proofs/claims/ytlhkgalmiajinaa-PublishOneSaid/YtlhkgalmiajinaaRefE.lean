/- The reference's Take of layer 2: the string and the cursor that the program takes. -/
import Derived.Test.YtlhkgalmiajinaaRefD
import Derived.Deep.RegionWith
import Derived.BigQuiet
namespace Go.Proofs.Ytlhkgalmiajinaa
open Go.RowKit

theorem raw_err (r : Rd) (n : Nat) (h : (r.raw n).2.e ≠ 0) : (r.raw n).1 = [] := by
  unfold Rd.raw at h ⊢
  split
  · rfl
  rename_i h1
  rw [if_neg h1] at h
  split
  · rfl
  rename_i h2
  rw [if_neg h2] at h
  exact absurd rfl h
theorem str_err (r : Rd) (h : r.data.2.e ≠ 0) : r.str = r.data := by
  have h1 : r.data.1 = [] := raw_err _ _ h
  rw [Rd.str, h1, if_pos (by decide)]
set_option maxHeartbeats 2000000 in
theorem rtake_any (r : Rd) (w : World) (hs : r.s.length ≤ 9223372036854775807) :
    Calls Try.prog 78 #[.agg #[.string ⟨r.s.toArray⟩, .int .i64 r.e]] w fun e w' => e = .returned (.tuple #[.agg #[.string ⟨r.str.2.s.toArray⟩, .int .i64 r.str.2.e], .string ⟨r.str.1.toArray⟩]) ∧ Fr [] w w' := by
  go_enter Try.func78, Try.ntmps78
  go_wp2_with fail
  refine (rtakedata_any r _ hs).mono ?_
  rintro e w1 ⟨rfl, hf1⟩
  have hff : Fr [] w w1 := Fr.trans (by repeat (first | exact Fr.refl _ _ | assumption | (with_reducible apply Fr.alloc) | (with_reducible apply Fr.drew) | (with_reducible apply Fr.drewN) | (with_reducible refine Fr.setCell ?_ (Or.inl (by (try simp) <;> omega)) _) | (refine Fr.trans ?_ (by assumption) (by simp)))) hf1 (by simp)
  have hb1 : w1.heap[w.heap.size]? = some (.cells #[.string ⟨r.s.toArray⟩, .int .i64 r.e] 125 (0, 0)) := hf1.blk (blk_old (blk_new _ _) _) (by simp)
  have hb2 : w1.heap[w.heap.size + 1]? = some (.cells #[.string ⟨[].toArray⟩, .int .i64 0] 125 (0, 0)) := hf1.blk (blk_at1 _ _ _) (by simp)
  have hl : r.data.1.length ≤ 9223372036854775807 := Nat.le_trans (Rd.raw_le _ _) (Nat.le_trans (Rd.raw_left _ _) hs)
  have HE := Lib.hid (str_err r)
  have HS : Hid (r.str = if good r.data.1 then r.data else ([], r.data.2.fail 2)) := Lib.hid rfl
  obtain ⟨⟨l, q⟩, hq⟩ : ∃ x, r.data = x := ⟨_, rfl⟩
  rw [hq] at hl HE HS ⊢
  simp only at hl HE HS ⊢
  clear hq hf1
  obtain ⟨c0, c1, f0, f1, hlt1⟩ := blk2_facts hb1
  obtain ⟨d0, d1, g0, g1, hlt2⟩ := blk2_facts hb2
  have HB1 := Lib.hid hb1
  have HB2 := Lib.hid hb2
  clear hb1 hb2
  by_cases he : q.e = 0
  · have he1 : (q.e == 0) = true := by simpa using he
    have Hq := Lib.hid he
    clear he
    go_wp2_with fail
    refine (rgood_any l _ hl).mono ?_
    rintro _ w2 ⟨rfl, hf2⟩
    clear c0 c1 f0 f1 hlt1 d0 d1 g0 g1 hlt2
    have hb3 := hf2.blk (blk2_set HB1.out _ _) (by simp)
    have hb4 := hf2.blk (blk_far (blk_far HB2.out (p := ⟨w.heap.size, 0, none⟩) (by simp) _) (p := ⟨w.heap.size, 1, none⟩) (by simp) _) (by simp)
    replace hff : Fr [] w w2 := Fr.trans (by repeat (first | exact Fr.refl _ _ | assumption | (with_reducible apply Fr.alloc) | (with_reducible apply Fr.drew) | (with_reducible apply Fr.drewN) | (with_reducible refine Fr.setCell ?_ (Or.inl (by (try simp) <;> omega)) _) | (refine Fr.trans ?_ (by assumption) (by simp)))) hf2 (by simp)
    clear hf2
    obtain ⟨c0, c1, f0, f1, hlt1⟩ := blk2_facts hb3
    obtain ⟨d0, d1, g0, g1, hlt2⟩ := blk2_facts hb4
    clear hb3 hb4
    by_cases hg : good l = true
    · have HR := Lib.hid (HS.out.trans (if_pos hg))
      rw [hg]
      clear hg
      go_wp2
      refine bodyPost_ret (v := .tuple #[.agg #[.string ⟨q.s.toArray⟩, .int .i64 q.e], .string ⟨l.toArray⟩]) (by simp [results, Try.results78, go_sem, *]) rfl ?_
      rw [HR.out]
      exact ⟨rfl, (by repeat (first | exact Fr.refl _ _ | assumption | (with_reducible apply Fr.alloc) | (with_reducible apply Fr.drew) | (with_reducible apply Fr.drewN) | (with_reducible refine Fr.setCell ?_ (Or.inl (by (try simp) <;> omega)) _) | (refine Fr.trans ?_ (by assumption) (by simp))))⟩
    · have HR := Lib.hid (HS.out.trans (if_neg hg))
      replace hg : good l = false := by simpa using hg
      rw [hg]
      clear hg
      have HF : Hid (q.fail 2 = ⟨q.s, 2⟩) := Lib.hid (by rw [Rd.fail, if_pos Hq.out])
      go_wp2
      refine bodyPost_ret (v := .tuple #[.agg #[.string ⟨q.s.toArray⟩, .int .i64 2], .string ⟨[].toArray⟩]) (by simp [results, Try.results78, go_sem, *]) rfl ?_
      rw [HR.out, HF.out]
      exact ⟨rfl, (by repeat (first | exact Fr.refl _ _ | assumption | (with_reducible apply Fr.alloc) | (with_reducible apply Fr.drew) | (with_reducible apply Fr.drewN) | (with_reducible refine Fr.setCell ?_ (Or.inl (by (try simp) <;> omega)) _) | (refine Fr.trans ?_ (by assumption) (by simp))))⟩
  · have he1 : (q.e == 0) = false := by simpa using he
    have HQ := Lib.hid (HE.out he)
    clear he
    go_wp2
    refine bodyPost_ret (v := .tuple #[.agg #[.string ⟨q.s.toArray⟩, .int .i64 q.e], .string ⟨l.toArray⟩]) (by simp [results, Try.results78, go_sem, *]) rfl ?_
    rw [HQ.out]
    exact ⟨rfl, (by repeat (first | exact Fr.refl _ _ | assumption | (with_reducible apply Fr.alloc) | (with_reducible apply Fr.drew) | (with_reducible apply Fr.drewN) | (with_reducible refine Fr.setCell ?_ (Or.inl (by (try simp) <;> omega)) _) | (refine Fr.trans ?_ (by assumption) (by simp))))⟩
end Go.Proofs.Ytlhkgalmiajinaa
