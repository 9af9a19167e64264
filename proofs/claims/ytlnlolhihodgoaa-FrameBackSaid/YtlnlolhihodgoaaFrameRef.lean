/- What the reference's All, Same, and 'awake' of layer 5 come to. -/
import Derived.Test.YtlnlolhihodgoaaFrameAll
namespace Go.Proofs.Ytlnlolhihodgoaa
open Go.RowKit

/-- The reference's packets. -/
def refR (m : Int) : Nat → List UInt8 → List Fm → List Fm × Int × List UInt8
  | 0, s, l => (l, 1, s)
  | n + 1, s, l => if (nextR m s 0).e ≠ 0 then (l, (nextR m s 0).e, s) else refR m n (nextR m s 0).s (l ++ [(nextR m s 0).fm])
theorem refR_err (m : Int) (n : Nat) (s : List UInt8) (l : List Fm) (g : Got) (hg : nextR m s 0 = g) (he : g.e ≠ 0) : refR m (n + 1) s l = (l, g.e, s) := by
  subst hg; rw [refR, if_pos he]
theorem refR_ok (m : Int) (n : Nat) (s : List UInt8) (l : List Fm) (g : Got) (hg : nextR m s 0 = g) (he : g.e = 0) : refR m (n + 1) s l = refR m n g.s (l ++ [g.fm]) := by
  subst hg; rw [refR, if_neg (by simpa using he)]
theorem Try.infoRFm : (Try.prog.info? 49).map (fun i => (i.zero, i.size, i.bytes)) = some (some (.agg #[.int .i64 0, .int .i64 0, .string ⟨#[]⟩]), 3, 32) := by kernel_rfl
def RAllTo (n : Nat) (R : List Fm × Int × List UInt8) (w : World) (e : Ending) (w' : World) : Prop :=
  ∃ v', e = .returned (.tuple #[v', .int .i64 R.2.1, .int .i64 ((n : Int) - R.2.2.length)]) ∧ w'.ownsRow w.heap.size 49 3 v' R.1.length (R.1.flatMap frE) ∧ Fr [] w w'
theorem nextR_one (m : Int) (s : List UInt8) (h : s = []) : nextR m s 0 = noF 1 s 0 := by rw [nextR, if_neg (fun h => h rfl), if_pos h]
theorem nextR_two (m : Int) (s : List UInt8) (c : Nat) (h0 : s ≠ []) (hc : (s.getD 0 0).toNat = c) (hk : chk ((c / 16 : Nat) : Int) ((c % 16 : Nat) : Int) = false) : nextR m s 0 = noF 2 [] 2 := by
  rw [nextR, if_neg (fun h => h rfl), if_neg h0, hc, if_pos (by rw [chkE_no _ _ hk]; decide)]
set_option maxRecDepth 100000 in
set_option maxHeartbeats 2000000 in
theorem rall_any (s : List UInt8) (m : Int) (w : World) (hs : s.length ≤ 100000) (m0 : -9223372036854775808 ≤ m) (m1 : m ≤ 9223372036854775807) :
    Calls Try.prog 18 #[.string ⟨s.toArray⟩, .int .i64 m] w (RAllTo s.length (refR m (s.length + 1) s []) w) := by
  obtain ⟨i0, hi, hz0, hz1, hz2⟩ := info_parts Try.infoRFm
  have ho := own_emp w 49 3 w.heap.size (Nat.le_refl _)
  go_enter Try.func18, Try.ntmps18
  go_wp2
  go_loopw [7, 8, 9] (fun hv lf i wr => ∃ (k : Nat) (lk : List Fm) (sk : List UInt8), i = .int .i64 k ∧ lf = .string ⟨sk.toArray⟩ ∧ k ≤ s.length + 1 ∧ lk.length ≤ k ∧ sk.length ≤ s.length ∧ refR m (s.length + 1 - k) sk lk = refR m (s.length + 1) s [] ∧ wr.ownsRow w.heap.size 49 3 hv lk.length (lk.flatMap frE) ∧ Fr [] w wr) (fun _ _ i _ => s.length + 1 - (intOf i).toNat)
  case atStart => exact ⟨0, [], s, rfl, rfl, by omega, by simp, by omega, rfl, ho, (Fr.refl _ _).alloc _⟩
  case round =>
    obtain ⟨k, lk, sk, rfl, rfl, hk, hlk, hsk, hR, hown, hfr⟩ := hrel
    have Hown := Lib.hid hown
    have Hfr := Lib.hid hfr
    have HR := Lib.hid hR
    obtain ⟨A, cp, rfl⟩ := own_shape hown
    have hszw := hfr.size
    clear hown hfr hR ho
    by_cases hks : k ≤ s.length
    · have hfuel : s.length + 1 - k = (s.length - k) + 1 := by omega
      have HF := Lib.hid hfuel
      clear hfuel
      by_cases hn : sk = []
      · have HG := Lib.hid (nextR_one m sk hn)
        subst hn
        go_wp2
        go_ret3
        rw [← HR.out, HF.out, refR_err _ _ _ _ _ HG.out (by simp [noF])]
        exact ⟨_, rfl, Hown.out, Hfr.out⟩
      have hne : sk.isEmpty = false := by simpa using hn
      have hl0 : 0 < sk.length := List.length_pos_iff.2 hn
      obtain ⟨c, hc⟩ : ∃ c, (sk.getD 0 0).toNat = c := ⟨_, rfl⟩
      have hc0 := idx_nat sk 0
      have hcl : c < 256 := by rw [← hc]; exact (sk.getD 0 0).toNat_lt
      rw [hc] at hc0
      have HC := Lib.hid hc
      have HN := Lib.hid hn
      clear hc hn
      go_wp2_with fail
      rw [show (c : Int) / 16 = ((c / 16 : Nat) : Int) from by omega, show (c : Int) % 16 = ((c % 16 : Nat) : Int) from by omega]
      refine (rcheck_any _ _ _ (by omega) (by omega)).mono ?_
      rintro _ w1 ⟨rfl, rfl⟩
      by_cases hk : chk ((c / 16 : Nat) : Int) ((c % 16 : Nat) : Int) = true
      · rw [hk]
        have HK := Lib.hid (chkE_ok _ _ hk)
        clear hk
        go_wp2_with fail
        rw [ex_drop _ _ _ (Nat.le_refl _)]
        refine (rtakevar_any ⟨sk.drop 1, 0⟩ _ (by show (sk.drop 1).length ≤ _; rw [List.length_drop]; omega)).mono ?_
        rintro _ w1 ⟨rfl, hf1⟩
        have HG := fun n q h => nextR_go m sk c n q HN.out HC.out HK.out h
        have hvl := var_lt ⟨sk.drop 1, 0⟩
        have hvo := var_one (sk.drop 1)
        have hleft := varGo_left2 3 1 0 ⟨sk.drop 1, 0⟩
        rw [show Rd.varGo 1 0 3 ⟨sk.drop 1, 0⟩ = Rd.var ⟨sk.drop 1, 0⟩ from rfl] at hleft
        rw [show (Rd.mk (sk.drop 1) 0).s.length = sk.length - 1 from List.length_drop] at hleft
        obtain ⟨⟨n, q⟩, hq⟩ : ∃ y, Rd.var ⟨sk.drop 1, 0⟩ = y := ⟨_, rfl⟩
        replace HG := Lib.hid (HG n q hq)
        replace hvo := Lib.hid (hvo n q hq)
        rw [hq] at hvl hleft ⊢
        clear hq
        dsimp only at hvl hleft ⊢
        have hn4 := var_len4 n
        have hfr1 := Hfr.out.trans hf1 (by simp)
        have hown1 := own_fr hf1 Hown.out (by simp)
        replace hown1 := Lib.hid hown1
        replace hfr1 := Lib.hid hfr1
        have hsz1 := hf1.size
        clear hf1
        by_cases q0 : q.e = 0
        · have t1 : (q.e != 0) = false := by simpa using q0
          have hlen : sk.length = 1 + (var n).length + q.s.length := by
            have := congrArg List.length (hvo.out q0).1
            rw [List.length_drop, List.length_append] at this; omega
          have HG2 := HG.out
          rw [if_neg (by rw [q0]; decide), if_neg (by simpa using q0)] at HG2
          have Q0 := Lib.hid q0
          clear q0
          by_cases hbig : m < 1 + (var n).length + n
          · have HG3 := Lib.hid (HG2.trans (if_pos hbig))
            have d1 : m < (sk.length : Int) - (q.s.length : Int) + (n : Int) := by omega
            clear hbig HG2 hlen
            go_wp2
            go_ret3
            rw [← HR.out, HF.out, refR_err _ _ _ _ _ HG3.out (by simp [noF])]
            exact ⟨_, rfl, hown1.out.alloc _, hfr1.out.alloc _⟩
          · have HG3 := HG2.trans (if_neg hbig)
            have d1 : ¬ m < (sk.length : Int) - (q.s.length : Int) + (n : Int) := by omega
            clear hbig HG2 hlen
            by_cases hsh : q.s.length < n
            · have HG4 := Lib.hid (HG3.trans (if_pos hsh))
              clear HG3
              have d2 : (q.s.length : Int) < (n : Int) := by omega
              go_wp2
              go_ret3
              rw [← HR.out, HF.out, refR_err _ _ _ _ _ HG4.out (by simp [noF])]
              exact ⟨_, rfl, hown1.out.alloc _, hfr1.out.alloc _⟩
            · have HG4 := Lib.hid (HG3.trans (if_neg hsh))
              clear HG3
              have d2 : ¬ (q.s.length : Int) < (n : Int) := by omega
              go_wp2_with (at_builtin; refine wpl_app _ rfl (.tmp 83) (.tmp 91) 32 rfl w.heap.size 49 i0 (.agg #[.int .i64 0, .int .i64 0, .string ⟨#[]⟩]) 3 32 Try.underlying32 hi hz0 hz1 hz2 rfl (by decide) _ lk.length (lk.flatMap frE) rfl ((hown1.out.alloc _).alloc _) ⟨w1.heap.size + 1, 0, none⟩ 1 1 [.int .i64 ((c : Int) / 16), .int .i64 ((c : Int) % 16), .string ((ByteArray.mk q.s.toArray).extract 0 n)] rfl rfl ?c1 ?c2 ?c3 ?c4 ?c5 ?_)
              case c2 => exact ⟨rfl, rfl, rfl⟩
              case c3 => unfold maxLen; omega
              case c4 => omega
              case c5 => omega
              intro v' w2 hown2 hg hfresh
              have hx := HR.out
              rw [HF.out, refR_ok _ _ _ _ _ HG4.out rfl] at hx
              have hown3 : w2.ownsRow w.heap.size 49 3 v' (lk ++ [Fm.mk ((c / 16 : Nat) : Int) ((c % 16 : Nat) : Int) (q.s.take n)]).length ((lk ++ [Fm.mk ((c / 16 : Nat) : Int) ((c % 16 : Nat) : Int) (q.s.take n)]).flatMap frE) := by rw [List.length_append, flat_snoc]; rw [ex_take] at hown2; exact hown2
              have hff2 : Fr [] w w2 := ((hfr1.out.alloc _).alloc _).app ((hown1.out.alloc _).alloc _) (Nat.le_refl _) hg
              have hb2 : w2.heap[w1.heap.size]? = some (.cells #[.string ⟨q.s.toArray⟩, .int .i64 q.e] 59 (0, 0)) := grown_blk hg (blk_old (blk_new _ _) _) (own_ge hown1.out (Nat.le_refl _))
              obtain ⟨c0, c1, f0, f1, hbl2⟩ := blk2_facts hb2
              have H1 := Lib.hid hown3
              have H3 := Lib.hid hff2
              have H5 := Lib.hid hx
              obtain ⟨A', cp', rfl⟩ := own_shape hown3
              clear hown2 hown3 hff2 hx hg hfresh hb2
              go_wp2
              rw [ex_drop _ _ _ (Nat.le_refl _)]
              go_roundw
              case rel => exact ⟨k + 1, lk ++ [Fm.mk ((c / 16 : Nat) : Int) ((c % 16 : Nat) : Int) (q.s.take n)], q.s.drop n, by go_num, rfl, by omega, by simp; omega, by rw [List.length_drop]; omega, by rw [← H5.out, show s.length + 1 - (k + 1) = s.length - k from by omega]; rfl, H1.out, H3.out⟩
              case measure => simp [intOf]; omega
        · have t1 : (q.e != 0) = true := by simpa using q0
          have HG2 : Hid (nextR m sk 0 = if q.e = 1 then noF 1 sk 0 else noF q.e [] q.e) := Lib.hid (by
            rw [HG.out]; split
            · rfl
            · first | rfl | rw [if_pos q0])
          have Q0 := Lib.hid q0
          clear q0
          go_wp2
          go_quiet (fail)
          go_wp2
          go_ret3
          have he : (nextR m sk 0).e = q.e := by
            rw [HG2.out]; split
            · rename_i h; rw [h]; rfl
            · rfl
          rw [← HR.out, HF.out, refR_err _ _ _ _ _ rfl (by rw [he]; exact Q0.out), he]
          exact ⟨_, rfl, (hown1.out.alloc _), (hfr1.out.alloc _).drewN _⟩
      · have hk' : chk ((c / 16 : Nat) : Int) ((c % 16 : Nat) : Int) = false := by simpa using hk
        have HG := Lib.hid (nextR_two m sk c HN.out HC.out hk')
        rw [hk']
        clear hk hk'
        go_wp2
        go_ret3
        rw [← HR.out, HF.out, refR_err _ _ _ _ _ HG.out (by simp [noF])]
        exact ⟨_, rfl, Hown.out, Hfr.out⟩
    · obtain rfl : k = s.length + 1 := by omega
      go_wp2
      go_ret3
      rw [← HR.out, Nat.sub_self]
      exact ⟨_, rfl, Hown.out, Hfr.out⟩
end Go.Proofs.Ytlnlolhihodgoaa
