/- What 'all', the reference's All, Same, and 'awake' of layer 5 come to. -/
import Derived.Test.YtlnlolhihodgoaaFrameText
import Derived.Test.YtlnlolhihodgoaaSlices
namespace Go.Proofs.Ytlnlolhihodgoaa
open Go.RowKit

structure Fm where
  k : Int
  f : Int
  b : List UInt8
deriving DecidableEq
def frE (x : Fm) : List Value := [.int .i64 x.k, .int .i64 x.f, .string ⟨x.b.toArray⟩]
theorem frE_len (x : Fm) : (frE x).length = 3 := rfl
def Got.fm (g : Got) : Fm := ⟨g.k, g.f, g.b⟩
/-- Packets till there is none. -/
def allR (m : Int) : Nat → List UInt8 → Int → List Fm → List Fm × Int × List UInt8 × Int
  | 0, s, x, l => (l, 0, s, x)
  | n + 1, s, x, l => if (nextR m s x).e ≠ 0 then (l, (nextR m s x).e, (nextR m s x).s, (nextR m s x).x) else allR m n (nextR m s x).s (nextR m s x).x (l ++ [(nextR m s x).fm])
theorem nextR_len (m : Int) (s : List UInt8) (x : Int) : (nextR m s x).s.length ≤ s.length := by
  have h := varGo_left2 3 1 0 ⟨s.drop 1, 0⟩
  have h' : (Rd.var ⟨s.drop 1, 0⟩).2.s.length ≤ s.length - 1 := by rw [← List.length_drop]; exact h
  unfold nextR noF
  repeat' split
  all_goals first | exact Nat.le_refl _ | exact Nat.zero_le _ | (simp only [List.length_drop] at *; omega)
theorem Try.infoFm : (Try.prog.info? 39).map (fun i => (i.zero, i.size, i.bytes)) = some (some (.agg #[.int .i64 0, .int .i64 0, .string ⟨#[]⟩]), 3, 32) := by kernel_rfl
def AllTo (b : Nat) (m : Int) (R : List Fm × Int × List UInt8 × Int) (base : Nat) (v : Value) (w : World) (e : Ending) (w' : World) : Prop :=
  ∃ v', e = .returned (.tuple #[v', .int .i64 R.2.1]) ∧ w'.ownsRow base 39 3 v' R.1.length (R.1.flatMap frE) ∧ RdrAt w' b m R.2.2.1 R.2.2.2 ∧ Fr (b :: v.ownBlock.toList) w w' ∧ (v'.ownBlock = v.ownBlock ∨ ∃ g, v'.ownBlock = some g ∧ w.heap.size ≤ g)
set_option maxHeartbeats 1000000 in
theorem all_any (b : Nat) (m : Int) (s : List UInt8) (x : Int) (v : Value) (l : List Fm) (base : Nat) (w : World) (h : RdrAt w b m s x) (ho : w.ownsRow base 39 3 v l.length (l.flatMap frE)) (hb : base ≤ w.heap.size) (hs : s.length ≤ 9223372036854775807) (hl : l.length ≤ 100000) :
    Calls Try.prog 17 #[.pointer (some ⟨b, 0, none⟩), v] w (AllTo b m (allR m 400 s x l) base v w) := by
  obtain ⟨i0, hi, hz0, hz1, hz2⟩ := info_parts Try.infoFm
  go_enter Try.func17, Try.ntmps17
  go_wp2
  go_loopw [1, 6] (fun hv i wr => ∃ (k : Nat) (lk : List Fm) (sk : List UInt8) (xk : Int), i = .int .i64 k ∧ k ≤ 400 ∧ lk.length ≤ l.length + k ∧ sk.length ≤ s.length ∧ allR m (400 - k) sk xk lk = allR m 400 s x l ∧ wr.ownsRow base 39 3 hv lk.length (lk.flatMap frE) ∧ RdrAt wr b m sk xk ∧ Fr (b :: v.ownBlock.toList) w wr ∧ (hv.ownBlock = v.ownBlock ∨ ∃ g, hv.ownBlock = some g ∧ w.heap.size ≤ g)) (fun _ i _ => 400 - (intOf i).toNat)
  case atStart => exact ⟨0, l, s, x, rfl, by omega, by omega, by omega, rfl, ho, h, Fr.refl _ _, Or.inl rfl⟩
  case round =>
    obtain ⟨k, lk, sk, xk, rfl, hk, hlk, hsk, hR, hown, hrd, hfr, hbl⟩ := hrel
    have hne := own_ne hown hrd.blk (by decide)
    by_cases hk4 : (k : Int) < 400
    · go_wp2_with fail
      refine (next_any b m sk xk _ hrd (by omega)).mono ?_
      rintro _ w1 ⟨rfl, hrd1, hf1⟩
      have hg := nextR_len m sk xk
      have hR1 : allR m (400 - k) sk xk lk = if (nextR m sk xk).e ≠ 0 then (lk, (nextR m sk xk).e, (nextR m sk xk).s, (nextR m sk xk).x) else allR m (400 - (k + 1)) (nextR m sk xk).s (nextR m sk xk).x (lk ++ [(nextR m sk xk).fm]) := by
        rw [show 400 - k = (400 - (k + 1)) + 1 from by omega]; rfl
      rw [hR] at hR1
      obtain ⟨g, hg0⟩ : ∃ g, nextR m sk xk = g := ⟨_, rfl⟩
      rw [hg0] at hR1 hrd1 hg ⊢
      clear hg0
      obtain ⟨gk, gf, gb, ge, gs, gx⟩ := g
      dsimp only at hR1 hrd1 hg ⊢
      have hown1 := own_fr hf1 hown (fun g hg1 => by simp; rintro rfl; exact hne hg1)
      have hsz1 := hf1.size
      have hff1 : Fr (b :: v.ownBlock.toList) w w1 := hfr.trans hf1 (by intro x _ hx; simp at hx; simp [hx])
      have HR := Lib.hid hR
      have HR1 := Lib.hid hR1
      have Hff := Lib.hid hff1
      have Hb1 := Lib.hid hrd1
      have Hbl := Lib.hid hbl
      have hszw := hfr.size
      have hbb := blk_lt hrd1.blk
      have Hne := Lib.hid hne
      clear hR hR1 hfr hf1 hrd hrd1 hown hbl hff1 hne
      obtain ⟨A, cp, rfl⟩ := own_shape hown1
      have Hown := Lib.hid hown1
      clear hown1
      by_cases he : ge = 0
      · subst he
        go_wp2_with (at_builtin; refine wpl_app _ rfl (.tmp 22) (.tmp 24) 27 rfl base 39 i0 (.agg #[.int .i64 0, .int .i64 0, .string ⟨#[]⟩]) 3 32 Try.underlying27 hi hz0 hz1 hz2 rfl (by decide) _ lk.length (lk.flatMap frE) rfl ((Hown.out.alloc _).alloc _) ⟨w1.heap.size + 1, 0, none⟩ 1 1 [.int .i64 gk, .int .i64 gf, .string ⟨gb.toArray⟩] rfl rfl ?c1 ?c2 ?c3 ?c4 ?c5 ?_)
        case c1 => exact news_at (w1.alloc _) (w1.heap.size + 1) (by simp) _ _
        case c2 => intro u hu; simp at hu; rcases hu with rfl | rfl | rfl <;> rfl
        case c3 => unfold maxLen; omega
        case c4 => omega
        case c5 => simp; omega
        intro v' w2 hown2 hg hfresh
        have hown3 : w2.ownsRow base 39 3 v' (lk ++ [Fm.mk gk gf gb]).length ((lk ++ [Fm.mk gk gf gb]).flatMap frE) := by rw [List.length_append, flat_snoc]; exact hown2
        have hrd2 : RdrAt w2 b m gs gx := ⟨grown_blk hg (blk_old (blk_old Hb1.out.blk _) _) Hne.out⟩
        have hff2 : Fr (b :: v.ownBlock.toList) w w2 := ((Hff.out.alloc _).alloc _).row hg Hbl.out (by intro k hk; simp [hk])
        have hfb := fresh_step Hbl.out hfresh (by simp; omega)
        have hx := HR1.out
        rw [if_neg (by simp)] at hx
        have H1 := Lib.hid hown3
        have H2 := Lib.hid hrd2
        have H3 := Lib.hid hff2
        have H4 := Lib.hid hfb
        have H5 := Lib.hid hx
        clear hown2 hown3 hrd2 hff2 hfb hx hg hfresh
        go_wp2
        go_roundw
        case rel => exact ⟨k + 1, lk ++ [Fm.mk gk gf gb], gs, gx, by go_num, by omega, by simp; omega, by omega, H5.out.symm, H1.out, H2.out, H3.out, H4.out⟩
        case measure => simp [intOf]; omega
      · have he1 : (ge == 0) = false := by simpa using he
        have he2 : (ge != 0) = true := by simpa using he
        have He := Lib.hid he
        clear he
        go_wp2
        go_ret2
        have hx := HR1.out
        rw [if_pos He.out] at hx
        rw [hx]
        exact ⟨_, rfl, Hown.out.alloc _, ⟨blk_old Hb1.out.blk _⟩, Hff.out.alloc _, Hbl.out⟩
    · have : k = 400 := by omega
      subst this
      go_wp2
      go_ret2
      rw [← hR]
      exact ⟨_, rfl, hown, hrd, hfr, hbl⟩
end Go.Proofs.Ytlnlolhihodgoaa
