/- What package subscribe reads: the beginning, a subscribe. Conditions: strings that may be. -/
import Derived.Test.YthioageiebchlaaSuA
import Derived.Test.YthioageiebchlaaWord
import Derived.Test.YthioageiebchlaaRes
namespace Go.Proofs.Ythioageiebchlaa
open Go.RowKit
set_option linter.unusedVariables false
set_option linter.unusedSimpArgs false

def BgTo (B : Bg) (w : World) (e : Ending) (w' : World) : Prop :=
  ∃ v b, e = .returned (.tuple #[.pointer (some ⟨b, 0, none⟩), .int .u32 (B.id : Int), v]) ∧ InAt w' b B.r ∧ w'.ownsRow w.heap.size 116 4 v B.props.length (B.props.flatMap prE) ∧ w.heap.size ≤ b ∧ Fr [] w w'
set_option maxRecDepth 100000 in
set_option maxHeartbeats 4000000 in
theorem pbegin_any (k : Int) (s : List UInt8) (w : World) (hs : s.length ≤ 1000000) :
    Calls Try.prog 33 #[.string ⟨s.toArray⟩, .int .i64 k] w (BgTo (beginR k s) w) := by
  have HB : Hid (beginR k s = ⟨(Rd.ident ⟨s, 0⟩).1, (takeP (Rd.ident ⟨s, 0⟩).2 k false).1, (takeP (Rd.ident ⟨s, 0⟩).2 k false).2.more⟩) := Lib.hid rfl
  have hil : (Rd.ident ⟨s, 0⟩).2.s.length ≤ s.length := ident_left ⟨s, 0⟩
  have HI : Hid (Rd.ident ⟨s, 0⟩ = ((Rd.num ⟨s, 0⟩ 2).1, if (Rd.num ⟨s, 0⟩ 2).1 = 0 then (Rd.num ⟨s, 0⟩ 2).2.fail 3 else (Rd.num ⟨s, 0⟩ 2).2)) := Lib.hid rfl
  go_enter Try.func33, Try.ntmps33
  go_wp2_with fail
  refine (over_any s _).mono ?_
  rintro _ w1 ⟨rfl, h1, g1⟩
  go_wp2_with fail
  refine (intwo_any _ ⟨s, 0⟩ _ h1 (by show s.length ≤ _; omega)).mono ?_
  rintro _ w2 ⟨rfl, h2, g2⟩
  have F2 := Lib.hid (g1.trans g2 (by intro x hx h; simp at h; omega))
  have z1 := g1.size
  have hbl := blk_lt h2
  generalize Rd.num ⟨s, 0⟩ 2 = T at *
  obtain ⟨n, q⟩ := T
  dsimp only at h2 HI ⊢
  clear h1 g1 g2
  go_upto_region 3 with (fail)
  go_cut [20] (fun v20 wx => v20 = .bool (decide (q.e = 0) && decide (n = 0)) ∧ w2 = wx)
  case first =>
    by_cases he : q.e = 0
    · have e0 : (q.e == 0) = true := by simpa using he
      have d0 : decide (q.e = 0) = true := by simpa using he
      have d1 : ((n : Int) == 0) = decide (n = 0) := by by_cases h : n = 0 <;> simp [h]
      clear he
      go_wp2_with fail
      refine (err_any _ _ _ h2).mono ?_
      rintro _ _ ⟨rfl, rfl⟩
      go_wp2
      go_meet
      rw [d0, Bool.true_and]
      exact ⟨rfl, rfl⟩
    · have e0 : (q.e == 0) = false := by simpa using he
      have d0 : decide (q.e = 0) = false := by simpa using he
      clear he
      go_wp2_with fail
      refine (err_any _ _ _ h2).mono ?_
      rintro _ _ ⟨rfl, rfl⟩
      go_wp2
      go_meet
      rw [d0, Bool.false_and]
      exact ⟨rfl, rfl⟩
  case rest =>
  obtain ⟨rfl, hwc⟩ := hcut
  rw [← hwc]
  clear hwc
  clear wc
  have HI3 : Hid (Rd.ident ⟨s, 0⟩ = (n, if (decide (q.e = 0) && decide (n = 0)) = true then q.fail 3 else q)) := Lib.hid (by
    rw [HI.out]
    by_cases he : q.e = 0
    · by_cases hn : n = 0 <;> simp [he, hn]
    · rw [fail_bad q 3 he]; simp)
  clear HI
  generalize hX : Rd.ident ⟨s, 0⟩ = X at *
  clear hX
  generalize (decide (q.e = 0) && decide (n = 0)) = bb at *
  go_upto_if 20 with (fail)
  go_cut [] (fun wx => InAt wx w.heap.size X.2 ∧ Fr [] w wx)
  case first =>
    cases bb
    · rw [if_neg (by decide)] at HI3
      go_wp2
      go_meet
      rw [HI3.out]
      exact ⟨h2, F2.out⟩
    · rw [if_pos rfl] at HI3
      go_wp2_with fail
      refine (fail_any _ _ 3 _ h2).mono ?_
      rintro _ w3 ⟨rfl, h3, g3⟩
      go_wp2
      go_meet
      rw [HI3.out]
      exact ⟨h3, F2.out.trans g3 (by intro x hx h; simp at h; omega)⟩
  case rest =>
    obtain ⟨i3, f3⟩ := hcut
    have HX1 : Hid (X.1 = n) := Lib.hid (by rw [HI3.out])
    generalize wc = y at *
    clear F2 h2 HI3
    go_wp2_with fail
    refine (ptake_any _ _ k false _ i3 (by omega)).mono ?_
    rintro _ y5 ⟨v, rfl, own5, _, i5, g5⟩
    rw [HX1.out] at HB
    generalize takeP X.2 k false = R at *
    obtain ⟨l, r4⟩ := R
    dsimp only at own5 i5 HB ⊢
    have f5 := Lib.hid (f3.trans g5 (by intro x hx h; simp at h; omega))
    have own5 := Lib.hid (own_base own5 (base' := w.heap.size) (fun k hk => by have := (own5.lt k hk).1; have := f3.size; omega))
    clear f3 g5 i3
    obtain ⟨A4, c4, rfl⟩ := own_shape own5.out
    have HM : Hid (r4.more = if r4.s = [] then r4.fail 3 else r4) := Lib.hid rfl
    go_upto_region 6 with (fail)
    have HM2 : Hid (r4.more = if (decide (r4.e = 0) && decide (r4.s = [])) = true then r4.fail 3 else r4) := Lib.hid (by
      rw [HM.out]
      by_cases he : r4.e = 0
      · by_cases hn : r4.s = [] <;> simp [he, hn]
      · rw [fail_bad r4 3 he]; simp)
    go_cut [33] (fun v33 wx => v33 = .bool (decide (r4.e = 0) && decide (r4.s = [])) ∧ y5 = wx)
    case first =>
      by_cases he : r4.e = 0
      · have e0 : (r4.e == 0) = true := by simpa using he
        have d0 : decide (r4.e = 0) = true := by simpa using he
        have d1 : ((r4.s.length : Int) == 0) = decide (r4.s = []) := by
          by_cases h : r4.s = []
          · simp [h]
          · have := List.length_pos_iff.2 h
            simp [h]
        clear he HM HM2
        go_wp2_with fail
        refine (err_any _ _ _ i5).mono ?_
        rintro _ _ ⟨rfl, rfl⟩
        go_wp2_with fail
        refine (left_any _ _ _ i5).mono ?_
        rintro _ _ ⟨rfl, rfl⟩
        obtain ⟨b3, hb3⟩ : ∃ b, decide (r4.s = []) = b := ⟨_, rfl⟩
        rw [hb3] at d1
        have HB3 := Lib.hid hb3
        clear hb3
        go_wp2
        go_meet
        rw [d0, Bool.true_and, HB3.out]
        exact ⟨rfl, rfl⟩
      · have e0 : (r4.e == 0) = false := by simpa using he
        have d0 : decide (r4.e = 0) = false := by simpa using he
        clear he HM HM2
        go_wp2_with fail
        refine (err_any _ _ _ i5).mono ?_
        rintro _ _ ⟨rfl, rfl⟩
        go_wp2
        go_meet
        rw [d0, Bool.false_and]
        exact ⟨rfl, rfl⟩
    case rest =>
    obtain ⟨rfl, hwc⟩ := hcut
    rw [← hwc]
    clear hwc HM
    clear wc
    generalize hY : r4.more = Y at *
    clear hY
    generalize (decide (r4.e = 0) && decide (r4.s = [])) = bb at *
    go_upto_if 33 with (fail)
    go_cut [] (fun wx => InAt wx w.heap.size Y ∧ wx.ownsRow w.heap.size 116 4 (.slice A4 l.length c4) l.length (l.flatMap prE) ∧ Fr [] w wx)
    case first =>
      cases bb
      · rw [if_neg (by decide)] at HM2
        go_wp2
        go_meet
        rw [HM2.out]
        exact ⟨i5, own5.out, f5.out⟩
      · rw [if_pos rfl] at HM2
        go_wp2_with fail
        refine (fail_any _ _ 3 _ i5).mono ?_
        rintro _ w3 ⟨rfl, h3, g3⟩
        go_wp2
        go_meet
        rw [HM2.out]
        exact ⟨h3, own_fr g3 own5.out (by intro g hg h; simp at h; subst h; exact own_ne own5.out i5 (by decide) hg), f5.out.trans g3 (by intro x hx h; simp at h; omega)⟩
    case rest =>
      obtain ⟨i6, own6, f6⟩ := hcut
      go_wp2
      refine bodyPost_ret (v := .tuple #[.pointer (some ⟨w.heap.size, 0, none⟩), .int .u32 (n : Int), .slice A4 l.length c4]) (by simp [results, Try.results33, go_sem]) rfl ?_
      rw [HB.out]
      exact ⟨_, _, rfl, i6, own6, Nat.le_refl _, f6⟩
/-- Behind Parse. -/
def SuTo (R : Su × Int) (w : World) (e : Ending) (w' : World) : Prop :=
  ∃ v u, e = .returned (.tuple #[.agg (suC R.1 v u).toArray, .int .i64 R.2]) ∧ View w' v R.1.props.length (R.1.props.flatMap prE) ∧ View w' u R.1.subs.length (R.1.subs.flatMap sbE) ∧ Fr [] w w'
theorem subits : ∀ f : Fin 256, bits .and .u8 (f.val : Int) 3 = ((f.val % 4 : Nat) : Int) ∧ decide (0 < bits .and .u8 (f.val : Int) 4) = decide (f.val / 4 % 2 = 1) ∧ decide (0 < bits .and .u8 (f.val : Int) 8) = decide (f.val / 8 % 2 = 1) ∧ bits .and .u8 ((f.val : Int) / 16) 3 = ((f.val / 16 % 4 : Nat) : Int) := by decide +kernel
def inM (b : Nat) (w : World) : Nat := match w.cell? ⟨b, 0, none⟩, w.cell? ⟨b, 1, none⟩ with
  | some (.string s), some (.int _ e) => if e = 0 then s.size + 1 else 0
  | _, _ => 0
theorem inM_at {w : World} {b : Nat} {r : Rd} (h : InAt w b r) : inM b w = if r.e = 0 then r.s.length + 1 else 0 := by
  obtain ⟨h0, h1, _⟩ := h.facts
  unfold inM
  rw [h0, h1]
  show (if r.e = 0 then (ByteArray.mk r.s.toArray).size + 1 else 0) = _
  rfl
theorem Try.infoSb : (Try.prog.info? 35).map (fun i => (i.zero, i.size, i.bytes)) = some (some (.agg #[.string ⟨#[]⟩, .int .u8 0, .bool false, .bool false, .int .u8 0]), 5, 24) := by kernel_rfl
/-- While Parse runs: the result's block, the subscribe's, the reader. -/
structure SuS (w : World) (id : Nat) (lp : List Pr) (AP : Option Addr) (cp : Nat) (b B : Nat) (l : List Sb) (A : Option Addr) (c : Nat) (q : Rd) (y : World) : Prop where
  z : y.heap[w.heap.size]? = some (.cells #[.int .u32 0, .slice none 0 0, .slice none 0 0] 27 (0, 0))
  s : y.heap[B]? = some (.cells #[.int .u32 (id : Int), .slice AP lp.length cp, .slice A l.length c] 27 (0, 0))
  i : InAt y b q
  p : y.ownsRow w.heap.size 116 4 (.slice AP lp.length cp) lp.length (lp.flatMap prE)
  o : y.ownsRow w.heap.size 35 5 (.slice A l.length c) l.length (l.flatMap sbE)
  f : Fr [] w y
  bl : w.heap.size < b
  Bl : w.heap.size < B
theorem SuS.go {w : World} {id : Nat} {lp : List Pr} {AP : Option Addr} {cp : Nat} {b B : Nat} {l : List Sb} {A : Option Addr} {c : Nat} {q : Rd} {y : World} (h : SuS w id lp AP cp b B l A c q y) {y' : World} {q' : Rd} (g : Fr [b] y y') (hi : InAt y' b q') : SuS w id lp AP cp b B l A c q' y' :=
  ⟨g.blk h.z (by simp; exact Nat.ne_of_lt h.bl), g.blk h.s (by simp; rintro rfl; have := h.s.symm.trans h.i; cases this), hi,
    own_fr g h.p (by intro k hk e; simp at e; subst e; exact own_ne h.p h.i (by decide) hk), own_fr g h.o (by intro k hk e; simp at e; subst e; exact own_ne h.o h.i (by decide) hk),
    h.f.trans g (by intro x hx e; simp at e; have := h.bl; omega), h.bl, h.Bl⟩
theorem SuS.old {w : World} {id : Nat} {lp : List Pr} {AP : Option Addr} {cp : Nat} {b B : Nat} {l : List Sb} {A : Option Addr} {c : Nat} {q : Rd} {y : World} (h : SuS w id lp AP cp b B l A c q y) {y' : World} (g : Fr [] y y') : SuS w id lp AP cp b B l A c q y' :=
  ⟨g.blk h.z (by simp), g.blk h.s (by simp), h.i.fr g (by simp), own_fr g h.p (by simp), own_fr g h.o (by simp), h.f.trans g (by simp), h.bl, h.Bl⟩
end Go.Proofs.Ythioageiebchlaa
