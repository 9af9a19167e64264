/- What package subscribe reads as an unsubscribe. Conditions: strings that may be. -/
import Derived.Test.YthioageiebchlaaSuC
namespace Go.Proofs.Ythioageiebchlaa
open Go.RowKit
set_option linter.unusedVariables false
set_option linter.unusedSimpArgs false

theorem Try.infoStr : (Try.prog.info? 9).map (fun i => (i.zero, i.size, i.bytes)) = some (some (.string ⟨#[]⟩), 1, 16) := by kernel_rfl
/-- Behind Parse. -/
def UnTo (R : Un × Int) (w : World) (e : Ending) (w' : World) : Prop :=
  ∃ v u, e = .returned (.tuple #[.agg (unC R.1 v u).toArray, .int .i64 R.2]) ∧ View w' v R.1.props.length (R.1.props.flatMap prE) ∧ View w' u R.1.filters.length (R.1.filters.flatMap strE) ∧ Fr [] w w'
/-- While Parse runs: the result's block, the subscribe's, the reader. -/
structure UnS (w : World) (id : Nat) (lp : List Pr) (AP : Option Addr) (cp : Nat) (b B : Nat) (l : List (List UInt8)) (A : Option Addr) (c : Nat) (q : Rd) (y : World) : Prop where
  z : y.heap[w.heap.size]? = some (.cells #[.int .u32 0, .slice none 0 0, .slice none 0 0] 43 (0, 0))
  s : y.heap[B]? = some (.cells #[.int .u32 (id : Int), .slice AP lp.length cp, .slice A l.length c] 43 (0, 0))
  i : InAt y b q
  p : y.ownsRow w.heap.size 116 4 (.slice AP lp.length cp) lp.length (lp.flatMap prE)
  o : y.ownsRow w.heap.size 9 1 (.slice A l.length c) l.length (l.flatMap strE)
  f : Fr [] w y
  bl : w.heap.size < b
  Bl : w.heap.size < B
theorem UnS.go {w : World} {id : Nat} {lp : List Pr} {AP : Option Addr} {cp : Nat} {b B : Nat} {l : List (List UInt8)} {A : Option Addr} {c : Nat} {q : Rd} {y : World} (h : UnS w id lp AP cp b B l A c q y) {y' : World} {q' : Rd} (g : Fr [b] y y') (hi : InAt y' b q') : UnS w id lp AP cp b B l A c q' y' :=
  ⟨g.blk h.z (by simp; exact Nat.ne_of_lt h.bl), g.blk h.s (by simp; rintro rfl; have := h.s.symm.trans h.i; cases this), hi,
    own_fr g h.p (by intro k hk e; simp at e; subst e; exact own_ne h.p h.i (by decide) hk), own_fr g h.o (by intro k hk e; simp at e; subst e; exact own_ne h.o h.i (by decide) hk),
    h.f.trans g (by intro x hx e; simp at e; have := h.bl; omega), h.bl, h.Bl⟩
theorem UnS.old {w : World} {id : Nat} {lp : List Pr} {AP : Option Addr} {cp : Nat} {b B : Nat} {l : List (List UInt8)} {A : Option Addr} {c : Nat} {q : Rd} {y : World} (h : UnS w id lp AP cp b B l A c q y) {y' : World} (g : Fr [] y y') : UnS w id lp AP cp b B l A c q y' :=
  ⟨g.blk h.z (by simp), g.blk h.s (by simp), h.i.fr g (by simp), own_fr g h.p (by simp), own_fr g h.o (by simp), h.f.trans g (by simp), h.bl, h.Bl⟩
theorem un_row (A B : Option Addr) (n m k l : Nat) (i : Int) : ((#[.int .u32 i, .slice A n m, .slice B k l] : Array Value).all fun x => x.oneCell') = true := by
  simp; exact ⟨rfl, rfl, rfl⟩
/-- Another block, made behind the rows, turns. -/
theorem UnS.far {w : World} {id : Nat} {lp : List Pr} {AP : Option Addr} {cp : Nat} {b B : Nat} {l : List (List UInt8)} {A : Option Addr} {c : Nat} {q : Rd} {y : World} (h : UnS w id lp AP cp b B l A c q y) {y' : World} {X : Nat} (g : Fr [X] y y') (hw : w.heap.size < X) (hB : B ≠ X) (hb : b ≠ X)
    (hp : ∀ k, (Value.slice AP lp.length cp).ownBlock = some k → k < X) (ho : ∀ k, (Value.slice A l.length c).ownBlock = some k → k < X) : UnS w id lp AP cp b B l A c q y' :=
  ⟨g.blk h.z (by simp; omega), g.blk h.s (by simpa using hB), h.i.fr g (by simpa using hb), own_fr g h.p (by intro k hk e; have := hp k hk; simp at e; omega), own_fr g h.o (by intro k hk e; have := ho k hk; simp at e; omega), h.f.trans g (by intro x hx e; simp at e; omega), h.bl, h.Bl⟩
/-- A row more. -/
theorem UnS.app {w : World} {id : Nat} {lp : List Pr} {AP : Option Addr} {cp : Nat} {b B : Nat} {l : List (List UInt8)} {A : Option Addr} {c : Nat} {q : Rd} {y : World} (h : UnS w id lp AP cp b B l A c q y) {y' : World} {x : List UInt8} {A' : Option Addr} {c' : Nat}
    (hg : y.grownBy y' (Value.slice A l.length c).ownBlock) (ho : y'.ownsRow w.heap.size 9 1 (.slice A' (l.length + 1) c') (l.length + 1) (l.flatMap strE ++ strE x)) :
    UnS w id lp AP cp b B (l ++ [x]) A' c' q (y'.setCell ⟨B, 2, none⟩ (.slice A' (l.length + 1) c')) := by
  have e : (l ++ [x]).length = l.length + 1 := by simp
  have e2 : (l ++ [x]).flatMap strE = l.flatMap strE ++ strE x := flat_snoc _ _ _
  have hz := grown_blk hg h.z (own_ne h.o h.z (by decide))
  have hs := grown_blk hg h.s (own_ne h.o h.s (by decide))
  have hi : InAt y' b q := grown_blk hg h.i (own_ne h.o h.i (by decide))
  have hp := grown_own hg h.p (own_apart h.p h.o (by decide))
  have hbB : B ≠ b := by rintro rfl; have := h.s.symm.trans h.i; cases this
  have hBl := h.Bl
  refine ⟨blk_far hz (by simp; omega) _, ?_, hi.fr (S := [B]) ((Fr.refl _ _).setCell (Or.inr (by simp)) _) (by simpa using hbB.symm), own_set hp (by intro e; exact own_ne hp hs (by decide) e.symm) _, ?_, (h.f.app h.o (Nat.le_refl _) hg).setCell (Or.inl (by simp; omega)) _, h.bl, h.Bl⟩
  · rw [e]; exact blk_set hs 2 _
  · rw [e, e2]; exact own_set ho (by intro e; exact own_ne ho hs (by decide) e.symm) _
set_option maxRecDepth 100000 in
set_option maxHeartbeats 8000000 in
theorem unparse_any (s : List UInt8) (w : World) (hs : s.length ≤ 1000000) :
    Calls Try.prog 25 #[.string ⟨s.toArray⟩] w (UnTo (unParse s) w) := by
  obtain ⟨i0, hi, hz0, hz1, hz2⟩ := info_parts Try.infoStr
  have HR : Hid (unParse s = if (filtersR (beginR 10 s).r).2.ends = 0 then (⟨(beginR 10 s).id, (beginR 10 s).props, (filtersR (beginR 10 s).r).1⟩, 0) else (noUn, (filtersR (beginR 10 s).r).2.ends)) := Lib.hid rfl
  have hbg := begin_left 10 s
  have F0 : Fr [] w (w.alloc (.cells #[.int .u32 0, .slice none 0 0, .slice none 0 0] 43)) := (Fr.refl _ _).alloc _
  have hb0 := blk_new w (.cells #[.int .u32 0, .slice none 0 0, .slice none 0 0] 43)
  go_enter Try.func25, Try.ntmps25
  go_wp2_with fail
  refine (pbegin_any 10 s _ hs).mono ?_
  rintro _ w1 ⟨v, b, rfl, h1, own1, hb1, g1⟩
  generalize beginR 10 s = BG at *
  obtain ⟨id, lp, r0⟩ := BG
  dsimp only at HR hbg h1 own1 ⊢
  obtain ⟨AP, cp, rfl⟩ := own_shape own1
  have hwb : w.heap.size < b := by simp at hb1; omega
  have hb1w := blk_lt h1
  have g2 := (g1.alloc (.cells #[.int .u32 (id : Int), .slice AP lp.length cp, .slice none 0 0] 43))
  have g3 := (Fr.refl [] w1).alloc (.cells #[.int .u32 (id : Int), .slice AP lp.length cp, .slice none 0 0] 43)
  have S0 : UnS w id lp AP cp b w1.heap.size [] none 0 r0 (w1.alloc (.cells #[.int .u32 (id : Int), .slice AP lp.length cp, .slice none 0 0] 43)) :=
    ⟨g2.blk hb0 (by simp), blk_new w1 _, h1.fr g3 (by simp), own_fr g3 (own_base own1 (base' := w.heap.size) (fun k hk => by have := (own1.lt k hk).1; simp at this; omega)) (by simp), World.ownsRow_nil _ _ _ _, F0.trans g2 (by simp), hwb, by omega⟩
  have HL0 := Lib.hid (unL_start r0)
  have hB1 : w1.heap.size ≠ b := by omega
  generalize hRR : filtersR r0 = RR at *
  clear hRR
  have S0 := Lib.hid S0
  clear F0 hb0 h1 own1 hb1 g1 g2 g3
  go_wp2_with fail
  generalize w1.alloc (.cells #[.int .u32 (id : Int), .slice AP lp.length cp, .slice none 0 0] 43) = y0 at *
  generalize w1.heap.size = B at *
  go_loopw [] (fun wr => ∃ (l : List (List UInt8)) (A : Option Addr) (c : Nat) (q : Rd), Hid (UnL RR r0.s.length l q) ∧ UnS w id lp AP cp b B l A c q wr) (fun wr => inM b wr)
  case atStart => exact ⟨[], none, 0, r0, HL0, S0.out⟩
  case round =>
    clear HL0 S0
    obtain ⟨l, A, c, q, HL, hS⟩ := hrel
    have hql : q.s.length ≤ 1000000 := by have := HL.out.1; omega
    have hbB := hS.bl
    have hBB := hS.Bl
    by_cases hqs : q.s = []
    · have HR0 := Lib.hid (unL_end HL.out (Or.inl hqs))
      have hl0 : decide ((0 : Int) < (q.s.length : Int)) = false := by rw [hqs]; rfl
      have hl1 : ¬ ((0 : Int) < (q.s.length : Int)) := by rw [hqs]; simp
      have HS := Lib.hid hS
      clear hqs
      go_wp2_with fail
      refine (left_any _ q _ HS.out.i).mono ?_
      rintro _ x1 ⟨rfl, rfl⟩
      clear hS
      go_wp2_with fail
      refine (end_any _ _ _ HS.out.i).mono ?_
      rintro _ _ ⟨rfl, rfl⟩
      have HR2 : Hid (unParse s = if q.ends = 0 then (⟨id, lp, l⟩, 0) else (noUn, q.ends)) := Lib.hid (by rw [HR.out, HR0.out])
      clear HR HR0
      generalize q.ends = E at *
      by_cases hE : E = 0
      · have E0 : (E != 0) = false := by simpa using hE
        rw [if_pos hE] at HR2
        clear hE
        go_upto_region 8 with (fail)
        refine wp_region_lit ?_
        refine wpList_load_mid rfl 43 _ rfl B 0 (by rfl) [.int .u32 (id : Int), .slice AP lp.length cp, .slice A l.length c] _ (range_blk HS.out.s rfl) Try.underlying43 rfl (by kernel_rfl) ?_
        refine wpList_store_row rfl 43 _ _ rfl w.heap.size #[.int .u32 (id : Int), .slice AP lp.length cp, .slice A l.length c] (by rfl) (by rfl) _ _ HS.out.z (by kernel_rfl) rfl (un_row _ _ _ _ _ _ _) ?_
        have HZ := Lib.hid (setRow_heap _ _ _ #[.int .u32 (id : Int), .slice AP lp.length cp, .slice A l.length c] _ _ HS.out.z)
        have FZ := Lib.hid (fr_row HS.out.f (g := w.heap.size) (Or.inl (Nat.le_refl _)) #[.int .u32 (id : Int), .slice AP lp.length cp, .slice A l.length c])
        have VP := Lib.hid ((own_view HS.out.p).fr (fr_row (Fr.refl [w.heap.size] _) (g := w.heap.size) (Or.inr (by simp)) #[.int .u32 (id : Int), .slice AP lp.length cp, .slice A l.length c]) (by intro k hk e; simp at e; subst e; exact own_ne HS.out.p HS.out.z (by decide) hk))
        have VU := Lib.hid ((own_view HS.out.o).fr (fr_row (Fr.refl [w.heap.size] _) (g := w.heap.size) (Or.inr (by simp)) #[.int .u32 (id : Int), .slice AP lp.length cp, .slice A l.length c]) (by intro k hk e; simp at e; subst e; exact own_ne HS.out.o HS.out.z (by decide) hk))
        go_wp2
        generalize World.setRow _ w.heap.size #[.int .u32 (id : Int), .slice AP lp.length cp, .slice A l.length c] = W5 at *
        refine bodyPost_ret (res_cell2 Try.results25 _ _ w.heap.size [.int .u32 (id : Int), .slice AP lp.length cp, .slice A l.length c] _ (.int .i64 0) (by first | kernel_rfl | rfl) (by first | kernel_rfl | rfl) (range_blk HZ.out rfl) Try.underlying43 rfl (by kernel_rfl)) rfl ?_
        rw [HR2.out]
        exact ⟨_, _, rfl, VP.out, VU.out, FZ.out⟩
      · have E0 : (E != 0) = true := by simpa using hE
        rw [if_neg hE] at HR2
        clear hE
        go_upto_region 7 with (fail)
        refine wp_region_lit ?_
        refine wpList_build rfl _ _ rfl (by kernel_rfl) ?_
        refine wpList_mv rfl _ rfl ?_
        refine wpList_store_row rfl 43 _ _ rfl w.heap.size #[.int .u32 0, .slice none 0 0, .slice none 0 0] (by rfl) (by kernel_rfl) _ _ HS.out.z (by kernel_rfl) rfl (by kernel_rfl) ?_
        have HZ := Lib.hid (setRow_heap _ _ _ #[.int .u32 0, .slice none 0 0, .slice none 0 0] _ _ HS.out.z)
        have FZ := Lib.hid (fr_row HS.out.f (g := w.heap.size) (Or.inl (Nat.le_refl _)) #[.int .u32 0, .slice none 0 0, .slice none 0 0])
        go_wp2
        generalize World.setRow _ w.heap.size #[.int .u32 0, .slice none 0 0, .slice none 0 0] = W5 at *
        refine bodyPost_ret (res_cell2 Try.results25 _ _ w.heap.size [.int .u32 0, .slice none 0 0, .slice none 0 0] _ (.int .i64 E) (by first | kernel_rfl | rfl) (by first | kernel_rfl | rfl) (range_blk HZ.out rfl) Try.underlying43 rfl (by kernel_rfl)) rfl ?_
        rw [HR2.out]
        exact ⟨_, _, rfl, View.nil _, View.nil _, FZ.out⟩
    by_cases hqe : q.e = 0
    rotate_left
    · have HR0 := Lib.hid (unL_end HL.out (Or.inr hqe))
      have hl1 : (0 : Int) < (q.s.length : Int) := by have := List.length_pos_iff.2 hqs; omega
      have t6 : (q.e == 0) = false := by simpa using hqe
      have HS := Lib.hid hS
      clear hqs hqe hS
      go_wp2_with fail
      refine (left_any _ q _ HS.out.i).mono ?_
      rintro _ x1 ⟨rfl, rfl⟩
      go_wp2_with fail
      refine (err_any _ q _ HS.out.i).mono ?_
      rintro _ x1 ⟨rfl, rfl⟩
      go_wp2_with fail
      refine (end_any _ _ _ HS.out.i).mono ?_
      rintro _ _ ⟨rfl, rfl⟩
      have HR2 : Hid (unParse s = if q.ends = 0 then (⟨id, lp, l⟩, 0) else (noUn, q.ends)) := Lib.hid (by rw [HR.out, HR0.out])
      clear HR HR0
      generalize q.ends = E at *
      by_cases hE : E = 0
      · have E0 : (E != 0) = false := by simpa using hE
        rw [if_pos hE] at HR2
        clear hE
        go_upto_region 8 with (fail)
        refine wp_region_lit ?_
        refine wpList_load_mid rfl 43 _ rfl B 0 (by rfl) [.int .u32 (id : Int), .slice AP lp.length cp, .slice A l.length c] _ (range_blk HS.out.s rfl) Try.underlying43 rfl (by kernel_rfl) ?_
        refine wpList_store_row rfl 43 _ _ rfl w.heap.size #[.int .u32 (id : Int), .slice AP lp.length cp, .slice A l.length c] (by rfl) (by rfl) _ _ HS.out.z (by kernel_rfl) rfl (un_row _ _ _ _ _ _ _) ?_
        have HZ := Lib.hid (setRow_heap _ _ _ #[.int .u32 (id : Int), .slice AP lp.length cp, .slice A l.length c] _ _ HS.out.z)
        have FZ := Lib.hid (fr_row HS.out.f (g := w.heap.size) (Or.inl (Nat.le_refl _)) #[.int .u32 (id : Int), .slice AP lp.length cp, .slice A l.length c])
        have VP := Lib.hid ((own_view HS.out.p).fr (fr_row (Fr.refl [w.heap.size] _) (g := w.heap.size) (Or.inr (by simp)) #[.int .u32 (id : Int), .slice AP lp.length cp, .slice A l.length c]) (by intro k hk e; simp at e; subst e; exact own_ne HS.out.p HS.out.z (by decide) hk))
        have VU := Lib.hid ((own_view HS.out.o).fr (fr_row (Fr.refl [w.heap.size] _) (g := w.heap.size) (Or.inr (by simp)) #[.int .u32 (id : Int), .slice AP lp.length cp, .slice A l.length c]) (by intro k hk e; simp at e; subst e; exact own_ne HS.out.o HS.out.z (by decide) hk))
        go_wp2
        generalize World.setRow _ w.heap.size #[.int .u32 (id : Int), .slice AP lp.length cp, .slice A l.length c] = W5 at *
        refine bodyPost_ret (res_cell2 Try.results25 _ _ w.heap.size [.int .u32 (id : Int), .slice AP lp.length cp, .slice A l.length c] _ (.int .i64 0) (by first | kernel_rfl | rfl) (by first | kernel_rfl | rfl) (range_blk HZ.out rfl) Try.underlying43 rfl (by kernel_rfl)) rfl ?_
        rw [HR2.out]
        exact ⟨_, _, rfl, VP.out, VU.out, FZ.out⟩
      · have E0 : (E != 0) = true := by simpa using hE
        rw [if_neg hE] at HR2
        clear hE
        go_upto_region 7 with (fail)
        refine wp_region_lit ?_
        refine wpList_build rfl _ _ rfl (by kernel_rfl) ?_
        refine wpList_mv rfl _ rfl ?_
        refine wpList_store_row rfl 43 _ _ rfl w.heap.size #[.int .u32 0, .slice none 0 0, .slice none 0 0] (by rfl) (by kernel_rfl) _ _ HS.out.z (by kernel_rfl) rfl (by kernel_rfl) ?_
        have HZ := Lib.hid (setRow_heap _ _ _ #[.int .u32 0, .slice none 0 0, .slice none 0 0] _ _ HS.out.z)
        have FZ := Lib.hid (fr_row HS.out.f (g := w.heap.size) (Or.inl (Nat.le_refl _)) #[.int .u32 0, .slice none 0 0, .slice none 0 0])
        go_wp2
        generalize World.setRow _ w.heap.size #[.int .u32 0, .slice none 0 0, .slice none 0 0] = W5 at *
        refine bodyPost_ret (res_cell2 Try.results25 _ _ w.heap.size [.int .u32 0, .slice none 0 0, .slice none 0 0] _ (.int .i64 E) (by first | kernel_rfl | rfl) (by first | kernel_rfl | rfl) (range_blk HZ.out rfl) Try.underlying43 rfl (by kernel_rfl)) rfl ?_
        rw [HR2.out]
        exact ⟨_, _, rfl, View.nil _, View.nil _, FZ.out⟩
    have HLn := Lib.hid (unL_step HL.out hqs hqe)
    have hmes : Hid (inM b wr = q.s.length + 1) := Lib.hid (by rw [inM_at hS.i, if_pos hqe])
    have hll := HL.out.2.1 hqe
    have hl1 : (0 : Int) < (q.s.length : Int) := by have := List.length_pos_iff.2 hqs; omega
    have hnx : Hid (q.str.2.e = 0 → q.str.2.s.length < q.s.length) := Lib.hid (fun h => str_less q h)
    have t6 : (q.e == 0) = true := by simpa using hqe
    have HS := Lib.hid hS
    clear hqs hqe hS HL
    go_wp2_with fail
    refine (left_any _ q _ HS.out.i).mono ?_
    rintro _ x1 ⟨rfl, rfl⟩
    go_wp2_with fail
    refine (err_any _ q _ HS.out.i).mono ?_
    rintro _ x1 ⟨rfl, rfl⟩
    go_upto_region 4 with (fail)
    have hslot := (blk3_facts HS.out.s).1.2.2
    refine wp_region_late [7] (S := fun w' => w'.cell? ⟨B, 2, none⟩ = some (.slice A l.length c)) (by kernel_rfl) hslot (fun hHeld => ?_)
    have fd := (Fr.refl [] wr).drew
    have S1 := Lib.hid (HS.out.old fd)
    obtain ⟨wd, hwd⟩ : ∃ wd, wr.drew = wd := ⟨_, rfl⟩
    rw [hwd] at hHeld S1 ⊢
    clear hwd fd hslot HS
    refine wpLate_take (i := 0) (oi := _) (v := ?_) rfl (by kernel_rfl) (by kernel_rfl) (by kernel_rfl) (by kernel_rfl) (fun _ _ _ h => h) (Gives.load (by rfl) ?_) hHeld ?_
    rotate_left
    · intro w hSw
      (try dsimp only at hSw)
      go_simp
      try with_reducible rfl
    try simp only [Act.put, List.getElem_toArray, List.getElem_cons_succ, List.getElem_cons_zero, List.setIfInBounds_toArray, List.set_cons_zero, List.set_cons_succ]
    refine wpLate_take (i := 1) (oi := _) (v := ?_) rfl (by kernel_rfl) (by kernel_rfl) (by kernel_rfl) (by kernel_rfl) (fun _ _ _ h => h) (Gives.load (by rfl) ?_) hHeld ?_
    rotate_left
    · intro w hSw
      (try dsimp only at hSw)
      go_simp
      try with_reducible rfl
    try simp only [Act.put, List.getElem_toArray, List.getElem_cons_succ, List.getElem_cons_zero, List.setIfInBounds_toArray, List.set_cons_zero, List.set_cons_succ]
    refine wpLate_take (i := 2) (oi := _) (v := ?_) rfl (by kernel_rfl) (by kernel_rfl) (by kernel_rfl) (by kernel_rfl) (fun _ _ _ h => h) (Gives.load (by rfl) ?_) hHeld ?_
    rotate_left
    · intro w hSw
      (try dsimp only at hSw)
      go_simp
      try with_reducible rfl
    try simp only [Act.put, List.getElem_toArray, List.getElem_cons_succ, List.getElem_cons_zero, List.setIfInBounds_toArray, List.set_cons_zero, List.set_cons_succ]
    refine wpLate_ready (rs := [3]) (by kernel_rfl) (by simp) ?_
    refine AllLate.cons (o := _) rfl (fun K hK => ?_) (by exact AllLate.nil)
    go_simp
    refine (take_any b q _ S1.out.i (by omega)).mono ?_
    rintro _ x1 ⟨rfl, i1, g1⟩
    go_wp2_with fail
    have S2 := Lib.hid (S1.out.go g1 i1)
    have hsl := Rd.str_left q
    generalize q.str = T at *
    obtain ⟨f, q3⟩ := T
    dsimp only at S2 i1 hsl HLn hnx ⊢
    refine hK.out _ _ (fun _ => (blk3_facts S2.out.s).1.2.2) (fun hHeld => ?_)
    replace hHeld := hHeld (by kernel_rfl)
    clear hK K S1 g1 i1
    try simp only [Act.put, List.getElem_toArray, List.getElem_cons_succ, List.getElem_cons_zero, List.setIfInBounds_toArray, List.set_cons_zero, List.set_cons_succ]
    refine wpLate_ready (rs := [4]) (by kernel_rfl) (by simp) ?_
    refine AllLate.cons (o := _) rfl (fun K hK => ?_) (by exact AllLate.nil)
    go_simp
    have S3 := S2.out.old ((Fr.refl [] x1).alloc (.cells #[.string ⟨f.toArray⟩] 9))
    have hn := blk_new x1 (.cells #[.string ⟨f.toArray⟩] 9)
    refine hK.out _ _ (fun _ => (blk3_facts S3.s).1.2.2) (fun hHeld => ?_)
    replace hHeld := hHeld (by kernel_rfl)
    clear hK K S2
    try simp only [Act.put, List.getElem_toArray, List.getElem_cons_succ, List.getElem_cons_zero, List.setIfInBounds_toArray, List.set_cons_zero, List.set_cons_succ]
    obtain ⟨y5, hy5⟩ : ∃ y5, x1.alloc (.cells #[.string ⟨f.toArray⟩] 9) = y5 := ⟨_, rfl⟩
    obtain ⟨N, hN⟩ : ∃ N, x1.heap.size = N := ⟨_, rfl⟩
    rw [hN] at hn ⊢
    rw [hy5] at S3 hn hHeld ⊢
    clear hy5 hN
    have hyl := S3.f.size
    refine wpLate_ready (rs := [5]) (by kernel_rfl) (by simp) ?_
    refine AllLate.cons (o := _) rfl (fun K hK => ?_) (by exact AllLate.nil)
    refine step_appv y5 rfl (.tmp 27) (.tmp 30) 40 rfl w.heap.size 9 i0 (.string ⟨#[]⟩) 1 16 Try.underlying40 hi hz0 hz1 hz2 rfl (by decide) _ l.length (l.flatMap strE) (by rfl) S3.o (.slice (some ⟨N, 0, none⟩) 1 1) 1 (strE f) (by rfl) rfl (view_cells hn rfl 1 1) (by intro u hu; simp [strE] at hu; subst hu; rfl) (by unfold maxLen; omega) (by omega) hyl ?_
    intro v' w9 own9 hg9 _
    obtain ⟨A9, c9, rfl⟩ := own_shape own9
    have hs9 := grown_blk hg9 S3.s (own_ne S3.o S3.s (by decide))
    have S7 := Lib.hid (S3.app hg9 own9)
    refine hK.out _ _ (fun _ => (blk3_facts hs9).1.2.2) (fun hHeld => ?_)
    replace hHeld := hHeld (by kernel_rfl)
    clear hK K own9 hg9 S3
    try simp only [Act.put, List.getElem_toArray, List.getElem_cons_succ, List.getElem_cons_zero, List.setIfInBounds_toArray, List.set_cons_zero, List.set_cons_succ]
    refine wpLate_take (i := 6) (oi := _) (v := ?_) rfl (by kernel_rfl) (by kernel_rfl) (by kernel_rfl) (by kernel_rfl) (fun _ _ _ h => h) (Gives.load (by rfl) ?_) hHeld ?_
    rotate_left
    · intro w hSw
      (try dsimp only at hSw)
      go_simp
      try with_reducible rfl
    try simp only [Act.put, List.getElem_toArray, List.getElem_cons_succ, List.getElem_cons_zero, List.setIfInBounds_toArray, List.set_cons_zero, List.set_cons_succ]
    refine wpLate_ready (rs := [7]) (by kernel_rfl) (by simp) ?_
    refine AllLate.cons (o := _) rfl (fun K hK => ?_) (by exact AllLate.nil)
    obtain ⟨⟨d0, d1, d2⟩, ⟨g0, g1, g2⟩, _⟩ := blk3_facts hs9
    go_simp
    refine hK.out _ _ (fun h => absurd h (by decide)) (fun _ => ?_)
    clear hK K hHeld hs9 d0 d1 d2 g0 g1 g2
    try simp only [Act.put, List.getElem_toArray, List.getElem_cons_succ, List.getElem_cons_zero, List.setIfInBounds_toArray, List.set_cons_zero, List.set_cons_succ]
    refine wpLate_done (by kernel_rfl) ?_ _
    have hlt : (if q3.e = 0 then q3.s.length + 1 else 0) < q.s.length + 1 := by
      have := hnx.out
      split
      · have := this ‹_›; omega
      · omega
    have HLT := Lib.hid hlt
    clear hlt
    go_wp2
    go_roundw
    case rel => exact ⟨_, A9, c9, q3, HLn, S7.out⟩
    case measure =>
      rw [inM_at S7.out.i, hmes.out]
      exact HLT.out
end Go.Proofs.Ythioageiebchlaa
