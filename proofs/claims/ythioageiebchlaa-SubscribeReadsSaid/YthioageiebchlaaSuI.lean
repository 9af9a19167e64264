/- What the reference of layer 8 reads as an unsubscribe. Conditions: strings that may be. -/
import Derived.Test.YthioageiebchlaaSuH
import Derived.Test.YthioageiebchlaaSuD
import Derived.Test.YthioageiebchlaaRefB
import Derived.Test.YthioageiebchlaaRes
namespace Go.Proofs.Ythioageiebchlaa
open Go.RowKit
set_option linter.unusedVariables false
set_option linter.unusedSimpArgs false

theorem Try.infoRStr : (Try.prog.info? 9).map (fun i => (i.zero, i.size, i.bytes)) = some (some (.string ⟨#[]⟩), 1, 16) := by kernel_rfl
/-- While Parse runs: the result's block, the subscribe's, the reader. -/
structure RuS (w : World) (id : Nat) (lp : List Pr) (AP : Option Addr) (cp : Nat) (b B : Nat) (l : List (List UInt8)) (A : Option Addr) (c : Nat) (q : Rd) (y : World) : Prop where
  z : y.heap[w.heap.size]? = some (.cells #[.int .u32 0, .slice none 0 0, .slice none 0 0] 55 (0, 0))
  s : y.heap[B]? = some (.cells #[.int .u32 (id : Int), .slice AP lp.length cp, .slice A l.length c] 55 (0, 0))
  i : CurAt y b q
  p : y.ownsRow w.heap.size 121 4 (.slice AP lp.length cp) lp.length (lp.flatMap prE)
  o : y.ownsRow w.heap.size 9 1 (.slice A l.length c) l.length (l.flatMap strE)
  f : Fr [] w y
  bl : w.heap.size < b
  Bl : w.heap.size < B
theorem RuS.go {w : World} {id : Nat} {lp : List Pr} {AP : Option Addr} {cp : Nat} {b B : Nat} {l : List (List UInt8)} {A : Option Addr} {c : Nat} {q : Rd} {y : World} (h : RuS w id lp AP cp b B l A c q y) {y' : World} {q' : Rd} (g : Fr [b] y y') (hi : CurAt y' b q') : RuS w id lp AP cp b B l A c q' y' :=
  ⟨g.blk h.z (by simp; exact Nat.ne_of_lt h.bl), g.blk h.s (by simp; rintro rfl; have := h.s.symm.trans h.i; cases this), hi,
    own_fr g h.p (by intro k hk e; simp at e; subst e; exact own_ne h.p h.i (by decide) hk), own_fr g h.o (by intro k hk e; simp at e; subst e; exact own_ne h.o h.i (by decide) hk),
    h.f.trans g (by intro x hx e; simp at e; have := h.bl; omega), h.bl, h.Bl⟩
theorem RuS.old {w : World} {id : Nat} {lp : List Pr} {AP : Option Addr} {cp : Nat} {b B : Nat} {l : List (List UInt8)} {A : Option Addr} {c : Nat} {q : Rd} {y : World} (h : RuS w id lp AP cp b B l A c q y) {y' : World} (g : Fr [] y y') : RuS w id lp AP cp b B l A c q y' :=
  ⟨g.blk h.z (by simp), g.blk h.s (by simp), h.i.fr g (by simp), own_fr g h.p (by simp), own_fr g h.o (by simp), h.f.trans g (by simp), h.bl, h.Bl⟩
theorem run_row (A B : Option Addr) (n m k l : Nat) (i : Int) : ((#[.int .u32 i, .slice A n m, .slice B k l] : Array Value).all fun x => x.oneCell') = true := by
  simp; exact ⟨rfl, rfl, rfl⟩
/-- Another block, made behind the rows, turns. -/
theorem RuS.far {w : World} {id : Nat} {lp : List Pr} {AP : Option Addr} {cp : Nat} {b B : Nat} {l : List (List UInt8)} {A : Option Addr} {c : Nat} {q : Rd} {y : World} (h : RuS w id lp AP cp b B l A c q y) {y' : World} {X : Nat} (g : Fr [X] y y') (hw : w.heap.size < X) (hB : B ≠ X) (hb : b ≠ X)
    (hp : ∀ k, (Value.slice AP lp.length cp).ownBlock = some k → k < X) (ho : ∀ k, (Value.slice A l.length c).ownBlock = some k → k < X) : RuS w id lp AP cp b B l A c q y' :=
  ⟨g.blk h.z (by simp; omega), g.blk h.s (by simpa using hB), h.i.fr g (by simpa using hb), own_fr g h.p (by intro k hk e; have := hp k hk; simp at e; omega), own_fr g h.o (by intro k hk e; have := ho k hk; simp at e; omega), h.f.trans g (by intro x hx e; simp at e; omega), h.bl, h.Bl⟩
/-- A row more. -/
theorem RuS.app {w : World} {id : Nat} {lp : List Pr} {AP : Option Addr} {cp : Nat} {b B : Nat} {l : List (List UInt8)} {A : Option Addr} {c : Nat} {q : Rd} {y : World} (h : RuS w id lp AP cp b B l A c q y) {y' : World} {x : List UInt8} {A' : Option Addr} {c' : Nat}
    (hg : y.grownBy y' (Value.slice A l.length c).ownBlock) (ho : y'.ownsRow w.heap.size 9 1 (.slice A' (l.length + 1) c') (l.length + 1) (l.flatMap strE ++ strE x)) :
    RuS w id lp AP cp b B (l ++ [x]) A' c' q (y'.setCell ⟨B, 2, none⟩ (.slice A' (l.length + 1) c')) := by
  have e : (l ++ [x]).length = l.length + 1 := by simp
  have e2 : (l ++ [x]).flatMap strE = l.flatMap strE ++ strE x := flat_snoc _ _ _
  have hz := grown_blk hg h.z (own_ne h.o h.z (by decide))
  have hs := grown_blk hg h.s (own_ne h.o h.s (by decide))
  have hi : CurAt y' b q := grown_blk hg h.i (own_ne h.o h.i (by decide))
  have hp := grown_own hg h.p (own_apart h.p h.o (by decide))
  have hbB : B ≠ b := by rintro rfl; have := h.s.symm.trans h.i; cases this
  have hBl := h.Bl
  refine ⟨blk_far hz (by simp; omega) _, ?_, hi.fr (S := [B]) ((Fr.refl _ _).setCell (Or.inr (by simp)) _) (by simpa using hbB.symm), own_set hp (by intro e; exact own_ne hp hs (by decide) e.symm) _, ?_, (h.f.app h.o (Nat.le_refl _) hg).setCell (Or.inl (by simp; omega)) _, h.bl, h.Bl⟩
  · rw [e]; exact blk_set hs 2 _
  · rw [e, e2]; exact own_set ho (by intro e; exact own_ne ho hs (by decide) e.symm) _
set_option maxRecDepth 100000 in
set_option maxHeartbeats 8000000 in
theorem runparse_any (s : List UInt8) (w : World) (hs : s.length ≤ 1000000) :
    Calls Try.prog 32 #[.string ⟨s.toArray⟩] w (UnTo (unParse s) w) := by
  obtain ⟨i0, hi, hz0, hz1, hz2⟩ := info_parts Try.infoRStr
  have HR : Hid (unParse s = if (filtersR (beginR 10 s).r).2.ends = 0 then (⟨(beginR 10 s).id, (beginR 10 s).props, (filtersR (beginR 10 s).r).1⟩, 0) else (noUn, (filtersR (beginR 10 s).r).2.ends)) := Lib.hid rfl
  have hbg := begin_left 10 s
  have F0 : Fr [] w (w.alloc (.cells #[.int .u32 0, .slice none 0 0, .slice none 0 0] 55)) := (Fr.refl _ _).alloc _
  have hb0 := blk_new w (.cells #[.int .u32 0, .slice none 0 0, .slice none 0 0] 55)
  go_enter Try.func32, Try.ntmps32
  go_wp2_with fail
  refine (rbegin_any 10 s _ hs).mono ?_
  rintro _ w1 ⟨v, rfl, own1, g1⟩
  generalize beginR 10 s = BG at *
  obtain ⟨id, lp, r0⟩ := BG
  dsimp only at HR hbg own1 ⊢
  obtain ⟨AP, cp, rfl⟩ := own_shape own1
  have hw1 := g1.size
  rw [World.size_alloc] at hw1
  have ga := (Fr.refl [] w1).alloc (.cells #[.string ⟨r0.s.toArray⟩, .int .i64 r0.e] 99)
  have gb := ga.alloc (.cells #[.int .u32 (id : Int), .slice AP lp.length cp, .slice none 0 0] 55)
  have hCn := blk_old (blk_new w1 (.cells #[.string ⟨r0.s.toArray⟩, .int .i64 r0.e] 99)) (.cells #[.int .u32 (id : Int), .slice AP lp.length cp, .slice none 0 0] 55)
  have hBn := blk_at1 w1 (.cells #[.string ⟨r0.s.toArray⟩, .int .i64 r0.e] 99) (.cells #[.int .u32 (id : Int), .slice AP lp.length cp, .slice none 0 0] 55)
  have S0 : RuS w id lp AP cp w1.heap.size (w1.heap.size + 1) [] none 0 r0 ((w1.alloc (.cells #[.string ⟨r0.s.toArray⟩, .int .i64 r0.e] 99)).alloc (.cells #[.int .u32 (id : Int), .slice AP lp.length cp, .slice none 0 0] 55)) :=
    ⟨gb.blk (g1.blk hb0 (by simp)) (by simp), hBn, hCn, own_fr gb (own_base own1 (base' := w.heap.size) (fun k hk => by have := (own1.lt k hk).1; simp at this; omega)) (by simp), World.ownsRow_nil _ _ _ _, (F0.trans g1 (by simp)).trans gb (by simp), by omega, by omega⟩
  have HL0 := Lib.hid (unL_start r0)
  generalize hRR : filtersR r0 = RR at *
  clear hRR
  have S0 := Lib.hid S0
  clear F0 hb0 own1 g1 ga gb hCn hBn
  go_wp2_with fail
  have hCB : w1.heap.size ≠ w1.heap.size + 1 := by omega
  generalize (w1.alloc (.cells #[.string ⟨r0.s.toArray⟩, .int .i64 r0.e] 99)).alloc (.cells #[.int .u32 (id : Int), .slice AP lp.length cp, .slice none 0 0] 55) = y0 at *
  generalize w1.heap.size + 1 = B at *
  generalize w1.heap.size = C at *
  go_loopw [8] (fun i wr => ∃ (l : List (List UInt8)) (A : Option Addr) (c : Nat) (q : Rd), i = .int .i64 (l.length : Int) ∧ Hid (UnL RR r0.s.length l q) ∧ RuS w id lp AP cp C B l A c q wr) (fun i _ => s.length + 1 - (intOf i).toNat)
  case atStart => exact ⟨[], none, 0, r0, rfl, HL0, S0.out⟩
  case round =>
    clear HL0 S0
    obtain ⟨l, A, c, q, rfl, HL, hS⟩ := hrel
    have hql : q.s.length ≤ 1000000 := by have := HL.out.1; omega
    have hll1 := HL.out.2.2.1
    have HS := Lib.hid hS
    have hbC := hS.bl
    have hBB := hS.Bl
    clear hS
    obtain ⟨c0, c1, f0, f1, hl2_⟩ := blk2_facts (HS.out.i)
    by_cases hqs : q.s = []
    · have HR0 := Lib.hid (unL_end HL.out (Or.inl hqs))
      have hne : q.s.isEmpty = true := by rw [hqs]; rfl
      clear hqs
      go_upto_region 4 with (fail)
      go_cut [33] (fun v34 wx => v34 = .bool false ∧ wr = wx)
      case first =>
        by_cases hlt : l.length < s.length
        · have hli : (l.length : Int) < (s.length : Int) := by omega
          go_wp2
          go_meet
          exact ⟨rfl, rfl⟩
        · have hli : ¬ (l.length : Int) < (s.length : Int) := by omega
          go_wp2
          go_meet
          exact ⟨rfl, rfl⟩
      case rest =>
        obtain ⟨rfl, hwc⟩ := hcut
        rw [← hwc]
        clear hwc
        clear wc
        clear hne
        clear c0 c1 f0 f1 hl2_
        have HR2 : Hid (unParse s = if q.ends = 0 then (⟨id, lp, l⟩, 0) else (noUn, q.ends)) := Lib.hid (by rw [HR.out, HR0.out])
        clear HR HR0
        obtain ⟨c0, c1, f0, f1, hl2_⟩ := blk2_facts (HS.out.i)
        go_wp2_with fail
        refine (end6_any q.s q.e _).mono ?_
        rintro _ y9 ⟨rfl, g9⟩
        have HS := Lib.hid (HS.out.old g9)
        clear c0 c1 f0 f1 hl2_
        clear g9
        rw [show Rd.ends ⟨q.s, q.e⟩ = q.ends from rfl]
        by_cases hE : q.ends = 0
        · have E0 : (q.ends != 0) = false := by simpa using hE
          rw [if_pos hE] at HR2
          clear hE
          generalize q.ends = E at *
          go_upto_region 11 with (fail)
          refine wp_region_lit ?_
          refine wpList_load_mid rfl 55 _ rfl B 0 (by rfl) [.int .u32 (id : Int), .slice AP lp.length cp, .slice A l.length c] _ (range_blk HS.out.s rfl) Try.underlying55 rfl (by kernel_rfl) ?_
          refine wpList_store_row rfl 55 _ _ rfl w.heap.size #[.int .u32 (id : Int), .slice AP lp.length cp, .slice A l.length c] (by rfl) (by rfl) _ _ HS.out.z (by kernel_rfl) rfl (run_row _ _ _ _ _ _ _) ?_
          have HZ := Lib.hid (setRow_heap _ _ _ #[.int .u32 (id : Int), .slice AP lp.length cp, .slice A l.length c] _ _ HS.out.z)
          have FZ := Lib.hid (fr_row HS.out.f (g := w.heap.size) (Or.inl (Nat.le_refl _)) #[.int .u32 (id : Int), .slice AP lp.length cp, .slice A l.length c])
          have VP := Lib.hid ((own_view HS.out.p).fr (fr_row (Fr.refl [w.heap.size] _) (g := w.heap.size) (Or.inr (by simp)) #[.int .u32 (id : Int), .slice AP lp.length cp, .slice A l.length c]) (by intro k hk e; simp at e; subst e; exact own_ne HS.out.p HS.out.z (by decide) hk))
          have VU := Lib.hid ((own_view HS.out.o).fr (fr_row (Fr.refl [w.heap.size] _) (g := w.heap.size) (Or.inr (by simp)) #[.int .u32 (id : Int), .slice AP lp.length cp, .slice A l.length c]) (by intro k hk e; simp at e; subst e; exact own_ne HS.out.o HS.out.z (by decide) hk))
          go_wp2
          generalize World.setRow _ w.heap.size #[.int .u32 (id : Int), .slice AP lp.length cp, .slice A l.length c] = W5 at *
          refine bodyPost_ret (res_cell2 Try.results32 _ _ w.heap.size [.int .u32 (id : Int), .slice AP lp.length cp, .slice A l.length c] _ (.int .i64 0) (by first | kernel_rfl | rfl) (by first | kernel_rfl | rfl) (range_blk HZ.out rfl) Try.underlying55 rfl (by kernel_rfl)) rfl ?_
          rw [HR2.out]
          exact ⟨_, _, rfl, VP.out, VU.out, FZ.out⟩
        · have E0 : (q.ends != 0) = true := by simpa using hE
          rw [if_neg hE] at HR2
          clear hE
          obtain ⟨c0, c1, f0, f1, hl2_⟩ := blk2_facts (HS.out.i)
          go_upto_region 10 with (fail)
          refine wp_region_lit ?_
          refine wpList_build rfl _ _ rfl (by kernel_rfl) ?_
          refine wpList_load_mid rfl 99 _ rfl C 0 (by rfl) [.string ⟨q.s.toArray⟩, .int .i64 q.e] _ (range_blk HS.out.i rfl) Try.underlying99 rfl (by kernel_rfl) ?_
          refine wpList_plain rfl fun K hK => ?_
          go_wp2_with fail
          refine (end6_any q.s q.e _).mono ?_
          rintro _ ya ⟨rfl, ga⟩
          refine hK _ _ ?_
          have HS := Lib.hid (HS.out.old ga)
          clear hK K ga
          clear c0 c1 f0 f1 hl2_
          rw [show Rd.ends ⟨q.s, q.e⟩ = q.ends from rfl]
          generalize q.ends = E at *
          refine wpList_store_row rfl 55 _ _ rfl w.heap.size #[.int .u32 0, .slice none 0 0, .slice none 0 0] (by first | kernel_rfl | rfl) (by first | kernel_rfl | rfl) _ _ HS.out.z (by kernel_rfl) rfl (by kernel_rfl) ?_
          have HZ := Lib.hid (setRow_heap _ _ _ #[.int .u32 0, .slice none 0 0, .slice none 0 0] _ _ HS.out.z)
          have FZ := Lib.hid (fr_row HS.out.f (g := w.heap.size) (Or.inl (Nat.le_refl _)) #[.int .u32 0, .slice none 0 0, .slice none 0 0])
          go_wp2
          generalize World.setRow _ w.heap.size #[.int .u32 0, .slice none 0 0, .slice none 0 0] = W5 at *
          refine bodyPost_ret (res_cell2 Try.results32 _ _ w.heap.size [.int .u32 0, .slice none 0 0, .slice none 0 0] _ (.int .i64 E) (by first | kernel_rfl | rfl) (by first | kernel_rfl | rfl) (range_blk HZ.out rfl) Try.underlying55 rfl (by kernel_rfl)) rfl ?_
          rw [HR2.out]
          exact ⟨_, _, rfl, View.nil _, View.nil _, FZ.out⟩
    by_cases hqe : q.e = 0
    rotate_left
    · have HR0 := Lib.hid (unL_end HL.out (Or.inr hqe))
      have hne : q.s.isEmpty = false := by simpa using hqs
      have t6 : (q.e == 0) = false := by simpa using hqe
      clear hqs hqe
      go_upto_region 4 with (fail)
      go_cut [33] (fun v34 wx => v34 = .bool false ∧ wr = wx)
      case first =>
        by_cases hlt : l.length < s.length
        · have hli : (l.length : Int) < (s.length : Int) := by omega
          go_wp2
          go_meet
          exact ⟨rfl, rfl⟩
        · have hli : ¬ (l.length : Int) < (s.length : Int) := by omega
          go_wp2
          go_meet
          exact ⟨rfl, rfl⟩
      case rest =>
        obtain ⟨rfl, hwc⟩ := hcut
        rw [← hwc]
        clear hwc
        clear wc
        clear hne t6
        clear c0 c1 f0 f1 hl2_
        have HR2 : Hid (unParse s = if q.ends = 0 then (⟨id, lp, l⟩, 0) else (noUn, q.ends)) := Lib.hid (by rw [HR.out, HR0.out])
        clear HR HR0
        obtain ⟨c0, c1, f0, f1, hl2_⟩ := blk2_facts (HS.out.i)
        go_wp2_with fail
        refine (end6_any q.s q.e _).mono ?_
        rintro _ y9 ⟨rfl, g9⟩
        have HS := Lib.hid (HS.out.old g9)
        clear c0 c1 f0 f1 hl2_
        clear g9
        rw [show Rd.ends ⟨q.s, q.e⟩ = q.ends from rfl]
        by_cases hE : q.ends = 0
        · have E0 : (q.ends != 0) = false := by simpa using hE
          rw [if_pos hE] at HR2
          clear hE
          generalize q.ends = E at *
          go_upto_region 11 with (fail)
          refine wp_region_lit ?_
          refine wpList_load_mid rfl 55 _ rfl B 0 (by rfl) [.int .u32 (id : Int), .slice AP lp.length cp, .slice A l.length c] _ (range_blk HS.out.s rfl) Try.underlying55 rfl (by kernel_rfl) ?_
          refine wpList_store_row rfl 55 _ _ rfl w.heap.size #[.int .u32 (id : Int), .slice AP lp.length cp, .slice A l.length c] (by rfl) (by rfl) _ _ HS.out.z (by kernel_rfl) rfl (run_row _ _ _ _ _ _ _) ?_
          have HZ := Lib.hid (setRow_heap _ _ _ #[.int .u32 (id : Int), .slice AP lp.length cp, .slice A l.length c] _ _ HS.out.z)
          have FZ := Lib.hid (fr_row HS.out.f (g := w.heap.size) (Or.inl (Nat.le_refl _)) #[.int .u32 (id : Int), .slice AP lp.length cp, .slice A l.length c])
          have VP := Lib.hid ((own_view HS.out.p).fr (fr_row (Fr.refl [w.heap.size] _) (g := w.heap.size) (Or.inr (by simp)) #[.int .u32 (id : Int), .slice AP lp.length cp, .slice A l.length c]) (by intro k hk e; simp at e; subst e; exact own_ne HS.out.p HS.out.z (by decide) hk))
          have VU := Lib.hid ((own_view HS.out.o).fr (fr_row (Fr.refl [w.heap.size] _) (g := w.heap.size) (Or.inr (by simp)) #[.int .u32 (id : Int), .slice AP lp.length cp, .slice A l.length c]) (by intro k hk e; simp at e; subst e; exact own_ne HS.out.o HS.out.z (by decide) hk))
          go_wp2
          generalize World.setRow _ w.heap.size #[.int .u32 (id : Int), .slice AP lp.length cp, .slice A l.length c] = W5 at *
          refine bodyPost_ret (res_cell2 Try.results32 _ _ w.heap.size [.int .u32 (id : Int), .slice AP lp.length cp, .slice A l.length c] _ (.int .i64 0) (by first | kernel_rfl | rfl) (by first | kernel_rfl | rfl) (range_blk HZ.out rfl) Try.underlying55 rfl (by kernel_rfl)) rfl ?_
          rw [HR2.out]
          exact ⟨_, _, rfl, VP.out, VU.out, FZ.out⟩
        · have E0 : (q.ends != 0) = true := by simpa using hE
          rw [if_neg hE] at HR2
          clear hE
          obtain ⟨c0, c1, f0, f1, hl2_⟩ := blk2_facts (HS.out.i)
          go_upto_region 10 with (fail)
          refine wp_region_lit ?_
          refine wpList_build rfl _ _ rfl (by kernel_rfl) ?_
          refine wpList_load_mid rfl 99 _ rfl C 0 (by rfl) [.string ⟨q.s.toArray⟩, .int .i64 q.e] _ (range_blk HS.out.i rfl) Try.underlying99 rfl (by kernel_rfl) ?_
          refine wpList_plain rfl fun K hK => ?_
          go_wp2_with fail
          refine (end6_any q.s q.e _).mono ?_
          rintro _ ya ⟨rfl, ga⟩
          refine hK _ _ ?_
          have HS := Lib.hid (HS.out.old ga)
          clear hK K ga
          clear c0 c1 f0 f1 hl2_
          rw [show Rd.ends ⟨q.s, q.e⟩ = q.ends from rfl]
          generalize q.ends = E at *
          refine wpList_store_row rfl 55 _ _ rfl w.heap.size #[.int .u32 0, .slice none 0 0, .slice none 0 0] (by first | kernel_rfl | rfl) (by first | kernel_rfl | rfl) _ _ HS.out.z (by kernel_rfl) rfl (by kernel_rfl) ?_
          have HZ := Lib.hid (setRow_heap _ _ _ #[.int .u32 0, .slice none 0 0, .slice none 0 0] _ _ HS.out.z)
          have FZ := Lib.hid (fr_row HS.out.f (g := w.heap.size) (Or.inl (Nat.le_refl _)) #[.int .u32 0, .slice none 0 0, .slice none 0 0])
          go_wp2
          generalize World.setRow _ w.heap.size #[.int .u32 0, .slice none 0 0, .slice none 0 0] = W5 at *
          refine bodyPost_ret (res_cell2 Try.results32 _ _ w.heap.size [.int .u32 0, .slice none 0 0, .slice none 0 0] _ (.int .i64 E) (by first | kernel_rfl | rfl) (by first | kernel_rfl | rfl) (range_blk HZ.out rfl) Try.underlying55 rfl (by kernel_rfl)) rfl ?_
          rw [HR2.out]
          exact ⟨_, _, rfl, View.nil _, View.nil _, FZ.out⟩
    have HLn := Lib.hid (unL_step HL.out hqs hqe)
    have hll := HL.out.2.1 hqe
    have hql0 := List.length_pos_iff.2 hqs
    have hne : q.s.isEmpty = false := by simpa using hqs
    have t6 : (q.e == 0) = true := by simpa using hqe
    have hli : (l.length : Int) < (s.length : Int) := by omega
    clear hqs hqe HL
    go_upto_region 6 with (fail)
    clear hne t6
    go_wp2_with fail
    refine (rtake_any q _ (by omega)).mono ?_
    rintro _ x1 ⟨rfl, g1⟩
    have S1 := HS.out.old g1
    have hsl := Rd.str_left q
    generalize q.str = T at *
    obtain ⟨f, q1⟩ := T
    dsimp only at hsl HLn ⊢
    have hD := blk_new x1 (.cells #[.string ⟨q1.s.toArray⟩, .int .i64 q1.e] 99)
    have S2 := S1.old ((Fr.refl [] x1).alloc (.cells #[.string ⟨q1.s.toArray⟩, .int .i64 q1.e] 99))
    have hpD := Lib.hid (fun k hk => (S1.p.lt k hk).2 : ∀ k, (Value.slice AP lp.length cp).ownBlock = some k → k < x1.heap.size)
    have hoD := Lib.hid (fun k hk => (S1.o.lt k hk).2 : ∀ k, (Value.slice A l.length c).ownBlock = some k → k < x1.heap.size)
    have hCD := blk_lt S1.i
    have hBD := blk_lt S1.s
    clear g1 S1 HS
    clear c0 c1 f0 f1 hl2_
    go_upto_region 7 with (fail)
    obtain ⟨D, hDe⟩ : ∃ D, x1.heap.size = D := ⟨_, rfl⟩
    obtain ⟨y2, hy2⟩ : ∃ y2, x1.alloc (.cells #[.string ⟨q1.s.toArray⟩, .int .i64 q1.e] 99) = y2 := ⟨_, rfl⟩
    rw [hDe] at hD hpD hoD hCD hBD ⊢
    rw [hy2] at hD S2 ⊢
    clear hDe hy2
    obtain ⟨c0, c1, f0, f1, hl2_⟩ := blk2_facts (hD)
    obtain ⟨d0, d1, m0, m1, _⟩ := blk2_facts S2.i
    have gC : Fr [C] y2 ((y2.setCell ⟨C, 0, none⟩ (.string ⟨q1.s.toArray⟩)).setCell ⟨C, 1, none⟩ (.int .i64 q1.e)) := ((Fr.refl _ _).setCell (Or.inr (by simp)) _).setCell (Or.inr (by simp)) _
    have S5 := S2.go gC (show CurAt _ C q1 from blk2_set S2.i (.string ⟨q1.s.toArray⟩) (.int .i64 q1.e))
    have S5 := Lib.hid S5
    clear S2 hD
    go_upto_region 8 with (fail)
    obtain ⟨y5, hy5⟩ : ∃ y5, (y2.setCell ⟨C, 0, none⟩ (.string ⟨q1.s.toArray⟩)).setCell ⟨C, 1, none⟩ (.int .i64 q1.e) = y5 := ⟨_, rfl⟩
    rw [hy5] at S5 ⊢
    clear hy5 gC d0 d1 m0 m1
    clear c0 c1 f0 f1 hl2_
    obtain ⟨⟨d0, d1, d2⟩, ⟨g0, g1, g2⟩, _⟩ := blk3_facts S5.out.s
    have S6 := Lib.hid (S5.out.old ((Fr.refl [] y5).alloc (.cells #[.string ⟨f.toArray⟩] 9)))
    have hyl := S5.out.f.size
    go_wp2_with (at_builtin; refine wpl_app _ rfl (.tmp 43) (.tmp 45) 40 rfl w.heap.size 9 i0 (.string ⟨#[]⟩) 1 16 Try.underlying40 hi hz0 hz1 hz2 rfl (by decide) _ l.length (l.flatMap strE) rfl S6.out.o ⟨y5.heap.size, 0, none⟩ 1 1 (strE f) rfl rfl ?c1 ?c2 ?c3 ?c4 ?c5 ?_)
    try (case c1 => exact news_at _ _ (by simp) _ _)
    try (case c2 => first | exact rfl | (intro u hu; simp [strE] at hu; subst hu; rfl))
    try (case c3 => unfold maxLen; omega)
    try (case c4 => omega)
    try (case c5 => first | omega | (simp; omega))
    intro v' w9 own9 hg9 _
    obtain ⟨A9, c9, rfl⟩ := own_shape own9
    have S7 := Lib.hid (S6.out.app hg9 own9)
    have hs9 := grown_blk hg9 S6.out.s (own_ne S6.out.o S6.out.s (by decide))
    clear own9 hg9 S5 S6 d0 d1 d2 g0 g1 g2
    obtain ⟨⟨d0, d1, d2⟩, ⟨g0, g1, g2⟩, _⟩ := blk3_facts hs9
    clear hs9
    go_wp2
    go_roundw
    case rel => exact ⟨l ++ [f], A9, c9, q1, by rw [List.length_append]; first | rfl | go_num | simp, HLn, S7.out⟩
    case measure => simp [intOf]; omega
end Go.Proofs.Ythioageiebchlaa
