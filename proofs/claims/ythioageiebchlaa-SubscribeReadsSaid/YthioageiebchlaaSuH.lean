/- What the reference of layer 8 reads as a subscribe. Conditions: strings that may be. -/
import Derived.Test.YthioageiebchlaaSuG
import Derived.Test.YthioageiebchlaaSuC
import Derived.Test.YthioageiebchlaaRefB
import Derived.Test.YthioageiebchlaaRes
namespace Go.Proofs.Ythioageiebchlaa
open Go.RowKit
set_option linter.unusedVariables false
set_option linter.unusedSimpArgs false

def CurAt (w : World) (b : Nat) (r : Rd) : Prop := w.heap[b]? = some (.cells #[.string ⟨r.s.toArray⟩, .int .i64 r.e] 99 (0, 0))
theorem CurAt.fr {S : List Nat} {w w' : World} {b : Nat} {r : Rd} (h : CurAt w b r) (hf : Fr S w w') (hb : b ∉ S) : CurAt w' b r := hf.blk h hb
theorem Try.infoRSb : (Try.prog.info? 92).map (fun i => (i.zero, i.size, i.bytes)) = some (some (.agg #[.string ⟨#[]⟩, .int .u8 0, .bool false, .bool false, .int .u8 0]), 5, 24) := by kernel_rfl
/-- While Parse runs: the result's block, the subscribe's, the reader. -/
structure RsS (w : World) (id : Nat) (lp : List Pr) (AP : Option Addr) (cp : Nat) (b B : Nat) (l : List Sb) (A : Option Addr) (c : Nat) (q : Rd) (y : World) : Prop where
  z : y.heap[w.heap.size]? = some (.cells #[.int .u32 0, .slice none 0 0, .slice none 0 0] 51 (0, 0))
  s : y.heap[B]? = some (.cells #[.int .u32 (id : Int), .slice AP lp.length cp, .slice A l.length c] 51 (0, 0))
  i : CurAt y b q
  p : y.ownsRow w.heap.size 121 4 (.slice AP lp.length cp) lp.length (lp.flatMap prE)
  o : y.ownsRow w.heap.size 92 5 (.slice A l.length c) l.length (l.flatMap sbE)
  f : Fr [] w y
  bl : w.heap.size < b
  Bl : w.heap.size < B
theorem RsS.go {w : World} {id : Nat} {lp : List Pr} {AP : Option Addr} {cp : Nat} {b B : Nat} {l : List Sb} {A : Option Addr} {c : Nat} {q : Rd} {y : World} (h : RsS w id lp AP cp b B l A c q y) {y' : World} {q' : Rd} (g : Fr [b] y y') (hi : CurAt y' b q') : RsS w id lp AP cp b B l A c q' y' :=
  ⟨g.blk h.z (by simp; exact Nat.ne_of_lt h.bl), g.blk h.s (by simp; rintro rfl; have := h.s.symm.trans h.i; cases this), hi,
    own_fr g h.p (by intro k hk e; simp at e; subst e; exact own_ne h.p h.i (by decide) hk), own_fr g h.o (by intro k hk e; simp at e; subst e; exact own_ne h.o h.i (by decide) hk),
    h.f.trans g (by intro x hx e; simp at e; have := h.bl; omega), h.bl, h.Bl⟩
theorem RsS.old {w : World} {id : Nat} {lp : List Pr} {AP : Option Addr} {cp : Nat} {b B : Nat} {l : List Sb} {A : Option Addr} {c : Nat} {q : Rd} {y : World} (h : RsS w id lp AP cp b B l A c q y) {y' : World} (g : Fr [] y y') : RsS w id lp AP cp b B l A c q y' :=
  ⟨g.blk h.z (by simp), g.blk h.s (by simp), h.i.fr g (by simp), own_fr g h.p (by simp), own_fr g h.o (by simp), h.f.trans g (by simp), h.bl, h.Bl⟩
theorem rsu_row (A B : Option Addr) (n m k l : Nat) (i : Int) : ((#[.int .u32 i, .slice A n m, .slice B k l] : Array Value).all fun x => x.oneCell') = true := by
  simp; exact ⟨rfl, rfl, rfl⟩
/-- Another block, made behind the rows, turns. -/
theorem RsS.far {w : World} {id : Nat} {lp : List Pr} {AP : Option Addr} {cp : Nat} {b B : Nat} {l : List Sb} {A : Option Addr} {c : Nat} {q : Rd} {y : World} (h : RsS w id lp AP cp b B l A c q y) {y' : World} {X : Nat} (g : Fr [X] y y') (hw : w.heap.size < X) (hB : B ≠ X) (hb : b ≠ X)
    (hp : ∀ k, (Value.slice AP lp.length cp).ownBlock = some k → k < X) (ho : ∀ k, (Value.slice A l.length c).ownBlock = some k → k < X) : RsS w id lp AP cp b B l A c q y' :=
  ⟨g.blk h.z (by simp; omega), g.blk h.s (by simpa using hB), h.i.fr g (by simpa using hb), own_fr g h.p (by intro k hk e; have := hp k hk; simp at e; omega), own_fr g h.o (by intro k hk e; have := ho k hk; simp at e; omega), h.f.trans g (by intro x hx e; simp at e; omega), h.bl, h.Bl⟩
/-- A row more. -/
theorem RsS.app {w : World} {id : Nat} {lp : List Pr} {AP : Option Addr} {cp : Nat} {b B : Nat} {l : List Sb} {A : Option Addr} {c : Nat} {q : Rd} {y : World} (h : RsS w id lp AP cp b B l A c q y) {y' : World} {x : Sb} {A' : Option Addr} {c' : Nat}
    (hg : y.grownBy y' (Value.slice A l.length c).ownBlock) (ho : y'.ownsRow w.heap.size 92 5 (.slice A' (l.length + 1) c') (l.length + 1) (l.flatMap sbE ++ sbE x)) :
    RsS w id lp AP cp b B (l ++ [x]) A' c' q (y'.setCell ⟨B, 2, none⟩ (.slice A' (l.length + 1) c')) := by
  have e : (l ++ [x]).length = l.length + 1 := by simp
  have e2 : (l ++ [x]).flatMap sbE = l.flatMap sbE ++ sbE x := flat_snoc _ _ _
  have hz := grown_blk hg h.z (own_ne h.o h.z (by decide))
  have hs := grown_blk hg h.s (own_ne h.o h.s (by decide))
  have hi : CurAt y' b q := grown_blk hg h.i (own_ne h.o h.i (by decide))
  have hp := grown_own hg h.p (own_apart h.p h.o (by decide))
  have hbB : B ≠ b := by rintro rfl; have := h.s.symm.trans h.i; cases this
  have hBl := h.Bl
  refine ⟨blk_far hz (by simp; omega) _, ?_, hi.fr (S := [B]) ((Fr.refl _ _).setCell (Or.inr (by simp)) _) (by simpa using hbB.symm), own_set hp (by intro e; exact own_ne hp hs (by decide) e.symm) _, ?_, (h.f.app h.o (Nat.le_refl _) hg).setCell (Or.inl (by simp; omega)) _, h.bl, h.Bl⟩
  · rw [e]; exact blk_set hs 2 _
  · rw [e, e2]; exact own_set ho (by intro e; exact own_ne ho hs (by decide) e.symm) _
set_option maxRecDepth 100000 in
set_option maxHeartbeats 8000000 in
theorem rsuparse_any (s : List UInt8) (w : World) (hs : s.length ≤ 1000000) :
    Calls Try.prog 31 #[.string ⟨s.toArray⟩] w (SuTo (suParse s) w) := by
  obtain ⟨i0, hi, hz0, hz1, hz2⟩ := info_parts Try.infoRSb
  have HR : Hid (suParse s = if (subsR (beginR 8 s).r).2.ends = 0 then (⟨(beginR 8 s).id, (beginR 8 s).props, (subsR (beginR 8 s).r).1⟩, 0) else (noSu, (subsR (beginR 8 s).r).2.ends)) := Lib.hid rfl
  have hbg := begin_left 8 s
  have F0 : Fr [] w (w.alloc (.cells #[.int .u32 0, .slice none 0 0, .slice none 0 0] 51)) := (Fr.refl _ _).alloc _
  have hb0 := blk_new w (.cells #[.int .u32 0, .slice none 0 0, .slice none 0 0] 51)
  go_enter Try.func31, Try.ntmps31
  go_wp2_with fail
  refine (rbegin_any 8 s _ hs).mono ?_
  rintro _ w1 ⟨v, rfl, own1, g1⟩
  generalize beginR 8 s = BG at *
  obtain ⟨id, lp, r0⟩ := BG
  dsimp only at HR hbg own1 ⊢
  obtain ⟨AP, cp, rfl⟩ := own_shape own1
  have hw1 := g1.size
  rw [World.size_alloc] at hw1
  have ga := (Fr.refl [] w1).alloc (.cells #[.string ⟨r0.s.toArray⟩, .int .i64 r0.e] 99)
  have gb := ga.alloc (.cells #[.int .u32 (id : Int), .slice AP lp.length cp, .slice none 0 0] 51)
  have hCn := blk_old (blk_new w1 (.cells #[.string ⟨r0.s.toArray⟩, .int .i64 r0.e] 99)) (.cells #[.int .u32 (id : Int), .slice AP lp.length cp, .slice none 0 0] 51)
  have hBn := blk_at1 w1 (.cells #[.string ⟨r0.s.toArray⟩, .int .i64 r0.e] 99) (.cells #[.int .u32 (id : Int), .slice AP lp.length cp, .slice none 0 0] 51)
  have S0 : RsS w id lp AP cp w1.heap.size (w1.heap.size + 1) [] none 0 r0 ((w1.alloc (.cells #[.string ⟨r0.s.toArray⟩, .int .i64 r0.e] 99)).alloc (.cells #[.int .u32 (id : Int), .slice AP lp.length cp, .slice none 0 0] 51)) :=
    ⟨gb.blk (g1.blk hb0 (by simp)) (by simp), hBn, hCn, own_fr gb (own_base own1 (base' := w.heap.size) (fun k hk => by have := (own1.lt k hk).1; simp at this; omega)) (by simp), World.ownsRow_nil _ _ _ _, (F0.trans g1 (by simp)).trans gb (by simp), by omega, by omega⟩
  have HL0 := Lib.hid (sbL_start r0)
  generalize hRR : subsR r0 = RR at *
  clear hRR
  have S0 := Lib.hid S0
  clear F0 hb0 own1 g1 ga gb hCn hBn
  go_wp2_with fail
  have hCB : w1.heap.size ≠ w1.heap.size + 1 := by omega
  generalize (w1.alloc (.cells #[.string ⟨r0.s.toArray⟩, .int .i64 r0.e] 99)).alloc (.cells #[.int .u32 (id : Int), .slice AP lp.length cp, .slice none 0 0] 51) = y0 at *
  generalize w1.heap.size + 1 = B at *
  generalize w1.heap.size = C at *
  go_loopw [8] (fun i wr => ∃ (l : List (Sb)) (A : Option Addr) (c : Nat) (q : Rd), i = .int .i64 (l.length : Int) ∧ Hid (SbL RR r0.s.length l q) ∧ RsS w id lp AP cp C B l A c q wr) (fun i _ => s.length + 1 - (intOf i).toNat)
  case atStart => exact ⟨[], none, 0, r0, rfl, HL0, S0.out⟩
  case round =>
    clear HL0 S0
    obtain ⟨l, A, c, q, rfl, HL, hS⟩ := hrel
    have hql : q.s.length ≤ 1000000 := by have := HL.out.1; omega
    have hll1 := HL.out.2.2.1
    have HS := Lib.hid hS
    have hbC := hS.bl
    have hBB := hS.Bl
    clear hS
    obtain ⟨c0, c1, f0, f1, hl2_⟩ := blk2_facts (HS.out.i)
    by_cases hqs : q.s = []
    · have HR0 := Lib.hid (sbL_end HL.out (Or.inl hqs))
      have hne : q.s.isEmpty = true := by rw [hqs]; rfl
      clear hqs
      go_upto_region 4 with (fail)
      go_cut [34] (fun v34 wx => v34 = .bool false ∧ wr = wx)
      case first =>
        by_cases hlt : l.length < s.length
        · have hli : (l.length : Int) < (s.length : Int) := by omega
          go_wp2
          go_meet
          exact ⟨rfl, rfl⟩
        · have hli : ¬ (l.length : Int) < (s.length : Int) := by omega
          go_wp2
          go_meet
          exact ⟨rfl, rfl⟩
      case rest =>
        obtain ⟨rfl, hwc⟩ := hcut
        rw [← hwc]
        clear hwc
        clear wc
        clear hne
        clear c0 c1 f0 f1 hl2_
        have HR2 : Hid (suParse s = if q.ends = 0 then (⟨id, lp, l⟩, 0) else (noSu, q.ends)) := Lib.hid (by rw [HR.out, HR0.out])
        clear HR HR0
        obtain ⟨c0, c1, f0, f1, hl2_⟩ := blk2_facts (HS.out.i)
        go_wp2_with fail
        refine (end6_any q.s q.e _).mono ?_
        rintro _ y9 ⟨rfl, g9⟩
        have HS := Lib.hid (HS.out.old g9)
        clear c0 c1 f0 f1 hl2_
        clear g9
        rw [show Rd.ends ⟨q.s, q.e⟩ = q.ends from rfl]
        by_cases hE : q.ends = 0
        · have E0 : (q.ends != 0) = false := by simpa using hE
          rw [if_pos hE] at HR2
          clear hE
          generalize q.ends = E at *
          go_upto_region 16 with (fail)
          refine wp_region_lit ?_
          refine wpList_load_mid rfl 51 _ rfl B 0 (by rfl) [.int .u32 (id : Int), .slice AP lp.length cp, .slice A l.length c] _ (range_blk HS.out.s rfl) Try.underlying51 rfl (by kernel_rfl) ?_
          refine wpList_store_row rfl 51 _ _ rfl w.heap.size #[.int .u32 (id : Int), .slice AP lp.length cp, .slice A l.length c] (by rfl) (by rfl) _ _ HS.out.z (by kernel_rfl) rfl (rsu_row _ _ _ _ _ _ _) ?_
          have HZ := Lib.hid (setRow_heap _ _ _ #[.int .u32 (id : Int), .slice AP lp.length cp, .slice A l.length c] _ _ HS.out.z)
          have FZ := Lib.hid (fr_row HS.out.f (g := w.heap.size) (Or.inl (Nat.le_refl _)) #[.int .u32 (id : Int), .slice AP lp.length cp, .slice A l.length c])
          have VP := Lib.hid ((own_view HS.out.p).fr (fr_row (Fr.refl [w.heap.size] _) (g := w.heap.size) (Or.inr (by simp)) #[.int .u32 (id : Int), .slice AP lp.length cp, .slice A l.length c]) (by intro k hk e; simp at e; subst e; exact own_ne HS.out.p HS.out.z (by decide) hk))
          have VU := Lib.hid ((own_view HS.out.o).fr (fr_row (Fr.refl [w.heap.size] _) (g := w.heap.size) (Or.inr (by simp)) #[.int .u32 (id : Int), .slice AP lp.length cp, .slice A l.length c]) (by intro k hk e; simp at e; subst e; exact own_ne HS.out.o HS.out.z (by decide) hk))
          go_wp2
          generalize World.setRow _ w.heap.size #[.int .u32 (id : Int), .slice AP lp.length cp, .slice A l.length c] = W5 at *
          refine bodyPost_ret (res_cell2 Try.results31 _ _ w.heap.size [.int .u32 (id : Int), .slice AP lp.length cp, .slice A l.length c] _ (.int .i64 0) (by first | kernel_rfl | rfl) (by first | kernel_rfl | rfl) (range_blk HZ.out rfl) Try.underlying51 rfl (by kernel_rfl)) rfl ?_
          rw [HR2.out]
          exact ⟨_, _, rfl, VP.out, VU.out, FZ.out⟩
        · have E0 : (q.ends != 0) = true := by simpa using hE
          rw [if_neg hE] at HR2
          clear hE
          obtain ⟨c0, c1, f0, f1, hl2_⟩ := blk2_facts (HS.out.i)
          go_upto_region 15 with (fail)
          refine wp_region_lit ?_
          refine wpList_build rfl _ _ rfl (by kernel_rfl) ?_
          refine wpList_load_mid rfl 99 _ rfl C 0 (by rfl) [.string ⟨q.s.toArray⟩, .int .i64 q.e] _ (range_blk HS.out.i rfl) Try.underlying99 rfl (by kernel_rfl) ?_
          refine wpList_plain rfl fun K hK => ?_
          go_wp2_with fail
          refine (end6_any q.s q.e _).mono ?_
          rintro _ ya ⟨rfl, ga⟩
          refine hK _ _ ?_
          have HS := Lib.hid (HS.out.old ga)
          clear hK K ga
          clear c0 c1 f0 f1 hl2_
          rw [show Rd.ends ⟨q.s, q.e⟩ = q.ends from rfl]
          generalize q.ends = E at *
          refine wpList_store_row rfl 51 _ _ rfl w.heap.size #[.int .u32 0, .slice none 0 0, .slice none 0 0] (by first | kernel_rfl | rfl) (by first | kernel_rfl | rfl) _ _ HS.out.z (by kernel_rfl) rfl (by kernel_rfl) ?_
          have HZ := Lib.hid (setRow_heap _ _ _ #[.int .u32 0, .slice none 0 0, .slice none 0 0] _ _ HS.out.z)
          have FZ := Lib.hid (fr_row HS.out.f (g := w.heap.size) (Or.inl (Nat.le_refl _)) #[.int .u32 0, .slice none 0 0, .slice none 0 0])
          go_wp2
          generalize World.setRow _ w.heap.size #[.int .u32 0, .slice none 0 0, .slice none 0 0] = W5 at *
          refine bodyPost_ret (res_cell2 Try.results31 _ _ w.heap.size [.int .u32 0, .slice none 0 0, .slice none 0 0] _ (.int .i64 E) (by first | kernel_rfl | rfl) (by first | kernel_rfl | rfl) (range_blk HZ.out rfl) Try.underlying51 rfl (by kernel_rfl)) rfl ?_
          rw [HR2.out]
          exact ⟨_, _, rfl, View.nil _, View.nil _, FZ.out⟩
    by_cases hqe : q.e = 0
    rotate_left
    · have HR0 := Lib.hid (sbL_end HL.out (Or.inr hqe))
      have hne : q.s.isEmpty = false := by simpa using hqs
      have t6 : (q.e == 0) = false := by simpa using hqe
      clear hqs hqe
      go_upto_region 4 with (fail)
      go_cut [34] (fun v34 wx => v34 = .bool false ∧ wr = wx)
      case first =>
        by_cases hlt : l.length < s.length
        · have hli : (l.length : Int) < (s.length : Int) := by omega
          go_wp2
          go_meet
          exact ⟨rfl, rfl⟩
        · have hli : ¬ (l.length : Int) < (s.length : Int) := by omega
          go_wp2
          go_meet
          exact ⟨rfl, rfl⟩
      case rest =>
        obtain ⟨rfl, hwc⟩ := hcut
        rw [← hwc]
        clear hwc
        clear wc
        clear hne t6
        clear c0 c1 f0 f1 hl2_
        have HR2 : Hid (suParse s = if q.ends = 0 then (⟨id, lp, l⟩, 0) else (noSu, q.ends)) := Lib.hid (by rw [HR.out, HR0.out])
        clear HR HR0
        obtain ⟨c0, c1, f0, f1, hl2_⟩ := blk2_facts (HS.out.i)
        go_wp2_with fail
        refine (end6_any q.s q.e _).mono ?_
        rintro _ y9 ⟨rfl, g9⟩
        have HS := Lib.hid (HS.out.old g9)
        clear c0 c1 f0 f1 hl2_
        clear g9
        rw [show Rd.ends ⟨q.s, q.e⟩ = q.ends from rfl]
        by_cases hE : q.ends = 0
        · have E0 : (q.ends != 0) = false := by simpa using hE
          rw [if_pos hE] at HR2
          clear hE
          generalize q.ends = E at *
          go_upto_region 16 with (fail)
          refine wp_region_lit ?_
          refine wpList_load_mid rfl 51 _ rfl B 0 (by rfl) [.int .u32 (id : Int), .slice AP lp.length cp, .slice A l.length c] _ (range_blk HS.out.s rfl) Try.underlying51 rfl (by kernel_rfl) ?_
          refine wpList_store_row rfl 51 _ _ rfl w.heap.size #[.int .u32 (id : Int), .slice AP lp.length cp, .slice A l.length c] (by rfl) (by rfl) _ _ HS.out.z (by kernel_rfl) rfl (rsu_row _ _ _ _ _ _ _) ?_
          have HZ := Lib.hid (setRow_heap _ _ _ #[.int .u32 (id : Int), .slice AP lp.length cp, .slice A l.length c] _ _ HS.out.z)
          have FZ := Lib.hid (fr_row HS.out.f (g := w.heap.size) (Or.inl (Nat.le_refl _)) #[.int .u32 (id : Int), .slice AP lp.length cp, .slice A l.length c])
          have VP := Lib.hid ((own_view HS.out.p).fr (fr_row (Fr.refl [w.heap.size] _) (g := w.heap.size) (Or.inr (by simp)) #[.int .u32 (id : Int), .slice AP lp.length cp, .slice A l.length c]) (by intro k hk e; simp at e; subst e; exact own_ne HS.out.p HS.out.z (by decide) hk))
          have VU := Lib.hid ((own_view HS.out.o).fr (fr_row (Fr.refl [w.heap.size] _) (g := w.heap.size) (Or.inr (by simp)) #[.int .u32 (id : Int), .slice AP lp.length cp, .slice A l.length c]) (by intro k hk e; simp at e; subst e; exact own_ne HS.out.o HS.out.z (by decide) hk))
          go_wp2
          generalize World.setRow _ w.heap.size #[.int .u32 (id : Int), .slice AP lp.length cp, .slice A l.length c] = W5 at *
          refine bodyPost_ret (res_cell2 Try.results31 _ _ w.heap.size [.int .u32 (id : Int), .slice AP lp.length cp, .slice A l.length c] _ (.int .i64 0) (by first | kernel_rfl | rfl) (by first | kernel_rfl | rfl) (range_blk HZ.out rfl) Try.underlying51 rfl (by kernel_rfl)) rfl ?_
          rw [HR2.out]
          exact ⟨_, _, rfl, VP.out, VU.out, FZ.out⟩
        · have E0 : (q.ends != 0) = true := by simpa using hE
          rw [if_neg hE] at HR2
          clear hE
          obtain ⟨c0, c1, f0, f1, hl2_⟩ := blk2_facts (HS.out.i)
          go_upto_region 15 with (fail)
          refine wp_region_lit ?_
          refine wpList_build rfl _ _ rfl (by kernel_rfl) ?_
          refine wpList_load_mid rfl 99 _ rfl C 0 (by rfl) [.string ⟨q.s.toArray⟩, .int .i64 q.e] _ (range_blk HS.out.i rfl) Try.underlying99 rfl (by kernel_rfl) ?_
          refine wpList_plain rfl fun K hK => ?_
          go_wp2_with fail
          refine (end6_any q.s q.e _).mono ?_
          rintro _ ya ⟨rfl, ga⟩
          refine hK _ _ ?_
          have HS := Lib.hid (HS.out.old ga)
          clear hK K ga
          clear c0 c1 f0 f1 hl2_
          rw [show Rd.ends ⟨q.s, q.e⟩ = q.ends from rfl]
          generalize q.ends = E at *
          refine wpList_store_row rfl 51 _ _ rfl w.heap.size #[.int .u32 0, .slice none 0 0, .slice none 0 0] (by first | kernel_rfl | rfl) (by first | kernel_rfl | rfl) _ _ HS.out.z (by kernel_rfl) rfl (by kernel_rfl) ?_
          have HZ := Lib.hid (setRow_heap _ _ _ #[.int .u32 0, .slice none 0 0, .slice none 0 0] _ _ HS.out.z)
          have FZ := Lib.hid (fr_row HS.out.f (g := w.heap.size) (Or.inl (Nat.le_refl _)) #[.int .u32 0, .slice none 0 0, .slice none 0 0])
          go_wp2
          generalize World.setRow _ w.heap.size #[.int .u32 0, .slice none 0 0, .slice none 0 0] = W5 at *
          refine bodyPost_ret (res_cell2 Try.results31 _ _ w.heap.size [.int .u32 0, .slice none 0 0, .slice none 0 0] _ (.int .i64 E) (by first | kernel_rfl | rfl) (by first | kernel_rfl | rfl) (range_blk HZ.out rfl) Try.underlying51 rfl (by kernel_rfl)) rfl ?_
          rw [HR2.out]
          exact ⟨_, _, rfl, View.nil _, View.nil _, FZ.out⟩
    have HLn := Lib.hid (sbL_step HL.out hqs hqe)
    have hll := HL.out.2.1 hqe
    have hql0 := List.length_pos_iff.2 hqs
    have hne : q.s.isEmpty = false := by simpa using hqs
    have t6 : (q.e == 0) = true := by simpa using hqe
    have hli : (l.length : Int) < (s.length : Int) := by omega
    clear hqs hqe HL
    go_upto_region 6 with (fail)
    clear hne t6
    go_wp2_with fail
    refine (rtake_any q _ (by omega)).mono ?_
    rintro _ x1 ⟨rfl, g1⟩
    have S1 := HS.out.old g1
    have hsl := Rd.str_left q
    have HT : Hid (sbTake q = (sbOf q.str.1 (q.str.2.num 1).1, optFail (q.str.2.num 1).1 (q.str.2.num 1).2)) := Lib.hid rfl
    generalize q.str = T at *
    obtain ⟨f, q1⟩ := T
    dsimp only at hsl HT ⊢
    have hD := blk_new x1 (.cells #[.string ⟨q1.s.toArray⟩, .int .i64 q1.e] 99)
    have S2 := S1.old ((Fr.refl [] x1).alloc (.cells #[.string ⟨q1.s.toArray⟩, .int .i64 q1.e] 99))
    have hpD := Lib.hid (fun k hk => (S1.p.lt k hk).2 : ∀ k, (Value.slice AP lp.length cp).ownBlock = some k → k < x1.heap.size)
    have hoD := Lib.hid (fun k hk => (S1.o.lt k hk).2 : ∀ k, (Value.slice A l.length c).ownBlock = some k → k < x1.heap.size)
    have hCD := blk_lt S1.i
    have hBD := blk_lt S1.s
    clear g1 S1 HS
    clear c0 c1 f0 f1 hl2_
    go_upto_region 7 with (fail)
    obtain ⟨D, hDe⟩ : ∃ D, x1.heap.size = D := ⟨_, rfl⟩
    obtain ⟨y2, hy2⟩ : ∃ y2, x1.alloc (.cells #[.string ⟨q1.s.toArray⟩, .int .i64 q1.e] 99) = y2 := ⟨_, rfl⟩
    rw [hDe] at hD hpD hoD hCD hBD ⊢
    rw [hy2] at hD S2 ⊢
    clear hDe hy2
    have S2 := Lib.hid S2
    obtain ⟨c0, c1, f0, f1, hl2_⟩ := blk2_facts (hD)
    go_wp2_with fail
    refine (rnum_any q1 1 _ (by omega) (by decide) (by decide)).mono ?_
    rintro _ x2 ⟨rfl, g2⟩
    rw [show (1 : Int).toNat = 1 from rfl]
    have S3 := S2.out.old g2
    have hD2 := g2.blk hD (by simp)
    have hc := num_lt1 q1
    have hnl := Rd.raw_left q1 1
    rw [show (q1.raw 1).2 = (q1.num 1).2 from rfl] at hnl
    generalize q1.num 1 = T at *
    obtain ⟨n, q2⟩ := T
    dsimp only at HT hc hnl ⊢
    have hD3 := blk2_set hD2 (.string ⟨q2.s.toArray⟩) (.int .i64 q2.e)
    have gD : Fr [D] x2 ((x2.setCell ⟨D, 0, none⟩ (.string ⟨q2.s.toArray⟩)).setCell ⟨D, 1, none⟩ (.int .i64 q2.e)) := ((Fr.refl _ _).setCell (Or.inr (by simp)) _).setCell (Or.inr (by simp)) _
    have S4 := S3.far gD (by omega) (by omega) (by omega) hpD.out hoD.out
    clear c0 c1 f0 f1 hl2_
    obtain ⟨c0, c1, f0, f1, hl2_⟩ := blk2_facts (hD2)
    clear g2 S2 S3 hD
    go_upto_region 8 with (fail)
    obtain ⟨y4, hy4⟩ : ∃ y4, (x2.setCell ⟨D, 0, none⟩ (.string ⟨q2.s.toArray⟩)).setCell ⟨D, 1, none⟩ (.int .i64 q2.e) = y4 := ⟨_, rfl⟩
    rw [hy4] at hD3 S4 ⊢
    clear hy4 gD hD2
    clear c0 c1 f0 f1 hl2_
    obtain ⟨c0, c1, f0, f1, hl2_⟩ := blk2_facts (hD3)
    obtain ⟨d0, d1, m0, m1, _⟩ := blk2_facts S4.i
    have gC : Fr [C] y4 ((y4.setCell ⟨C, 0, none⟩ (.string ⟨q2.s.toArray⟩)).setCell ⟨C, 1, none⟩ (.int .i64 q2.e)) := ((Fr.refl _ _).setCell (Or.inr (by simp)) _).setCell (Or.inr (by simp)) _
    have S5 := S4.go gC (show CurAt _ C q2 from blk2_set S4.i (.string ⟨q2.s.toArray⟩) (.int .i64 q2.e))
    have S5 := Lib.hid S5
    clear S4 hD3
    go_upto_region 9 with (fail)
    obtain ⟨y5, hy5⟩ : ∃ y5, (y4.setCell ⟨C, 0, none⟩ (.string ⟨q2.s.toArray⟩)).setCell ⟨C, 1, none⟩ (.int .i64 q2.e) = y5 := ⟨_, rfl⟩
    rw [hy5] at S5 ⊢
    clear hy5 gC d0 d1 m0 m1
    clear c0 c1 f0 f1 hl2_
    obtain ⟨m, hm⟩ : ∃ m, n % 4 = m := ⟨_, rfl⟩
    obtain ⟨hd, hh⟩ : ∃ h, n / 16 % 4 = h := ⟨_, rfl⟩
    obtain ⟨nl, hnl2⟩ : ∃ h, decide (n / 4 % 2 = 1) = h := ⟨_, rfl⟩
    obtain ⟨ap, hap⟩ : ∃ h, decide (n / 8 % 2 = 1) = h := ⟨_, rfl⟩
    have HO : Hid (sbOf f n = ⟨f, m, nl, ap, hd⟩) := Lib.hid (by rw [← hm, ← hh, ← hnl2, ← hap]; rfl)
    have HF : Hid (optFail n q2 = if 63 < n then q2.fail 2 else if m = 3 ∨ hd = 3 then q2.fail 3 else q2) := Lib.hid (by rw [← hm, ← hh]; rfl)
    have hm4 : m < 4 := by omega
    have hd4 : hd < 4 := by omega
    have im : (n : Int) % 4 = (m : Int) := by omega
    have ih : (n : Int) / 16 % 4 = (hd : Int) := by omega
    have inl : ((n : Int) / 4 % 2 == 1) = nl := by rw [← hnl2]; by_cases h : n / 4 % 2 = 1 <;> simp [h] <;> omega
    have iap : ((n : Int) / 8 % 2 == 1) = ap := by rw [← hap]; by_cases h : n / 8 % 2 = 1 <;> simp [h] <;> omega
    clear hm hh hnl2 hap
    obtain ⟨b64, h64⟩ : ∃ b, decide ((64 : Int) ≤ (n : Int)) = b := ⟨_, rfl⟩
    obtain ⟨b3, h3⟩ : ∃ b : Bool, b = decide (m = 3 ∨ hd = 3) := ⟨_, rfl⟩
    obtain ⟨bq, hbq⟩ : ∃ b, decide (q2.e = 0) = b := ⟨_, rfl⟩
    have HF2 : Hid (optFail n q2 = if (bq && b64) = true then q2.fail 2 else if (bq && b3) = true then q2.fail 3 else q2) := Lib.hid (by
      rw [HF.out, ← h64, h3, ← hbq, show decide ((64 : Int) ≤ (n : Int)) = decide (63 < n) from decide_eq_decide.2 (by omega)]
      by_cases he : q2.e = 0
      · simp [he]
      · rw [fail_bad _ _ he, fail_bad _ _ he]; simp)
    have hqe2 : (q2.e == 0) = bq := by rw [← hbq]; by_cases h : q2.e = 0 <;> simp [h]
    have HQ : Hid (bq = true → q2.e = 0) := Lib.hid (fun h => by rw [← hbq] at h; simpa using h)
    have im3 : ((m : Int) == 3) = decide (m = 3) := by by_cases h : m = 3 <;> simp [h] <;> omega
    have ih3 : ((hd : Int) == 3) = decide (hd = 3) := by by_cases h : hd = 3 <;> simp [h] <;> omega
    have H3 := Lib.hid h3
    clear HF hbq h3
    generalize optFail n q2 = q3 at *
    obtain ⟨c0, c1, f0, f1, hl2_⟩ := blk2_facts (S5.out.i)
    go_cut [54] (fun v54 wx => v54 = .bool (bq && b64) ∧ y5 = wx)
    case first =>
      cases bq
      · go_wp2
        go_meet
        exact ⟨rfl, rfl⟩
      · go_wp2
        go_meet
        exact ⟨by rw [Bool.true_and], rfl⟩
    case rest =>
    obtain ⟨rfl, hwc⟩ := hcut
    rw [← hwc]
    clear hwc
    clear wc
    obtain ⟨q4, hq4⟩ : ∃ q4, (if (bq && b64) = true then q2.fail 2 else q2) = q4 := ⟨_, rfl⟩
    have HQ4 := Lib.hid hq4
    clear hq4
    go_upto_if 54 with (fail)
    go_cut [] (fun wx => RsS w id lp AP cp C B l A c q4 wx ∧ Fr [C] y5 wx)
    case first =>
      obtain ⟨ba, hba⟩ : ∃ ba, (bq && b64) = ba := ⟨_, rfl⟩
      rw [hba] at HQ4 ⊢
      cases ba
      · rw [if_neg (by decide)] at HQ4
        go_wp2
        go_meet
        rw [← HQ4.out]
        exact ⟨S5.out, Fr.refl _ _⟩
      · rw [if_pos rfl] at HQ4
        have hbt : bq = true := by (rw [Bool.and_eq_true] at hba; exact hba.1)
        have hq2 := HQ.out hbt
        have HC2 := Lib.hid (show CurAt (y5.setCell ⟨C, 1, none⟩ (.int .i64 2)) C q4 by
          have := blk_set S5.out.i 1 (.int .i64 2)
          rw [← HQ4.out, show q2.fail 2 = ⟨q2.s, 2⟩ from if_pos hq2]
          exact this)
        clear hba hbt hq2
        go_wp2
        go_meet
        exact ⟨S5.out.go ((Fr.refl _ _).setCell (Or.inr (by simp)) _) HC2.out, (Fr.refl _ _).setCell (Or.inr (by simp)) _⟩
    case rest =>
    obtain ⟨S6, gS6⟩ := hcut
    generalize wc = y6 at *
    have S6 := Lib.hid S6
    have he4 : Hid (decide (q4.e = 0) = (bq && !b64)) := Lib.hid (by
      rw [← HQ4.out]
      cases bq
      · rw [Bool.false_and, if_neg (by decide), Bool.false_and]
        have := hqe2
        simpa using this
      · have h2 := HQ.out rfl
        cases b64
        · rw [Bool.true_and, if_neg (by decide)]; simp [h2]
        · rw [Bool.true_and, if_pos rfl, show q2.fail 2 = ⟨q2.s, 2⟩ from if_pos h2]; rfl)
    have HF3 : Hid (q3 = if (decide (q4.e = 0) && b3) = true then q4.fail 3 else q4) := Lib.hid (by
      rw [HF2.out, he4.out, ← HQ4.out]
      cases bq <;> cases b64 <;> simp)
    have HE4 : Hid ((decide (q4.e = 0) && b3) = true → q4.e = 0) := Lib.hid (fun h => (and_dec (a := q4.e = 0) (b := b3 = true) (by simpa using h)).1)
    have hqe4 : (q4.e == 0) = decide (q4.e = 0) := by by_cases h : q4.e = 0 <;> simp [h]
    obtain ⟨b4, hb4⟩ : ∃ b, decide (q4.e = 0) = b := ⟨_, rfl⟩
    rw [hb4] at HF3 HE4 hqe4
    clear hb4 he4 HQ4 HF2 HQ hqe2 S5 gS6
    clear c0 c1 f0 f1 hl2_
    obtain ⟨c0, c1, f0, f1, hl2_⟩ := blk2_facts (S6.out.i)
    obtain ⟨b31, hb31⟩ : ∃ b, decide (m = 3) = b := ⟨_, rfl⟩
    obtain ⟨b32, hb32⟩ : ∃ b, decide (hd = 3) = b := ⟨_, rfl⟩
    have HB3 : Hid (b3 = (b31 || b32)) := Lib.hid (by rw [H3.out, ← hb31, ← hb32]; by_cases h : m = 3 <;> by_cases h' : hd = 3 <;> simp [h, h'])
    rw [hb31] at im3
    rw [hb32] at ih3
    clear hb31 hb32 H3
    go_upto_region 11 with (fail)
    go_cut [69] (fun v69 wx => v69 = .bool (b4 && b3) ∧ y6 = wx)
    case first =>
      cases b4
      · go_wp2
        go_meet
        exact ⟨rfl, rfl⟩
      · cases b31
        · go_wp2
          go_meet
          rw [HB3.out]
          exact ⟨by simp, rfl⟩
        · go_wp2
          go_meet
          rw [HB3.out]
          exact ⟨by simp, rfl⟩
    case rest =>
    obtain ⟨rfl, hwc⟩ := hcut
    rw [← hwc]
    clear hwc HB3 im3 ih3
    clear wc
    go_upto_if 69 with (fail)
    go_cut [] (fun wx => RsS w id lp AP cp C B l A c q3 wx)
    case first =>
      obtain ⟨ba, hba⟩ : ∃ ba, (b4 && b3) = ba := ⟨_, rfl⟩
      rw [hba] at HF3 HE4 ⊢
      clear hba
      cases ba
      · rw [if_neg (by decide)] at HF3
        go_wp2
        go_meet
        rw [HF3.out]
        exact S6.out
      · rw [if_pos rfl] at HF3
        have HC2 := Lib.hid (show CurAt (y6.setCell ⟨C, 1, none⟩ (.int .i64 3)) C q3 by
          rw [HF3.out]
          exact CurAt.e3 S6.out.i (HE4.out (by simp)))
        go_wp2
        go_meet
        exact S6.out.go ((Fr.refl _ _).setCell (Or.inr (by simp)) _) HC2.out
    case rest =>
    have S8 := hcut
    generalize wc = y8 at *
    clear c0 c1 f0 f1 hl2_
    clear HF3 HE4 hqe4 S6 h64
    rw [HO.out] at HT
    have HLn2 : Hid (SbL RR r0.s.length (l ++ [⟨f, m, nl, ap, hd⟩]) q3) := Lib.hid (by have := HLn.out; rw [HT.out] at this; exact this)
    obtain ⟨⟨d0, d1, d2⟩, ⟨g0, g1, g2⟩, _⟩ := blk3_facts S8.s
    have S6 := Lib.hid (S8.old ((Fr.refl [] y8).alloc (.cells #[.string ⟨f.toArray⟩, .int .u8 (m : Int), .bool nl, .bool ap, .int .u8 (hd : Int)] 92)))
    have hyl := S8.f.size
    have hm256 : (m : Int) < 256 := by omega
    have hd256 : (hd : Int) < 256 := by omega
    clear S8 HO HT HLn
    go_wp2_with (at_builtin; refine wpl_app _ rfl (.tmp 72) (.tmp 90) 49 rfl w.heap.size 92 i0 (.agg #[.string ⟨#[]⟩, .int .u8 0, .bool false, .bool false, .int .u8 0]) 5 24 Try.underlying49 hi hz0 hz1 hz2 rfl (by decide) _ l.length (l.flatMap sbE) rfl S6.out.o ⟨y8.heap.size, 0, none⟩ 1 1 (sbE ⟨f, m, nl, ap, hd⟩) rfl rfl ?c1 ?c2 ?c3 ?c4 ?c5 ?_)
    try (case c1 => exact news_at _ _ (by simp) _ _)
    try (case c2 => first | exact ⟨rfl, rfl, rfl, rfl, rfl⟩ | (intro u hu; simp [sbE] at hu; rcases hu with rfl | rfl | rfl | rfl | rfl <;> rfl))
    try (case c3 => unfold maxLen; omega)
    try (case c4 => omega)
    try (case c5 => first | omega | (simp; omega))
    intro v' w9 own9 hg9 _
    obtain ⟨A9, c9, rfl⟩ := own_shape own9
    have S7 := Lib.hid (S6.out.app hg9 own9)
    have hs9 := grown_blk hg9 S6.out.s (own_ne S6.out.o S6.out.s (by decide))
    clear own9 hg9 S6 d0 d1 d2 g0 g1 g2
    obtain ⟨⟨d0, d1, d2⟩, ⟨g0, g1, g2⟩, _⟩ := blk3_facts hs9
    clear hs9
    go_wp2
    go_roundw
    case rel => exact ⟨l ++ [⟨f, m, nl, ap, hd⟩], A9, c9, q3, by rw [List.length_append]; first | rfl | go_num | simp, HLn2, S7.out⟩
    case measure => simp [intOf]; omega
end Go.Proofs.Ythioageiebchlaa
