/- What package subscribe reads as a subscribe. Conditions: strings that may be. -/
import Derived.Test.YthioageiebchlaaSuB
import Derived.Deep.CutBlock
namespace Go.Proofs.Ythioageiebchlaa
open Go.RowKit
set_option linter.unusedVariables false
set_option linter.unusedSimpArgs false

theorem su_row (A B : Option Addr) (n m k l : Nat) (i : Int) : ((#[.int .u32 i, .slice A n m, .slice B k l] : Array Value).all fun x => x.oneCell') = true := by
  simp; exact ⟨rfl, rfl, rfl⟩
theorem own_apart {w : World} {b1 b2 : Nat} {e1 e2 : TypeId} {s1 s2 n1 n2 : Nat} {v1 v2 : Value} {x1 x2 : List Value} (h1 : w.ownsRow b1 e1 s1 v1 n1 x1) (h2 : w.ownsRow b2 e2 s2 v2 n2 x2) (hne : e2 ≠ e1) : v1.ownBlock = none ∨ v1.ownBlock ≠ v2.ownBlock := by
  rcases h1.2 with ⟨rfl, _⟩ | ⟨g, cap, cur, rfl, _, hg, _⟩
  · exact Or.inl rfl
  · right
    intro e
    exact own_ne h2 hg hne (by rw [← e]; rfl)
/-- Another block, made behind the rows, turns. -/
theorem SuS.far {w : World} {id : Nat} {lp : List Pr} {AP : Option Addr} {cp : Nat} {b B : Nat} {l : List Sb} {A : Option Addr} {c : Nat} {q : Rd} {y : World} (h : SuS w id lp AP cp b B l A c q y) {y' : World} {X : Nat} (g : Fr [X] y y') (hw : w.heap.size < X) (hB : B ≠ X) (hb : b ≠ X)
    (hp : ∀ k, (Value.slice AP lp.length cp).ownBlock = some k → k < X) (ho : ∀ k, (Value.slice A l.length c).ownBlock = some k → k < X) : SuS w id lp AP cp b B l A c q y' :=
  ⟨g.blk h.z (by simp; omega), g.blk h.s (by simpa using hB), h.i.fr g (by simpa using hb), own_fr g h.p (by intro k hk e; have := hp k hk; simp at e; omega), own_fr g h.o (by intro k hk e; have := ho k hk; simp at e; omega), h.f.trans g (by intro x hx e; simp at e; omega), h.bl, h.Bl⟩
/-- A row more. -/
theorem SuS.app {w : World} {id : Nat} {lp : List Pr} {AP : Option Addr} {cp : Nat} {b B : Nat} {l : List Sb} {A : Option Addr} {c : Nat} {q : Rd} {y : World} (h : SuS w id lp AP cp b B l A c q y) {y' : World} {x : Sb} {A' : Option Addr} {c' : Nat}
    (hg : y.grownBy y' (Value.slice A l.length c).ownBlock) (ho : y'.ownsRow w.heap.size 35 5 (.slice A' (l.length + 1) c') (l.length + 1) (l.flatMap sbE ++ sbE x)) :
    SuS w id lp AP cp b B (l ++ [x]) A' c' q (y'.setCell ⟨B, 2, none⟩ (.slice A' (l.length + 1) c')) := by
  have e : (l ++ [x]).length = l.length + 1 := by simp
  have e2 : (l ++ [x]).flatMap sbE = l.flatMap sbE ++ sbE x := flat_snoc _ _ _
  have hz := grown_blk hg h.z (own_ne h.o h.z (by decide))
  have hs := grown_blk hg h.s (own_ne h.o h.s (by decide))
  have hi : InAt y' b q := grown_blk hg h.i (own_ne h.o h.i (by decide))
  have hp := grown_own hg h.p (own_apart h.p h.o (by decide))
  have hbB : B ≠ b := by rintro rfl; have := h.s.symm.trans h.i; cases this
  have hBl := h.Bl
  refine ⟨blk_far hz (by simp; omega) _, ?_, hi.fr (S := [B]) ((Fr.refl _ _).setCell (Or.inr (by simp)) _) (by simpa using hbB.symm), own_set hp (by intro e; exact own_ne hp hs (by decide) e.symm) _, ?_, (h.f.app h.o (Nat.le_refl _) hg).setCell (Or.inl (by simp; omega)) _, h.bl, h.Bl⟩
  · rw [e]; exact blk_set hs 2 _
  · rw [e, e2]; exact own_set ho (by intro e; exact own_ne ho hs (by decide) e.symm) _
set_option maxRecDepth 100000 in
set_option maxHeartbeats 8000000 in
theorem suparse_any (s : List UInt8) (w : World) (hs : s.length ≤ 1000000) :
    Calls Try.prog 9 #[.string ⟨s.toArray⟩] w (SuTo (suParse s) w) := by
  obtain ⟨i0, hi, hz0, hz1, hz2⟩ := info_parts Try.infoSb
  have HR : Hid (suParse s = if (subsR (beginR 8 s).r).2.ends = 0 then (⟨(beginR 8 s).id, (beginR 8 s).props, (subsR (beginR 8 s).r).1⟩, 0) else (noSu, (subsR (beginR 8 s).r).2.ends)) := Lib.hid rfl
  have hbg := begin_left 8 s
  have F0 : Fr [] w (w.alloc (.cells #[.int .u32 0, .slice none 0 0, .slice none 0 0] 27)) := (Fr.refl _ _).alloc _
  have hb0 := blk_new w (.cells #[.int .u32 0, .slice none 0 0, .slice none 0 0] 27)
  go_enter Try.func9, Try.ntmps9
  go_wp2_with fail
  refine (pbegin_any 8 s _ hs).mono ?_
  rintro _ w1 ⟨v, b, rfl, h1, own1, hb1, g1⟩
  generalize beginR 8 s = BG at *
  obtain ⟨id, lp, r0⟩ := BG
  dsimp only at HR hbg h1 own1 ⊢
  obtain ⟨AP, cp, rfl⟩ := own_shape own1
  have hwb : w.heap.size < b := by simp at hb1; omega
  have hb1w := blk_lt h1
  have g2 := (g1.alloc (.cells #[.int .u32 (id : Int), .slice AP lp.length cp, .slice none 0 0] 27))
  have g3 := (Fr.refl [] w1).alloc (.cells #[.int .u32 (id : Int), .slice AP lp.length cp, .slice none 0 0] 27)
  have S0 : SuS w id lp AP cp b w1.heap.size [] none 0 r0 (w1.alloc (.cells #[.int .u32 (id : Int), .slice AP lp.length cp, .slice none 0 0] 27)) :=
    ⟨g2.blk hb0 (by simp), blk_new w1 _, h1.fr g3 (by simp), own_fr g3 (own_base own1 (base' := w.heap.size) (fun k hk => by have := (own1.lt k hk).1; simp at this; omega)) (by simp), World.ownsRow_nil _ _ _ _, F0.trans g2 (by simp), hwb, by omega⟩
  have HL0 := Lib.hid (sbL_start r0)
  have hB1 : w1.heap.size ≠ b := by omega
  generalize hRR : subsR r0 = RR at *
  clear hRR
  have S0 := Lib.hid S0
  clear F0 hb0 h1 own1 hb1 g1 g2 g3
  go_wp2_with fail
  generalize w1.alloc (.cells #[.int .u32 (id : Int), .slice AP lp.length cp, .slice none 0 0] 27) = y0 at *
  generalize w1.heap.size = B at *
  go_loopw [] (fun wr => ∃ (l : List Sb) (A : Option Addr) (c : Nat) (q : Rd), Hid (SbL RR r0.s.length l q) ∧ SuS w id lp AP cp b B l A c q wr) (fun wr => inM b wr)
  case atStart => exact ⟨[], none, 0, r0, HL0, S0.out⟩
  case round =>
    clear HL0 S0
    obtain ⟨l, A, c, q, HL, hS⟩ := hrel
    have hql : q.s.length ≤ 1000000 := by have := HL.out.1; omega
    have hbB := hS.bl
    have hBB := hS.Bl
    by_cases hqs : q.s = []
    · have HR0 := Lib.hid (sbL_end HL.out (Or.inl hqs))
      have hl0 : decide ((0 : Int) < (q.s.length : Int)) = false := by rw [hqs]; rfl
      have hl1 : ¬ ((0 : Int) < (q.s.length : Int)) := by rw [hqs]; simp
      have HS := Lib.hid hS
      clear hqs
      go_wp2_with fail
      refine (left_any _ q _ HS.out.i).mono ?_
      rintro _ x1 ⟨rfl, rfl⟩
      clear hS
      go_wp2_with fail
      refine (end_any _ _ _ HS.out.i).mono ?_
      rintro _ _ ⟨rfl, rfl⟩
      have HR2 : Hid (suParse s = if q.ends = 0 then (⟨id, lp, l⟩, 0) else (noSu, q.ends)) := Lib.hid (by rw [HR.out, HR0.out])
      clear HR HR0
      generalize q.ends = E at *
      by_cases hE : E = 0
      · have E0 : (E != 0) = false := by simpa using hE
        rw [if_pos hE] at HR2
        clear hE
        go_upto_region 15 with (fail)
        refine wp_region_lit ?_
        refine wpList_load_mid rfl 27 _ rfl B 0 (by rfl) [.int .u32 (id : Int), .slice AP lp.length cp, .slice A l.length c] _ (range_blk HS.out.s rfl) Try.underlying27 rfl (by kernel_rfl) ?_
        refine wpList_store_row rfl 27 _ _ rfl w.heap.size #[.int .u32 (id : Int), .slice AP lp.length cp, .slice A l.length c] (by rfl) (by rfl) _ _ HS.out.z (by kernel_rfl) rfl (su_row _ _ _ _ _ _ _) ?_
        have HZ := Lib.hid (setRow_heap _ _ _ #[.int .u32 (id : Int), .slice AP lp.length cp, .slice A l.length c] _ _ HS.out.z)
        have FZ := Lib.hid (fr_row HS.out.f (g := w.heap.size) (Or.inl (Nat.le_refl _)) #[.int .u32 (id : Int), .slice AP lp.length cp, .slice A l.length c])
        have VP := Lib.hid ((own_view HS.out.p).fr (fr_row (Fr.refl [w.heap.size] _) (g := w.heap.size) (Or.inr (by simp)) #[.int .u32 (id : Int), .slice AP lp.length cp, .slice A l.length c]) (by intro k hk e; simp at e; subst e; exact own_ne HS.out.p HS.out.z (by decide) hk))
        have VU := Lib.hid ((own_view HS.out.o).fr (fr_row (Fr.refl [w.heap.size] _) (g := w.heap.size) (Or.inr (by simp)) #[.int .u32 (id : Int), .slice AP lp.length cp, .slice A l.length c]) (by intro k hk e; simp at e; subst e; exact own_ne HS.out.o HS.out.z (by decide) hk))
        go_wp2
        generalize World.setRow _ w.heap.size #[.int .u32 (id : Int), .slice AP lp.length cp, .slice A l.length c] = W5 at *
        refine bodyPost_ret (res_cell2 Try.results9 _ _ w.heap.size [.int .u32 (id : Int), .slice AP lp.length cp, .slice A l.length c] _ (.int .i64 0) (by first | kernel_rfl | rfl) (by first | kernel_rfl | rfl) (range_blk HZ.out rfl) Try.underlying27 rfl (by kernel_rfl)) rfl ?_
        rw [HR2.out]
        exact ⟨_, _, rfl, VP.out, VU.out, FZ.out⟩
      · have E0 : (E != 0) = true := by simpa using hE
        rw [if_neg hE] at HR2
        clear hE
        go_upto_region 14 with (fail)
        refine wp_region_lit ?_
        refine wpList_build rfl _ _ rfl (by kernel_rfl) ?_
        refine wpList_mv rfl _ rfl ?_
        refine wpList_store_row rfl 27 _ _ rfl w.heap.size #[.int .u32 0, .slice none 0 0, .slice none 0 0] (by rfl) (by kernel_rfl) _ _ HS.out.z (by kernel_rfl) rfl (by kernel_rfl) ?_
        have HZ := Lib.hid (setRow_heap _ _ _ #[.int .u32 0, .slice none 0 0, .slice none 0 0] _ _ HS.out.z)
        have FZ := Lib.hid (fr_row HS.out.f (g := w.heap.size) (Or.inl (Nat.le_refl _)) #[.int .u32 0, .slice none 0 0, .slice none 0 0])
        go_wp2
        generalize World.setRow _ w.heap.size #[.int .u32 0, .slice none 0 0, .slice none 0 0] = W5 at *
        refine bodyPost_ret (res_cell2 Try.results9 _ _ w.heap.size [.int .u32 0, .slice none 0 0, .slice none 0 0] _ (.int .i64 E) (by first | kernel_rfl | rfl) (by first | kernel_rfl | rfl) (range_blk HZ.out rfl) Try.underlying27 rfl (by kernel_rfl)) rfl ?_
        rw [HR2.out]
        exact ⟨_, _, rfl, View.nil _, View.nil _, FZ.out⟩
    by_cases hqe : q.e = 0
    rotate_left
    · have HR0 := Lib.hid (sbL_end HL.out (Or.inr hqe))
      have hl1 : (0 : Int) < (q.s.length : Int) := by have := List.length_pos_iff.2 hqs; omega
      have t6 : (q.e == 0) = false := by simpa using hqe
      have HS := Lib.hid hS
      clear hqs hqe hS
      go_wp2_with fail
      refine (left_any _ q _ HS.out.i).mono ?_
      rintro _ x1 ⟨rfl, rfl⟩
      go_wp2_with fail
      refine (err_any _ q _ HS.out.i).mono ?_
      rintro _ x1 ⟨rfl, rfl⟩
      go_wp2_with fail
      refine (end_any _ _ _ HS.out.i).mono ?_
      rintro _ _ ⟨rfl, rfl⟩
      have HR2 : Hid (suParse s = if q.ends = 0 then (⟨id, lp, l⟩, 0) else (noSu, q.ends)) := Lib.hid (by rw [HR.out, HR0.out])
      clear HR HR0
      generalize q.ends = E at *
      by_cases hE : E = 0
      · have E0 : (E != 0) = false := by simpa using hE
        rw [if_pos hE] at HR2
        clear hE
        go_upto_region 15 with (fail)
        refine wp_region_lit ?_
        refine wpList_load_mid rfl 27 _ rfl B 0 (by rfl) [.int .u32 (id : Int), .slice AP lp.length cp, .slice A l.length c] _ (range_blk HS.out.s rfl) Try.underlying27 rfl (by kernel_rfl) ?_
        refine wpList_store_row rfl 27 _ _ rfl w.heap.size #[.int .u32 (id : Int), .slice AP lp.length cp, .slice A l.length c] (by rfl) (by rfl) _ _ HS.out.z (by kernel_rfl) rfl (su_row _ _ _ _ _ _ _) ?_
        have HZ := Lib.hid (setRow_heap _ _ _ #[.int .u32 (id : Int), .slice AP lp.length cp, .slice A l.length c] _ _ HS.out.z)
        have FZ := Lib.hid (fr_row HS.out.f (g := w.heap.size) (Or.inl (Nat.le_refl _)) #[.int .u32 (id : Int), .slice AP lp.length cp, .slice A l.length c])
        have VP := Lib.hid ((own_view HS.out.p).fr (fr_row (Fr.refl [w.heap.size] _) (g := w.heap.size) (Or.inr (by simp)) #[.int .u32 (id : Int), .slice AP lp.length cp, .slice A l.length c]) (by intro k hk e; simp at e; subst e; exact own_ne HS.out.p HS.out.z (by decide) hk))
        have VU := Lib.hid ((own_view HS.out.o).fr (fr_row (Fr.refl [w.heap.size] _) (g := w.heap.size) (Or.inr (by simp)) #[.int .u32 (id : Int), .slice AP lp.length cp, .slice A l.length c]) (by intro k hk e; simp at e; subst e; exact own_ne HS.out.o HS.out.z (by decide) hk))
        go_wp2
        generalize World.setRow _ w.heap.size #[.int .u32 (id : Int), .slice AP lp.length cp, .slice A l.length c] = W5 at *
        refine bodyPost_ret (res_cell2 Try.results9 _ _ w.heap.size [.int .u32 (id : Int), .slice AP lp.length cp, .slice A l.length c] _ (.int .i64 0) (by first | kernel_rfl | rfl) (by first | kernel_rfl | rfl) (range_blk HZ.out rfl) Try.underlying27 rfl (by kernel_rfl)) rfl ?_
        rw [HR2.out]
        exact ⟨_, _, rfl, VP.out, VU.out, FZ.out⟩
      · have E0 : (E != 0) = true := by simpa using hE
        rw [if_neg hE] at HR2
        clear hE
        go_upto_region 14 with (fail)
        refine wp_region_lit ?_
        refine wpList_build rfl _ _ rfl (by kernel_rfl) ?_
        refine wpList_mv rfl _ rfl ?_
        refine wpList_store_row rfl 27 _ _ rfl w.heap.size #[.int .u32 0, .slice none 0 0, .slice none 0 0] (by rfl) (by kernel_rfl) _ _ HS.out.z (by kernel_rfl) rfl (by kernel_rfl) ?_
        have HZ := Lib.hid (setRow_heap _ _ _ #[.int .u32 0, .slice none 0 0, .slice none 0 0] _ _ HS.out.z)
        have FZ := Lib.hid (fr_row HS.out.f (g := w.heap.size) (Or.inl (Nat.le_refl _)) #[.int .u32 0, .slice none 0 0, .slice none 0 0])
        go_wp2
        generalize World.setRow _ w.heap.size #[.int .u32 0, .slice none 0 0, .slice none 0 0] = W5 at *
        refine bodyPost_ret (res_cell2 Try.results9 _ _ w.heap.size [.int .u32 0, .slice none 0 0, .slice none 0 0] _ (.int .i64 E) (by first | kernel_rfl | rfl) (by first | kernel_rfl | rfl) (range_blk HZ.out rfl) Try.underlying27 rfl (by kernel_rfl)) rfl ?_
        rw [HR2.out]
        exact ⟨_, _, rfl, View.nil _, View.nil _, FZ.out⟩
    have HLn := Lib.hid (sbL_step HL.out hqs hqe)
    have hmes : Hid (inM b wr = q.s.length + 1) := Lib.hid (by rw [inM_at hS.i, if_pos hqe])
    have hll := HL.out.2.1 hqe
    have hl1 : (0 : Int) < (q.s.length : Int) := by have := List.length_pos_iff.2 hqs; omega
    have hnx : Hid ((sbTake q).2.e = 0 → (sbTake q).2.s.length < q.s.length) := Lib.hid (fun h => sbTake_less q h)
    have t6 : (q.e == 0) = true := by simpa using hqe
    have HS := Lib.hid hS
    clear hqs hqe hS HL
    go_wp2_with fail
    refine (left_any _ q _ HS.out.i).mono ?_
    rintro _ x1 ⟨rfl, rfl⟩
    go_wp2_with fail
    refine (err_any _ q _ HS.out.i).mono ?_
    rintro _ x1 ⟨rfl, rfl⟩
    go_wp2_with fail
    refine (take_any b q _ HS.out.i (by omega)).mono ?_
    rintro _ x1 ⟨rfl, i1, g1⟩
    have S1 := HS.out.go g1 i1
    have hsl := Rd.str_left q
    have HT : Hid (sbTake q = (sbOf q.str.1 (q.str.2.num 1).1, optFail (q.str.2.num 1).1 (q.str.2.num 1).2)) := Lib.hid rfl
    generalize q.str = T at *
    obtain ⟨f, q1⟩ := T
    dsimp only at S1 i1 hsl HT ⊢
    have hX := blk_new x1 (.cells #[.string ⟨f.toArray⟩, .int .u8 0, .bool false, .bool false, .int .u8 0] 35)
    have S2 := S1.old ((Fr.refl [] x1).alloc (.cells #[.string ⟨f.toArray⟩, .int .u8 0, .bool false, .bool false, .int .u8 0] 35))
    have hpX := Lib.hid (fun k hk => (S1.p.lt k hk).2 : ∀ k, (Value.slice AP lp.length cp).ownBlock = some k → k < x1.heap.size)
    have hoX := Lib.hid (fun k hk => (S1.o.lt k hk).2 : ∀ k, (Value.slice A l.length c).ownBlock = some k → k < x1.heap.size)
    have hbX := blk_lt i1
    have hBX := blk_lt S1.s
    clear g1 i1 S1 HS
    go_wp2_with fail
    refine (byte_any b q1 _ S2.i (by omega)).mono ?_
    rintro _ x2 ⟨rfl, i2, g2⟩
    have S3 := S2.go g2 i2
    have hX2 := g2.blk hX (by simp; omega)
    obtain ⟨X, hXx⟩ : ∃ X, x1.heap.size = X := ⟨_, rfl⟩
    rw [hXx] at hX2 hpX hoX hbX hBX ⊢
    clear hXx
    have hc := num_lt1 q1
    generalize q1.num 1 = T at *
    obtain ⟨n, q2⟩ := T
    dsimp only at S3 i2 HT hc ⊢
    clear hX S2 g2 i2
    have hbit := subits ⟨n, hc⟩
    dsimp only at hbit
    obtain ⟨hb3, hb4, hb8, hb16⟩ := hbit
    obtain ⟨m, hm⟩ : ∃ m, n % 4 = m := ⟨_, rfl⟩
    obtain ⟨hd, hh⟩ : ∃ h, n / 16 % 4 = h := ⟨_, rfl⟩
    obtain ⟨nl, hnl⟩ : ∃ h, decide (n / 4 % 2 = 1) = h := ⟨_, rfl⟩
    obtain ⟨ap, hap⟩ : ∃ h, decide (n / 8 % 2 = 1) = h := ⟨_, rfl⟩
    have HO : Hid (sbOf f n = ⟨f, m, nl, ap, hd⟩) := Lib.hid (by rw [← hm, ← hh, ← hnl, ← hap]; rfl)
    have HF : Hid (optFail n q2 = if 63 < n then q2.fail 2 else if m = 3 ∨ hd = 3 then q2.fail 3 else q2) := Lib.hid (by rw [← hm, ← hh]; rfl)
    rw [hm] at hb3
    rw [hh] at hb16
    rw [hnl] at hb4
    rw [hap] at hb8
    clear hm hh hnl hap
    obtain ⟨⟨e0, e1, e2, e3, e4⟩, ⟨k0, k1, k2, k3, k4⟩, _⟩ := blk5n_facts hX2
    have S3 := Lib.hid S3
    go_upto_block 2 with (fail)
    have hX3 : (((((x2.setCell ⟨X, 1, none⟩ (.int .u8 (m : Int))).setCell ⟨X, 2, none⟩ (.bool nl)).setCell ⟨X, 3, none⟩ (.bool ap)).setCell ⟨X, 4, none⟩ (.int .u8 (hd : Int)))).heap[X]? = some (.cells #[.string ⟨f.toArray⟩, .int .u8 (m : Int), .bool nl, .bool ap, .int .u8 (hd : Int)] 35 (0, 0)) := blk_set (blk_set (blk_set (blk_set hX2 1 _) 2 _) 3 _) 4 _
    have gX : Fr [X] x2 ((((x2.setCell ⟨X, 1, none⟩ (.int .u8 (m : Int))).setCell ⟨X, 2, none⟩ (.bool nl)).setCell ⟨X, 3, none⟩ (.bool ap)).setCell ⟨X, 4, none⟩ (.int .u8 (hd : Int))) := ((((Fr.refl _ _).setCell (Or.inr (by simp)) _).setCell (Or.inr (by simp)) _).setCell (Or.inr (by simp)) _).setCell (Or.inr (by simp)) _
    have S4 := S3.out.far gX (by omega) (by omega) (by omega) hpX.out hoX.out
    obtain ⟨y4, hy4⟩ : ∃ y4, ((((x2.setCell ⟨X, 1, none⟩ (.int .u8 (m : Int))).setCell ⟨X, 2, none⟩ (.bool nl)).setCell ⟨X, 3, none⟩ (.bool ap)).setCell ⟨X, 4, none⟩ (.int .u8 (hd : Int))) = y4 := ⟨_, rfl⟩
    rw [hy4] at hX3 S4 ⊢
    clear hy4 gX S3 hX2 e0 e1 e2 e3 e4 k0 k1 k2 k3 k4 hb3 hb4 hb8 hb16
    obtain ⟨b63, h63⟩ : ∃ b, decide ((63 : Int) < (n : Int)) = b := ⟨_, rfl⟩
    have HF2 : Hid (optFail n q2 = if b63 = true then q2.fail 2 else if m = 3 ∨ hd = 3 then q2.fail 3 else q2) := Lib.hid (by
      rw [HF.out, ← h63, show decide ((63 : Int) < (n : Int)) = decide (63 < n) from decide_eq_decide.2 (by omega)]
      simp only [decide_eq_true_eq])
    obtain ⟨⟨e0, e1, e2, e3, e4⟩, _, _⟩ := blk5n_facts hX3
    have S4 := Lib.hid S4
    have hX3 := Lib.hid hX3
    clear HF
    generalize optFail n q2 = q3 at *
    go_cut [] (fun wx => SuS w id lp AP cp b B l A c q3 wx ∧ wx.heap[X]? = some (.cells #[.string ⟨f.toArray⟩, .int .u8 (m : Int), .bool nl, .bool ap, .int .u8 (hd : Int)] 35 (0, 0)))
    case first =>
      cases b63
      · rw [if_neg (by decide)] at HF2
        by_cases hm3 : m = 3
        · have m3 : ((m : Int) == 3) = true := by rw [hm3]; rfl
          rw [if_pos (Or.inl hm3)] at HF2
          clear hm3
          go_wp2_with fail
          refine (fail_any _ _ 3 _ S4.out.i).mono ?_
          rintro _ y5 ⟨rfl, i5, g5⟩
          go_wp2
          go_meet
          rw [HF2.out]
          exact ⟨S4.out.go g5 i5, g5.blk hX3.out (by simp; omega)⟩
        · have m3 : ((m : Int) == 3) = false := by simp; omega
          by_cases hh3 : hd = 3
          · have h3 : ((hd : Int) == 3) = true := by rw [hh3]; rfl
            rw [if_pos (Or.inr hh3)] at HF2
            clear hm3 hh3
            go_wp2_with fail
            refine (fail_any _ _ 3 _ S4.out.i).mono ?_
            rintro _ y5 ⟨rfl, i5, g5⟩
            go_wp2
            go_meet
            rw [HF2.out]
            exact ⟨S4.out.go g5 i5, g5.blk hX3.out (by simp; omega)⟩
          · have h3 : ((hd : Int) == 3) = false := by simp; omega
            rw [if_neg (by omega)] at HF2
            clear hm3 hh3
            go_wp2
            go_meet
            rw [HF2.out]
            exact ⟨S4.out, hX3.out⟩
      · rw [if_pos rfl] at HF2
        go_wp2_with fail
        refine (fail_any _ _ 2 _ S4.out.i).mono ?_
        rintro _ y5 ⟨rfl, i5, g5⟩
        go_wp2
        go_meet
        rw [HF2.out]
        exact ⟨S4.out.go g5 i5, g5.blk hX3.out (by simp; omega)⟩
    case rest =>
      obtain ⟨S5, hX5⟩ := hcut
      generalize wc = y5 at *
      rw [HO.out] at HT
      clear HF2 S4 hX3 e0 e1 e2 e3 e4 h63
      obtain ⟨⟨e0, e1, e2, e3, e4⟩, _, _⟩ := blk5n_facts hX5
      obtain ⟨⟨d0, d1, d2⟩, ⟨g0, g1, g2⟩, _⟩ := blk3_facts S5.s
      have S6 := S5.old ((Fr.refl [] y5).alloc (.cells #[.string ⟨f.toArray⟩, .int .u8 (m : Int), .bool nl, .bool ap, .int .u8 (hd : Int)] 35))
      have hyl := S5.f.size
      have S5 := Lib.hid S5
      have S6 := Lib.hid S6
      clear hX5
      go_wp2_with (at_builtin; refine wpl_app _ rfl (.tmp 65) (.tmp 67) 25 rfl w.heap.size 35 i0 (.agg #[.string ⟨#[]⟩, .int .u8 0, .bool false, .bool false, .int .u8 0]) 5 24 Try.underlying25 hi hz0 hz1 hz2 rfl (by decide) _ l.length (l.flatMap sbE) rfl S6.out.o ⟨y5.heap.size, 0, none⟩ 1 1 (sbE ⟨f, m, nl, ap, hd⟩) rfl rfl ?c1 ?c2 ?c3 ?c4 ?c5 ?_)
      try (case c1 => exact news_at _ _ (by simp) _ _)
      try (case c2 => first | exact ⟨rfl, rfl, rfl, rfl, rfl⟩ | (intro u hu; simp [sbE] at hu; rcases hu with rfl | rfl | rfl | rfl | rfl <;> rfl))
      try (case c3 => unfold maxLen; omega)
      try (case c4 => omega)
      try (case c5 => first | omega | (simp; omega))
      intro v' w9 own9 hg9 _
      obtain ⟨A9, c9, rfl⟩ := own_shape own9
      have S7 := Lib.hid (S6.out.app hg9 own9)
      have HLn2 : Hid (SbL RR r0.s.length (l ++ [⟨f, m, nl, ap, hd⟩]) q3) := Lib.hid (by have := HLn.out; rw [HT.out] at this; exact this)
      have hlt : (if q3.e = 0 then q3.s.length + 1 else 0) < q.s.length + 1 := by
        have := hnx.out
        rw [HT.out] at this
        split
        · have := this ‹_›; dsimp only at this; omega
        · omega
      have HLT := Lib.hid hlt
      have hs9 := grown_blk hg9 S6.out.s (own_ne S6.out.o S6.out.s (by decide))
      clear own9 hg9 S6 e0 e1 e2 e3 e4 d0 d1 d2 g0 g1 g2 hlt
      obtain ⟨⟨d0, d1, d2⟩, ⟨g0, g1, g2⟩, _⟩ := blk3_facts hs9
      clear hs9
      go_wp2
      go_roundw
      case rel => exact ⟨_, A9, c9, q3, HLn2, S7.out⟩
      case measure =>
        rw [inM_at S7.out.i, hmes.out]
        exact HLT.out
end Go.Proofs.Ythioageiebchlaa
