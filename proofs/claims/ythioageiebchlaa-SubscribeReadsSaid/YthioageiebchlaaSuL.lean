/- What the law package of layer 8 tells: awake, Told, Uns, Acks. Conditions: bounds. -/
import Derived.Test.YthioageiebchlaaSuE
import Derived.Test.YthioageiebchlaaSuD
import Derived.Test.YthioageiebchlaaSuC
import Derived.Test.YthioageiebchlaaFew
namespace Go.Proofs.Ythioageiebchlaa
open Go.RowKit
set_option linter.unusedVariables false
set_option linter.unusedSimpArgs false

theorem view_shp {w : World} {v : Value} {n : Nat} {cs : List Value} (h : View w v n cs) : ∃ A c, v = .slice A n c := by
  obtain ⟨A, c, h, _⟩ := h
  exact ⟨A, c, h⟩
def awS : Su := ⟨1, [], [⟨[97], 1, true, false, 0⟩]⟩
theorem awS_b : SuB awS := ⟨by decide, by decide, prs_nil, by decide, fun x hx => by simp [awS] at hx; subst hx; exact ⟨by decide, by decide, by decide⟩⟩
set_option maxRecDepth 100000 in
set_option maxHeartbeats 2000000 in
theorem awake8_any (w : World) :
    Calls Try.prog 10 #[] w fun e w' => e = .returned (.bool true) ∧ Fr [] w w' := by
  have hT : suText awS = [0, 1, 0, 0, 1, 97, 5] := by kernel_rfl
  have hP : suParse [0, 1, 0, 0, 1, 97, 5] = (awS, 0) := by kernel_rfl
  have hQ : suParse [0, 1, 0] = (noSu, 3) := by kernel_rfl
  have hs := blk_old (blk_new w (.cells #[.string ⟨#[97]⟩, .int .u8 1, .bool true, .bool false, .int .u8 0] 35)) (.cells #[.int .u32 1, .slice none 0 0, .slice (some ⟨w.heap.size, 0, none⟩) 1 1] 27)
  have ht := blk_at1 w (.cells #[.string ⟨#[97]⟩, .int .u8 1, .bool true, .bool false, .int .u8 0] 35) (.cells #[.int .u32 1, .slice none 0 0, .slice (some ⟨w.heap.size, 0, none⟩) 1 1] 27)
  have F0 : Fr [] w ((w.alloc (.cells #[.string ⟨#[97]⟩, .int .u8 1, .bool true, .bool false, .int .u8 0] 35)).alloc (.cells #[.int .u32 1, .slice none 0 0, .slice (some ⟨w.heap.size, 0, none⟩) 1 1] 27)) := ((Fr.refl _ _).alloc _).alloc _
  go_enter Try.func10, Try.ntmps10
  go_upto_region 2 with (fail)
  obtain ⟨y, hy⟩ : ∃ y, (w.alloc (.cells #[.string ⟨#[97]⟩, .int .u8 1, .bool true, .bool false, .int .u8 0] 35)).alloc (.cells #[.int .u32 1, .slice none 0 0, .slice (some ⟨w.heap.size, 0, none⟩) 1 1] 27) = y := ⟨_, rfl⟩
  rw [hy] at hs ht F0 ⊢
  clear hy
  obtain ⟨⟨e0, e1, e2⟩, _, _⟩ := blk3_facts ht
  have VS : View y (.slice (some ⟨w.heap.size, 0, none⟩) 1 1) awS.subs.length (awS.subs.flatMap sbE) := view_cells (cs := awS.subs.flatMap sbE) hs (by rfl) 1 1
  have HS := Lib.hid hs
  have HT := Lib.hid ht
  have HF := Lib.hid F0
  have HVS := Lib.hid VS
  clear hs ht F0 VS
  go_wp2_with fail
  refine (sutext_any awS (.slice none 0 0) _ _ awS_b (View.nil _) HVS.out).mono ?_
  rintro _ w1 ⟨rfl, g1⟩
  rw [hT]
  go_wp2_with fail
  refine (suparse_any [0, 1, 0, 0, 1, 97, 5] _ (by decide)).mono ?_
  rw [hP]
  rintro _ w2 ⟨v, u, rfl, hv, hu, g2⟩
  obtain ⟨A, c, rfl⟩ := view_shp hv
  obtain ⟨A', c', rfl⟩ := view_shp hu
  unfold suC awS
  dsimp only
  have g12 := g1.trans g2 (by simp)
  have HT2 := Lib.hid (blk_old (g12.blk HT.out (by simp)) (.cells #[.int .u32 1, .slice A 0 c, .slice A' 1 c'] 27))
  have HN2 := Lib.hid (blk_new w2 (.cells #[.int .u32 1, .slice A 0 c, .slice A' 1 c'] 27))
  have g12a := Lib.hid (g12.alloc (.cells #[.int .u32 1, .slice A 0 c, .slice A' 1 c'] 27))
  clear g1 g2 g12 e0 e1 e2 hv hu
  go_wp2_with fail
  refine (suparse_any [0, 1, 0] _ (by decide)).mono ?_
  rw [hQ]
  rintro _ w3 ⟨v3, u3, rfl, hv3, hu3, g3⟩
  obtain ⟨A3, c3, rfl⟩ := view_shp hv3
  obtain ⟨A4, c4, rfl⟩ := view_shp hu3
  unfold suC noSu
  dsimp only
  have g3a := g3.alloc (.cells #[.int .u32 0, .slice A3 0 c3, .slice A4 0 c4] 27)
  have HT3 := Lib.hid (g3a.blk HT2.out (by simp))
  have HN3 := Lib.hid (g3a.blk HN2.out (by simp))
  have HG := Lib.hid (g12a.out.trans g3a (by simp))
  clear g3 hv3 hu3 g3a
  go_upto_region 4 with (fail)
  obtain ⟨y4, hy4⟩ : ∃ y4, w3.alloc (.cells #[.int .u32 0, .slice A3 0 c3, .slice A4 0 c4] 27) = y4 := ⟨_, rfl⟩
  rw [Int.natCast_zero] at *
  rw [hy4] at HT3 HN3 HG ⊢
  clear hy4
  obtain ⟨⟨e0, e1, e2⟩, _, _⟩ := blk3_facts HT3.out
  have hN3 := (blk3_facts HN3.out).1.2.2
  go_wp2_with fail
  refine (sutext_any awS (.slice none 0 0) _ _ awS_b (View.nil _) (HVS.out.old HG.out (by simp))).mono ?_
  rintro _ w5 ⟨rfl, g5⟩
  rw [hT]
  have hN5 := g5.cell hN3 (by simp)
  clear hN3 e0 e1 e2
  have HZ := Lib.hid (HF.out.trans (HG.out.trans g5 (by simp)) (by simp))
  clear g5
  go_wp2
  go_ret
  exact ⟨rfl, HZ.out⟩
/-- While a subscribe is made out of another: the handed one, the result's block, the new one, its rows. -/
structure AcS (T E PT TP : TypeId) (PC : Array Value) (w : World) (id : Nat) (lp : List Pr) (AP : Option Addr) (cp : Nat) (B : Nat) (l : List Sb) (A : Option Addr) (c : Nat) (y : World) : Prop where
  q : y.heap[w.heap.size]? = some (.cells PC TP (0, 0))
  z : y.heap[w.heap.size + 1]? = some (.cells #[.int .u32 0, .slice none 0 0, .slice none 0 0] T (0, 0))
  s : y.heap[B]? = some (.cells #[.int .u32 (id : Int), .slice AP lp.length cp, .slice A l.length c] T (0, 0))
  p : y.ownsRow w.heap.size PT 4 (.slice AP lp.length cp) lp.length (lp.flatMap prE)
  o : y.ownsRow w.heap.size E 5 (.slice A l.length c) l.length (l.flatMap sbE)
  f : Fr [] w y
  Bl : w.heap.size + 1 < B
theorem AcS.old {T E PT TP : TypeId} {PC : Array Value} {w : World} {id : Nat} {lp : List Pr} {AP : Option Addr} {cp B : Nat} {l : List Sb} {A : Option Addr} {c : Nat} {y : World} (h : AcS T E PT TP PC w id lp AP cp B l A c y) {y' : World} (g : Fr [] y y') : AcS T E PT TP PC w id lp AP cp B l A c y' :=
  ⟨g.blk h.q (by simp), g.blk h.z (by simp), g.blk h.s (by simp), own_fr g h.p (by simp), own_fr g h.o (by simp), h.f.trans g (by simp), h.Bl⟩
theorem AcS.app {T E PT TP : TypeId} {PC : Array Value} {w : World} {id : Nat} {lp : List Pr} {AP : Option Addr} {cp B : Nat} {l : List Sb} {A : Option Addr} {c : Nat} {y : World} (h : AcS T E PT TP PC w id lp AP cp B l A c y) (h1 : E ≠ T) (h2 : E ≠ PT) (h3 : E ≠ TP) (h4 : PT ≠ T) {y' : World} {x : Sb} {A' : Option Addr} {c' : Nat}
    (hg : y.grownBy y' (Value.slice A l.length c).ownBlock) (ho : y'.ownsRow w.heap.size E 5 (.slice A' (l.length + 1) c') (l.length + 1) (l.flatMap sbE ++ sbE x)) :
    AcS T E PT TP PC w id lp AP cp B (l ++ [x]) A' c' (y'.setCell ⟨B, 2, none⟩ (.slice A' (l.length + 1) c')) := by
  have e : (l ++ [x]).length = l.length + 1 := by simp
  have e2 : (l ++ [x]).flatMap sbE = l.flatMap sbE ++ sbE x := flat_snoc _ _ _
  have hq := grown_blk hg h.q (own_ne h.o h.q h3)
  have hz := grown_blk hg h.z (own_ne h.o h.z h1)
  have hs := grown_blk hg h.s (own_ne h.o h.s h1)
  have hp := grown_own hg h.p (own_apart h.p h.o h2)
  have hBl := h.Bl
  refine ⟨blk_far hq (by simp; omega) _, blk_far hz (by simp; omega) _, ?_, own_set hp (by intro e; exact own_ne hp hs h4 e.symm) _, ?_, (h.f.app h.o (Nat.le_refl _) hg).setCell (Or.inl (by simp; omega)) _, h.Bl⟩
  · rw [e]; exact blk_set hs 2 _
  · rw [e, e2]; exact own_set ho (by intro e; exact own_ne ho hs h1 e.symm) _
def TdSu (T : TypeId) (s : Su) (w : World) (e : Ending) (w' : World) : Prop :=
  ∃ v u, e = .returned (.agg (suC s v u).toArray) ∧ View w' v s.props.length (s.props.flatMap prE) ∧ View w' u s.subs.length (s.subs.flatMap sbE) ∧ Fr [] w w'
def NewSu (T PT : TypeId) (id : Nat) (lp : List Pr) (b0 : Nat) (y : World) (v : Value) (wx : World) : Prop :=
  ∃ X A n, v = .pointer (some ⟨X, 0, none⟩) ∧ wx.heap[X]? = some (.cells #[.int .u32 (id : Int), .slice A lp.length n, .slice none 0 0] T (0, 0)) ∧ b0 + 1 < X ∧ wx.ownsRow y.heap.size PT 4 (.slice A lp.length n) lp.length (lp.flatMap prE) ∧ Fr [] y wx
theorem Try.infoRSb2 : (Try.prog.info? 92).map (fun i => (i.zero, i.size, i.bytes)) = some (some (.agg #[.string ⟨#[]⟩, .int .u8 0, .bool false, .bool false, .int .u8 0]), 5, 24) := by kernel_rfl
set_option maxRecDepth 100000 in
set_option maxHeartbeats 4000000 in
theorem told8_any (s : Su) (v u : Value) (w : World) (hv : View w v s.props.length (s.props.flatMap prE)) (hu : View w u s.subs.length (s.subs.flatMap sbE)) (hl : s.props.length ≤ 1000000) (hl2 : s.subs.length ≤ 1000000) :
    Calls Try.prog 17 #[.agg (suC s v u).toArray] w (TdSu 51 s w) := by
  obtain ⟨i0, hi, hz0, hz1, hz2⟩ := info_parts Try.infoRSb2
  obtain ⟨id, l, ss⟩ := s
  dsimp only at hv hu hl hl2
  have HV := Lib.hid hv
  have HC : Hid (0 < ss.length → ∃ bb off c, u = .slice (some ⟨bb, off, none⟩) ss.length c ∧ bb < w.heap.size ∧ ∀ (i : Nat) (hi : i < ss.length) j x, (sbE ss[i])[j]? = some x → w.cell? ⟨bb, off + i * 5 + j, none⟩ = some x) := Lib.hid (fun hl => hu.at sbE_len (by decide) hl)
  obtain ⟨A, cp, rfl, _⟩ := hv
  obtain ⟨AU, cu, rfl, _⟩ := hu
  have hb0 := blk_old (blk_new w (.cells (suC ⟨id, l, ss⟩ (.slice A l.length cp) (.slice AU ss.length cu)).toArray 27)) (.cells #[.int .u32 0, .slice none 0 0, .slice none 0 0] 51)
  have hr0 := blk_at1 w (.cells (suC ⟨id, l, ss⟩ (.slice A l.length cp) (.slice AU ss.length cu)).toArray 27) (.cells #[.int .u32 0, .slice none 0 0, .slice none 0 0] 51)
  have F0 : Fr [] w ((w.alloc (.cells (suC ⟨id, l, ss⟩ (.slice A l.length cp) (.slice AU ss.length cu)).toArray 27)).alloc (.cells #[.int .u32 0, .slice none 0 0, .slice none 0 0] 51)) := ((Fr.refl _ _).alloc _).alloc _
  unfold suC at hb0 hr0 F0 ⊢
  dsimp only at hb0 hr0 F0 ⊢
  go_enter Try.func17, Try.ntmps17
  go_upto_region 1 with (fail)
  obtain ⟨y, hy⟩ : ∃ y, (w.alloc (.cells #[.int .u32 (id : Int), .slice A l.length cp, .slice AU ss.length cu] 27)).alloc (.cells #[.int .u32 0, .slice none 0 0, .slice none 0 0] 51) = y := ⟨_, rfl⟩
  rw [hy] at hb0 hr0 F0 ⊢
  clear hy
  have HQ := Lib.hid hb0
  have HR := Lib.hid hr0
  have HF := Lib.hid F0
  have hyl := blk_lt hr0
  clear hb0 hr0 F0
  go_cut [3] (fun v3 wx => NewSu 51 121 id (l) w.heap.size y v3 wx)
  case first =>
    obtain ⟨⟨e0, e1, e2⟩, _, _⟩ := blk3_facts HQ.out
    refine wp_region_late [] (S := fun w' => w'.cell? ⟨w.heap.size, 0, none⟩ = some (.int .u32 (id : Int)) ∧ w'.cell? ⟨w.heap.size, 1, none⟩ = some (.slice A l.length cp)) (by kernel_rfl) ⟨e0, e1⟩ (fun hHeld => ?_)
    have fd := (Fr.refl [] y).drew
    obtain ⟨wd, hwd⟩ : ∃ wd, y.drew = wd := ⟨_, rfl⟩
    rw [hwd] at hHeld fd ⊢
    have HVd := Lib.hid (HV.out.old (HF.out.trans fd (by simp)) (by simp))
    clear hwd e0 e1 e2
    obtain ⟨e0, e1⟩ := hHeld
    have hHeld := And.intro e0 e1
    refine wpLate_take (i := 0) (oi := _) (v := ?_) rfl (by kernel_rfl) (by kernel_rfl) (by kernel_rfl) (by kernel_rfl) (fun _ _ _ h => h) (Gives.load (by rfl) ?_) hHeld ?_
    rotate_left
    · intro w hSw
      (try dsimp only at hSw)
      go_simp
      try with_reducible rfl
    try simp only [Act.put, List.getElem_toArray, List.getElem_cons_succ, List.getElem_cons_zero, List.setIfInBounds_toArray, List.set_cons_zero, List.set_cons_succ]
    refine wpLate_take (i := 1) (oi := _) (v := ?_) rfl (by kernel_rfl) (by kernel_rfl) (by kernel_rfl) (by kernel_rfl) (fun _ _ _ h => h) (Gives.load (by rfl) ?_) hHeld ?_
    rotate_left
    · intro w hSw
      (try dsimp only at hSw)
      go_simp
      try with_reducible rfl
    try simp only [Act.put, List.getElem_toArray, List.getElem_cons_succ, List.getElem_cons_zero, List.setIfInBounds_toArray, List.set_cons_zero, List.set_cons_succ]
    refine wpLate_take (i := 2) (oi := _) (v := ?_) rfl (by kernel_rfl) (by kernel_rfl) (by kernel_rfl) (by kernel_rfl) (fun _ _ _ h => h) (Gives.load (by rfl) ?_) hHeld ?_
    rotate_left
    · intro w hSw
      (try dsimp only at hSw)
      go_simp
      try with_reducible rfl
    try simp only [Act.put, List.getElem_toArray, List.getElem_cons_succ, List.getElem_cons_zero, List.setIfInBounds_toArray, List.set_cons_zero, List.set_cons_succ]
    refine wpLate_take (i := 3) (oi := _) (v := ?_) rfl (by kernel_rfl) (by kernel_rfl) (by kernel_rfl) (by kernel_rfl) (fun _ _ _ h => h) (Gives.load (by rfl) ?_) hHeld ?_
    rotate_left
    · intro w hSw
      (try dsimp only at hSw)
      go_simp
      try with_reducible rfl
    try simp only [Act.put, List.getElem_toArray, List.getElem_cons_succ, List.getElem_cons_zero, List.setIfInBounds_toArray, List.set_cons_zero, List.set_cons_succ]
    refine wpLate_ready (rs := [4, 6]) (by kernel_rfl) (by simp) ?_
    refine AllLate.cons (o := _) rfl (fun K hK => ?_) ?_
    · go_simp
      refine (told_any _ l _ HVd.out hl).mono ?_
      rintro _ x1 ⟨v2, rfl, own2, f⟩
      obtain ⟨A2, n2, rfl⟩ := own_shape own2
      go_wp2_with fail
      have hlow := fun k hk => (own2.lt k hk).1
      refine hK.out _ _ (fun _ => ⟨f.cell e0 (by simp), f.cell e1 (by simp)⟩) (fun hHeld => ?_)
      replace hHeld := hHeld (by kernel_rfl)
      clear hK K
      try simp only [Act.put, List.getElem_toArray, List.getElem_cons_succ, List.getElem_cons_zero, List.setIfInBounds_toArray, List.set_cons_zero, List.set_cons_succ]
      refine wpLate_pure (i := 5) (oi := _) (v := ?_) rfl (by kernel_rfl) (by kernel_rfl) (by kernel_rfl) (by kernel_rfl) (fun _ _ _ h => h) (Gives.load (by rfl) ?_) (fun _ => hHeld) ?_
      rotate_left
      · intro w hSw
        clear hSw
        go_simp
        try with_reducible rfl
      try simp only [Act.put, List.getElem_toArray, List.getElem_cons_succ, List.getElem_cons_zero, List.setIfInBounds_toArray, List.set_cons_zero, List.set_cons_succ]
      refine wpLate_ready (rs := [6]) (by kernel_rfl) (by simp) ?_
      refine AllLate.cons (o := _) rfl (fun K hK => ?_) (by exact AllLate.nil)
      go_simp
      have ga := f.alloc (.cells #[.int .u32 0, .slice none 0 0, .slice none 0 0] 51)
      refine hK.out _ _ (fun _ => ⟨ga.cell e0 (by simp), ga.cell e1 (by simp)⟩) (fun hHeld => ?_)
      replace hHeld := hHeld (by kernel_rfl)
      clear hK K
      try simp only [Act.put, List.getElem_toArray, List.getElem_cons_succ, List.getElem_cons_zero, List.setIfInBounds_toArray, List.set_cons_zero, List.set_cons_succ]
      refine wpLate_ready (rs := [7]) (by kernel_rfl) (by simp) ?_
      refine AllLate.cons (o := _) rfl (fun K hK => ?_) (by exact AllLate.nil)
      have gs := fr_row ga (g := x1.heap.size) (Or.inl f.size) #[.int .u32 (id : Int), .slice A2 (l).length n2, .slice none 0 0]
      refine step_store_row rfl 51 _ _ rfl x1.heap.size #[.int .u32 (id : Int), .slice A2 (l).length n2, .slice none 0 0] (by rfl) (by rfl) _ _ (blk_new x1 _) (by kernel_rfl) rfl (su_row _ _ _ _ _ _ _) ?_
      refine hK.out _ _ (fun _ => ⟨gs.cell e0 (by simp), gs.cell e1 (by simp)⟩) (fun hHeld => ?_)
      replace hHeld := hHeld (by kernel_rfl)
      clear hK K
      try simp only [Act.put, List.getElem_toArray, List.getElem_cons_succ, List.getElem_cons_zero, List.setIfInBounds_toArray, List.set_cons_zero, List.set_cons_succ]
      refine wpLate_done (by kernel_rfl) ?_ _
      have hx1 := f.size
      have hyd := fd.size
      have hxl : ∀ k, (Value.slice A2 (l).length n2).ownBlock = some k → k < x1.heap.size := fun k hk => (own2.lt k hk).2
      have OW := own_base (own_fr (fr_row ((Fr.refl [x1.heap.size] x1).alloc (.cells #[.int .u32 0, .slice none 0 0, .slice none 0 0] 51)) (g := x1.heap.size) (Or.inr (by simp)) #[.int .u32 (id : Int), .slice A2 (l).length n2, .slice none 0 0]) own2 (by intro k hk e; have := hxl k hk; simp at e; omega)) (base' := y.heap.size) (fun k hk => by have := hlow k hk; omega)
      have OWH := Lib.hid OW
      clear own2 OW
      go_wp2_with fail
      go_meet
      exact ⟨x1.heap.size, A2, n2, rfl, setRow_heap _ _ _ _ _ _ (blk_new x1 _), by omega, OWH.out, fd.trans gs (by simp)⟩
    refine AllLate.cons (o := _) rfl (fun K hK => ?_) (by exact AllLate.nil)
    go_simp
    have ga := (Fr.refl [] wd).alloc (.cells #[.int .u32 0, .slice none 0 0, .slice none 0 0] 51)
    have hbn := blk_new wd (.cells #[.int .u32 0, .slice none 0 0, .slice none 0 0] 51)
    refine hK.out _ _ (fun _ => ⟨ga.cell e0 (by simp), ga.cell e1 (by simp)⟩) (fun hHeld => ?_)
    replace hHeld := hHeld (by kernel_rfl)
    clear hK K
    try simp only [Act.put, List.getElem_toArray, List.getElem_cons_succ, List.getElem_cons_zero, List.setIfInBounds_toArray, List.set_cons_zero, List.set_cons_succ]
    obtain ⟨C, hC⟩ : ∃ C, wd.heap.size = C := ⟨_, rfl⟩
    obtain ⟨X, hX⟩ : ∃ X, wd.alloc (.cells #[.int .u32 0, .slice none 0 0, .slice none 0 0] 51) = X := ⟨_, rfl⟩
    have hwC : wd.heap.size ≤ C := by omega
    have hyC : y.heap.size ≤ C := by rw [← hC]; exact fd.size
    rw [hC] at hbn ⊢
    rw [hX] at hHeld hbn ga ⊢
    clear hX hC
    have hCX := blk_lt hbn
    have HVd := Lib.hid (HVd.out.old ga (by simp))
    refine wpLate_ready (rs := [4]) (by kernel_rfl) (by simp) ?_
    refine AllLate.cons (o := _) rfl (fun K hK => ?_) (by exact AllLate.nil)
    go_simp
    refine (told_any _ l _ HVd.out hl).mono ?_
    rintro _ x1 ⟨v2, rfl, own2, f⟩
    obtain ⟨A2, n2, rfl⟩ := own_shape own2
    go_wp2_with fail
    have gx := ga.trans f (by simp)
    have hb1 := f.blk hbn (by simp)
    have hlow := fun k hk => (own2.lt k hk).1
    refine hK.out _ _ (fun _ => ⟨gx.cell e0 (by simp), gx.cell e1 (by simp)⟩) (fun hHeld => ?_)
    replace hHeld := hHeld (by kernel_rfl)
    clear hK K
    try simp only [Act.put, List.getElem_toArray, List.getElem_cons_succ, List.getElem_cons_zero, List.setIfInBounds_toArray, List.set_cons_zero, List.set_cons_succ]
    refine wpLate_pure (i := 5) (oi := _) (v := ?_) rfl (by kernel_rfl) (by kernel_rfl) (by kernel_rfl) (by kernel_rfl) (fun _ _ _ h => h) (Gives.load (by rfl) ?_) (fun _ => hHeld) ?_
    rotate_left
    · intro w hSw
      clear hSw
      go_simp
      try with_reducible rfl
    try simp only [Act.put, List.getElem_toArray, List.getElem_cons_succ, List.getElem_cons_zero, List.setIfInBounds_toArray, List.set_cons_zero, List.set_cons_succ]
    refine wpLate_ready (rs := [7]) (by kernel_rfl) (by simp) ?_
    refine AllLate.cons (o := _) rfl (fun K hK => ?_) (by exact AllLate.nil)
    have gs := fr_row gx (g := C) (Or.inl hwC) #[.int .u32 (id : Int), .slice A2 (l).length n2, .slice none 0 0]
    refine step_store_row rfl 51 _ _ rfl C #[.int .u32 (id : Int), .slice A2 (l).length n2, .slice none 0 0] (by rfl) (by rfl) _ _ hb1 (by kernel_rfl) rfl (su_row _ _ _ _ _ _ _) ?_
    refine hK.out _ _ (fun _ => ⟨gs.cell e0 (by simp), gs.cell e1 (by simp)⟩) (fun hHeld => ?_)
    replace hHeld := hHeld (by kernel_rfl)
    clear hK K
    try simp only [Act.put, List.getElem_toArray, List.getElem_cons_succ, List.getElem_cons_zero, List.setIfInBounds_toArray, List.set_cons_zero, List.set_cons_succ]
    refine wpLate_done (by kernel_rfl) ?_ _
    have OW := own_base (own_fr (fr_row (Fr.refl [C] x1) (g := C) (Or.inr (by simp)) #[.int .u32 (id : Int), .slice A2 (l).length n2, .slice none 0 0]) own2 (by intro k hk e; have := hlow k hk; simp at e; omega)) (base' := y.heap.size) (fun k hk => by have := hlow k hk; omega)
    have OWH := Lib.hid OW
    clear own2 OW
    go_wp2_with fail
    go_meet
    exact ⟨C, A2, n2, rfl, setRow_heap _ _ _ _ _ _ hb1, by omega, OWH.out, fd.trans gs (by simp)⟩
  case rest =>
    obtain ⟨X, A2, n2, rfl, hX, hbX, own2, G⟩ := hcut
    generalize wc = z at *
    have S0 : AcS 51 92 121 27 #[.int .u32 (id : Int), .slice A l.length cp, .slice AU ss.length cu] w id l A2 n2 X [] none 0 z :=
      ⟨G.blk HQ.out (by simp), G.blk HR.out (by simp), hX, own_base own2 (base' := w.heap.size) (fun k hk => by have := (own2.lt k hk).1; omega), World.ownsRow_nil _ _ _ _, HF.out.trans G (by simp), hbX⟩
    have S0 := Lib.hid S0
    clear hX own2 G HQ HR HF
    obtain ⟨⟨e0, e1, e2⟩, _, _⟩ := blk3_facts S0.out.q
    go_wp2
    go_loopw [15] (fun i wr => ∃ (k : Nat) (A9 : Option Addr) (c9 : Nat), i = .int .i64 k ∧ k ≤ ss.length ∧ AcS 51 92 121 27 #[.int .u32 (id : Int), .slice A l.length cp, .slice AU ss.length cu] w id l A2 n2 X (ss.take k) A9 c9 wr) (fun i _ => ss.length - (intOf i).toNat)
    case atStart => exact ⟨0, none, 0, rfl, by omega, S0.out⟩
    case round =>
      clear S0
      obtain ⟨k, A9, c9, rfl, hk, hS⟩ := hrel
      have HS := Lib.hid hS
      have hszr := hS.f.size
      clear hS e0 e1 e2
      by_cases hlt : k < ss.length
      · obtain ⟨bb, off, c', hsl, hbb, hc⟩ := HC.out (by omega)
        cases hsl
        have hcell := hc k hlt
        have hsn : Hid (ss.take (k + 1) = ss.take k ++ [ss[k]]) := Lib.hid (List.take_succ_eq_append_getElem hlt)
        have hkl : (ss.take k).length ≤ k := by rw [List.length_take]; omega
        generalize ss[k] = x at *
        generalize ss.take k = L at *
        obtain ⟨f, q, nl, ap, h⟩ := x
        have c0 : wr.cell? ⟨bb, off + k * 5, none⟩ = some (.string ⟨f.toArray⟩) := HS.out.f.cell (hcell 0 _ rfl) (by simp)
        have c1 : wr.cell? ⟨bb, off + k * 5 + 1, none⟩ = some (.int .u8 (q : Int)) := HS.out.f.cell (hcell 1 _ rfl) (by simp)
        have c2 : wr.cell? ⟨bb, off + k * 5 + 2, none⟩ = some (.bool nl) := HS.out.f.cell (hcell 2 _ rfl) (by simp)
        have c3 : wr.cell? ⟨bb, off + k * 5 + 3, none⟩ = some (.bool ap) := HS.out.f.cell (hcell 3 _ rfl) (by simp)
        have c4 : wr.cell? ⟨bb, off + k * 5 + 4, none⟩ = some (.int .u8 (h : Int)) := HS.out.f.cell (hcell 4 _ rfl) (by simp)
        clear hcell hc
        have S1 := HS.out.old ((Fr.refl [] wr).alloc (.cells #[.string ⟨f.toArray⟩, .int .u8 (q : Int), .bool nl, .bool ap, .int .u8 (h : Int)] 35))
        have hN := blk_new wr (.cells #[.string ⟨f.toArray⟩, .int .u8 (q : Int), .bool nl, .bool ap, .int .u8 (h : Int)] 35)
        go_upto_region 5 with (fail)
        obtain ⟨y5, hy5⟩ : ∃ y5, wr.alloc (.cells #[.string ⟨f.toArray⟩, .int .u8 (q : Int), .bool nl, .bool ap, .int .u8 (h : Int)] 35) = y5 := ⟨_, rfl⟩
        obtain ⟨N, hNe⟩ : ∃ N, wr.heap.size = N := ⟨_, rfl⟩
        rw [hNe] at hN ⊢
        rw [hy5] at S1 hN ⊢
        clear hy5 hNe c0 c1 c2 c3 c4 HS
        obtain ⟨⟨e0, e1, e2, e3, e4⟩, _, _⟩ := blk5n_facts hN
        obtain ⟨⟨d0, d1, d2⟩, ⟨g0, g1, g2⟩, _⟩ := blk3_facts S1.s
        have S6 := S1.old ((Fr.refl [] y5).alloc (.cells #[.string ⟨f.toArray⟩, .int .u8 (q : Int), .bool nl, .bool ap, .int .u8 (h : Int)] 92))
        have hyl := S1.f.size
        have S6 := Lib.hid S6
        clear hN S1
        go_wp2_with (at_builtin; refine wpl_app _ rfl (.tmp 20) (.tmp 22) 49 rfl w.heap.size 92 i0 (.agg #[.string ⟨#[]⟩, .int .u8 0, .bool false, .bool false, .int .u8 0]) 5 24 Try.underlying49 hi hz0 hz1 hz2 rfl (by decide) _ L.length (L.flatMap sbE) rfl S6.out.o ⟨y5.heap.size, 0, none⟩ 1 1 (sbE ⟨f, q, nl, ap, h⟩) rfl rfl ?c1 ?c2 ?c3 ?c4 ?c5 ?_)
        try (case c1 => exact news_at _ _ (by simp) _ _)
        try (case c2 => first | exact ⟨rfl, rfl, rfl, rfl, rfl⟩ | (intro u hu; simp [sbE] at hu; rcases hu with rfl | rfl | rfl | rfl | rfl <;> rfl))
        try (case c3 => unfold maxLen; omega)
        try (case c4 => omega)
        try (case c5 => first | omega | (simp; omega))
        intro v' w9 own9 hg9 _
        obtain ⟨A7, c7, rfl⟩ := own_shape own9
        have S7 := Lib.hid (S6.out.app (by decide) (by decide) (by decide) (by decide) hg9 own9)
        have hs9 := grown_blk hg9 S6.out.s (own_ne S6.out.o S6.out.s (by decide))
        have hq7 := (blk3_facts S7.out.q).1.2.2
        clear own9 hg9 S6 e0 e1 e2 e3 e4 d0 d1 d2 g0 g1 g2
        obtain ⟨⟨d0, d1, d2⟩, ⟨g0, g1, g2⟩, _⟩ := blk3_facts hs9
        clear hs9
        go_wp2
        go_roundw
        case rel => exact ⟨k + 1, A7, c7, by go_num, by omega, by rw [hsn.out]; exact S7.out⟩
        case measure => simp [intOf]; omega
      · obtain rfl : k = ss.length := by omega
        rw [List.take_length] at HS
        go_upto_region 7 with (fail)
        refine wp_region_lit ?_
        refine wpList_load_mid rfl 51 _ rfl X 0 (by rfl) [.int .u32 (id : Int), .slice A2 l.length n2, .slice A9 ss.length c9] _ (range_blk HS.out.s rfl) Try.underlying51 rfl (by kernel_rfl) ?_
        refine wpList_store_row rfl 51 _ _ rfl (w.heap.size + 1) #[.int .u32 (id : Int), .slice A2 l.length n2, .slice A9 ss.length c9] (by rfl) (by rfl) _ _ HS.out.z (by kernel_rfl) rfl (su_row _ _ _ _ _ _ _) ?_
        have HZ := Lib.hid (setRow_heap _ _ _ #[.int .u32 (id : Int), .slice A2 l.length n2, .slice A9 ss.length c9] _ _ HS.out.z)
        have FZ := Lib.hid (fr_row HS.out.f (g := w.heap.size + 1) (Or.inl (by omega)) #[.int .u32 (id : Int), .slice A2 l.length n2, .slice A9 ss.length c9])
        have VP := Lib.hid ((own_view HS.out.p).fr (fr_row (Fr.refl [w.heap.size + 1] _) (g := w.heap.size + 1) (Or.inr (by simp)) #[.int .u32 (id : Int), .slice A2 l.length n2, .slice A9 ss.length c9]) (by intro k hk e; simp at e; subst e; exact own_ne HS.out.p HS.out.z (by decide) hk))
        have VU := Lib.hid ((own_view HS.out.o).fr (fr_row (Fr.refl [w.heap.size + 1] _) (g := w.heap.size + 1) (Or.inr (by simp)) #[.int .u32 (id : Int), .slice A2 l.length n2, .slice A9 ss.length c9]) (by intro k hk e; simp at e; subst e; exact own_ne HS.out.o HS.out.z (by decide) hk))
        go_wp2
        generalize World.setRow _ (w.heap.size + 1) #[.int .u32 (id : Int), .slice A2 l.length n2, .slice A9 ss.length c9] = W5 at *
        obtain ⟨⟨e0, e1, e2⟩, _, _⟩ := blk3_facts HZ.out
        refine bodyPost_ret (v := .agg #[.int .u32 (id : Int), .slice A2 l.length n2, .slice A9 ss.length c9]) (by simp [results, Try.results17, go_sem, e0, e1, e2]) rfl ?_
        exact ⟨_, _, rfl, VP.out, VU.out, FZ.out⟩
end Go.Proofs.Ythioageiebchlaa
