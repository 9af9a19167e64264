/- Few and filters of the law package of layer 8. Conditions: bounds. -/
import Derived.Test.YthioageiebchlaaSuL
import Derived.Test.YthioageiebchlaaCut
namespace Go.Proofs.Ythioageiebchlaa
open Go.RowKit
set_option linter.unusedVariables false
set_option linter.unusedSimpArgs false

def cutSb (x : Sb) : Sb := ⟨x.filter.take 30, x.qos, x.nl, x.ap, x.handling⟩
def fewSu (s : Su) : Su := ⟨s.id, fewR s.props, (s.subs.take 6).map cutSb⟩
theorem AcS.far {T E PT TP : TypeId} {PC : Array Value} {w : World} {id : Nat} {lp : List Pr} {AP : Option Addr} {cp B : Nat} {l : List Sb} {A : Option Addr} {c : Nat} {y : World} (h : AcS T E PT TP PC w id lp AP cp B l A c y) {y' : World} {N : Nat} (g : Fr [N] y y') (hN : B < N)
    (hp : ∀ k, (Value.slice AP lp.length cp).ownBlock = some k → k < N) (ho : ∀ k, (Value.slice A l.length c).ownBlock = some k → k < N) : AcS T E PT TP PC w id lp AP cp B l A c y' := by
  have hBl := h.Bl
  exact ⟨g.blk h.q (by simp; omega), g.blk h.z (by simp; omega), g.blk h.s (by simp; omega), own_fr g h.p (by intro k hk e; have := hp k hk; simp at e; omega), own_fr g h.o (by intro k hk e; have := ho k hk; simp at e; omega), h.f.trans g (by intro x hx e; simp at e; omega), h.Bl⟩
def FwSu (s : Su) (w : World) (e : Ending) (w' : World) : Prop :=
  ∃ v u, e = .returned (.agg (suC s v u).toArray) ∧ w'.ownsRow w.heap.size 116 4 v s.props.length (s.props.flatMap prE) ∧ w'.ownsRow w.heap.size 35 5 u s.subs.length (s.subs.flatMap sbE) ∧ Fr [] w w'
set_option maxRecDepth 100000 in
set_option maxHeartbeats 4000000 in
theorem few8_any (s : Su) (v u : Value) (w : World) (hv : View w v s.props.length (s.props.flatMap prE)) (hu : View w u s.subs.length (s.subs.flatMap sbE)) (hl : s.props.length ≤ 9223372036854775807) (hl2 : s.subs.length ≤ 9223372036854775807) (hok : ∀ x ∈ s.props, x.s.length ≤ 9223372036854775807 ∧ x.t.length ≤ 9223372036854775807) (hfk : ∀ x ∈ s.subs, x.filter.length ≤ 9223372036854775807) :
    Calls Try.prog 12 #[.agg (suC s v u).toArray] w (FwSu (fewSu s) w) := by
  obtain ⟨i0, hi, hz0, hz1, hz2⟩ := info_parts Try.infoSb
  have HS0 : Hid (fewSu s = ⟨s.id, fewR s.props, (s.subs.take 6).map cutSb⟩) := Lib.hid rfl
  obtain ⟨id, l, ss⟩ := s
  dsimp only at hv hu hl hl2 hok HS0 hfk
  have HFK := Lib.hid hfk
  clear hfk
  have HV := Lib.hid hv
  have HC : Hid (0 < ss.length → ∃ bb off c, u = .slice (some ⟨bb, off, none⟩) ss.length c ∧ bb < w.heap.size ∧ ∀ (i : Nat) (hi : i < ss.length) j x, (sbE ss[i])[j]? = some x → w.cell? ⟨bb, off + i * 5 + j, none⟩ = some x) := Lib.hid (fun hl => hu.at sbE_len (by decide) hl)
  obtain ⟨A, cp, rfl, _⟩ := hv
  obtain ⟨AU, cu, rfl, _⟩ := hu
  have hb0 := blk_old (blk_new w (.cells (suC ⟨id, l, ss⟩ (.slice A l.length cp) (.slice AU ss.length cu)).toArray 27)) (.cells #[.int .u32 0, .slice none 0 0, .slice none 0 0] 27)
  have hr0 := blk_at1 w (.cells (suC ⟨id, l, ss⟩ (.slice A l.length cp) (.slice AU ss.length cu)).toArray 27) (.cells #[.int .u32 0, .slice none 0 0, .slice none 0 0] 27)
  have F0 : Fr [] w ((w.alloc (.cells (suC ⟨id, l, ss⟩ (.slice A l.length cp) (.slice AU ss.length cu)).toArray 27)).alloc (.cells #[.int .u32 0, .slice none 0 0, .slice none 0 0] 27)) := ((Fr.refl _ _).alloc _).alloc _
  unfold suC at hb0 hr0 F0 ⊢
  dsimp only at hb0 hr0 F0 ⊢
  go_enter Try.func12, Try.ntmps12
  go_upto_region 1 with (fail)
  obtain ⟨y, hy⟩ : ∃ y, (w.alloc (.cells #[.int .u32 (id : Int), .slice A l.length cp, .slice AU ss.length cu] 27)).alloc (.cells #[.int .u32 0, .slice none 0 0, .slice none 0 0] 27) = y := ⟨_, rfl⟩
  rw [hy] at hb0 hr0 F0 ⊢
  clear hy
  have HQ := Lib.hid hb0
  have HR := Lib.hid hr0
  have HF := Lib.hid F0
  have hyl := blk_lt hr0
  clear hb0 hr0 F0
  go_cut [3] (fun v3 wx => NewSu 27 116 id (fewR l) w.heap.size y v3 wx)
  case first =>
    obtain ⟨⟨e0, e1, e2⟩, _, _⟩ := blk3_facts HQ.out
    refine wp_region_late [] (S := fun w' => w'.cell? ⟨w.heap.size, 0, none⟩ = some (.int .u32 (id : Int)) ∧ w'.cell? ⟨w.heap.size, 1, none⟩ = some (.slice A l.length cp)) (by kernel_rfl) ⟨e0, e1⟩ (fun hHeld => ?_)
    have fd := (Fr.refl [] y).drew
    obtain ⟨wd, hwd⟩ : ∃ wd, y.drew = wd := ⟨_, rfl⟩
    rw [hwd] at hHeld fd ⊢
    have HVd := Lib.hid (HV.out.old (HF.out.trans fd (by simp)) (by simp))
    clear hwd e0 e1 e2
    obtain ⟨e0, e1⟩ := hHeld
    have hHeld := And.intro e0 e1
    refine wpLate_take (i := 0) (oi := _) (v := ?_) rfl (by kernel_rfl) (by kernel_rfl) (by kernel_rfl) (by kernel_rfl) (fun _ _ _ h => h) (Gives.load (by rfl) ?_) hHeld ?_
    rotate_left
    · intro w hSw
      (try dsimp only at hSw)
      go_simp
      try with_reducible rfl
    try simp only [Act.put, List.getElem_toArray, List.getElem_cons_succ, List.getElem_cons_zero, List.setIfInBounds_toArray, List.set_cons_zero, List.set_cons_succ]
    refine wpLate_take (i := 1) (oi := _) (v := ?_) rfl (by kernel_rfl) (by kernel_rfl) (by kernel_rfl) (by kernel_rfl) (fun _ _ _ h => h) (Gives.load (by rfl) ?_) hHeld ?_
    rotate_left
    · intro w hSw
      (try dsimp only at hSw)
      go_simp
      try with_reducible rfl
    try simp only [Act.put, List.getElem_toArray, List.getElem_cons_succ, List.getElem_cons_zero, List.setIfInBounds_toArray, List.set_cons_zero, List.set_cons_succ]
    refine wpLate_take (i := 2) (oi := _) (v := ?_) rfl (by kernel_rfl) (by kernel_rfl) (by kernel_rfl) (by kernel_rfl) (fun _ _ _ h => h) (Gives.load (by rfl) ?_) hHeld ?_
    rotate_left
    · intro w hSw
      (try dsimp only at hSw)
      go_simp
      try with_reducible rfl
    try simp only [Act.put, List.getElem_toArray, List.getElem_cons_succ, List.getElem_cons_zero, List.setIfInBounds_toArray, List.set_cons_zero, List.set_cons_succ]
    refine wpLate_take (i := 3) (oi := _) (v := ?_) rfl (by kernel_rfl) (by kernel_rfl) (by kernel_rfl) (by kernel_rfl) (fun _ _ _ h => h) (Gives.load (by rfl) ?_) hHeld ?_
    rotate_left
    · intro w hSw
      (try dsimp only at hSw)
      go_simp
      try with_reducible rfl
    try simp only [Act.put, List.getElem_toArray, List.getElem_cons_succ, List.getElem_cons_zero, List.setIfInBounds_toArray, List.set_cons_zero, List.set_cons_succ]
    refine wpLate_ready (rs := [4, 6]) (by kernel_rfl) (by simp) ?_
    refine AllLate.cons (o := _) rfl (fun K hK => ?_) ?_
    · go_simp
      refine (few_any _ l _ HVd.out hl hok).mono ?_
      rintro _ x1 ⟨v2, rfl, own2, f⟩
      obtain ⟨A2, n2, rfl⟩ := own_shape own2
      go_wp2_with fail
      have hlow := fun k hk => (own2.lt k hk).1
      refine hK.out _ _ (fun _ => ⟨f.cell e0 (by simp), f.cell e1 (by simp)⟩) (fun hHeld => ?_)
      replace hHeld := hHeld (by kernel_rfl)
      clear hK K
      try simp only [Act.put, List.getElem_toArray, List.getElem_cons_succ, List.getElem_cons_zero, List.setIfInBounds_toArray, List.set_cons_zero, List.set_cons_succ]
      refine wpLate_pure (i := 5) (oi := _) (v := ?_) rfl (by kernel_rfl) (by kernel_rfl) (by kernel_rfl) (by kernel_rfl) (fun _ _ _ h => h) (Gives.load (by rfl) ?_) (fun _ => hHeld) ?_
      rotate_left
      · intro w hSw
        clear hSw
        go_simp
        try with_reducible rfl
      try simp only [Act.put, List.getElem_toArray, List.getElem_cons_succ, List.getElem_cons_zero, List.setIfInBounds_toArray, List.set_cons_zero, List.set_cons_succ]
      refine wpLate_ready (rs := [6]) (by kernel_rfl) (by simp) ?_
      refine AllLate.cons (o := _) rfl (fun K hK => ?_) (by exact AllLate.nil)
      go_simp
      have ga := f.alloc (.cells #[.int .u32 0, .slice none 0 0, .slice none 0 0] 27)
      refine hK.out _ _ (fun _ => ⟨ga.cell e0 (by simp), ga.cell e1 (by simp)⟩) (fun hHeld => ?_)
      replace hHeld := hHeld (by kernel_rfl)
      clear hK K
      try simp only [Act.put, List.getElem_toArray, List.getElem_cons_succ, List.getElem_cons_zero, List.setIfInBounds_toArray, List.set_cons_zero, List.set_cons_succ]
      refine wpLate_ready (rs := [7]) (by kernel_rfl) (by simp) ?_
      refine AllLate.cons (o := _) rfl (fun K hK => ?_) (by exact AllLate.nil)
      have gs := fr_row ga (g := x1.heap.size) (Or.inl f.size) #[.int .u32 (id : Int), .slice A2 (fewR l).length n2, .slice none 0 0]
      refine step_store_row rfl 27 _ _ rfl x1.heap.size #[.int .u32 (id : Int), .slice A2 (fewR l).length n2, .slice none 0 0] (by rfl) (by rfl) _ _ (blk_new x1 _) (by kernel_rfl) rfl (su_row _ _ _ _ _ _ _) ?_
      refine hK.out _ _ (fun _ => ⟨gs.cell e0 (by simp), gs.cell e1 (by simp)⟩) (fun hHeld => ?_)
      replace hHeld := hHeld (by kernel_rfl)
      clear hK K
      try simp only [Act.put, List.getElem_toArray, List.getElem_cons_succ, List.getElem_cons_zero, List.setIfInBounds_toArray, List.set_cons_zero, List.set_cons_succ]
      refine wpLate_done (by kernel_rfl) ?_ _
      have hx1 := f.size
      have hyd := fd.size
      have hxl : ∀ k, (Value.slice A2 (fewR l).length n2).ownBlock = some k → k < x1.heap.size := fun k hk => (own2.lt k hk).2
      have OW := own_base (own_fr (fr_row ((Fr.refl [x1.heap.size] x1).alloc (.cells #[.int .u32 0, .slice none 0 0, .slice none 0 0] 27)) (g := x1.heap.size) (Or.inr (by simp)) #[.int .u32 (id : Int), .slice A2 (fewR l).length n2, .slice none 0 0]) own2 (by intro k hk e; have := hxl k hk; simp at e; omega)) (base' := y.heap.size) (fun k hk => by have := hlow k hk; omega)
      have OWH := Lib.hid OW
      clear own2 OW
      go_wp2_with fail
      go_meet
      exact ⟨x1.heap.size, A2, n2, rfl, setRow_heap _ _ _ _ _ _ (blk_new x1 _), by omega, OWH.out, fd.trans gs (by simp)⟩
    refine AllLate.cons (o := _) rfl (fun K hK => ?_) (by exact AllLate.nil)
    go_simp
    have ga := (Fr.refl [] wd).alloc (.cells #[.int .u32 0, .slice none 0 0, .slice none 0 0] 27)
    have hbn := blk_new wd (.cells #[.int .u32 0, .slice none 0 0, .slice none 0 0] 27)
    refine hK.out _ _ (fun _ => ⟨ga.cell e0 (by simp), ga.cell e1 (by simp)⟩) (fun hHeld => ?_)
    replace hHeld := hHeld (by kernel_rfl)
    clear hK K
    try simp only [Act.put, List.getElem_toArray, List.getElem_cons_succ, List.getElem_cons_zero, List.setIfInBounds_toArray, List.set_cons_zero, List.set_cons_succ]
    obtain ⟨C, hC⟩ : ∃ C, wd.heap.size = C := ⟨_, rfl⟩
    obtain ⟨X, hX⟩ : ∃ X, wd.alloc (.cells #[.int .u32 0, .slice none 0 0, .slice none 0 0] 27) = X := ⟨_, rfl⟩
    have hwC : wd.heap.size ≤ C := by omega
    have hyC : y.heap.size ≤ C := by rw [← hC]; exact fd.size
    rw [hC] at hbn ⊢
    rw [hX] at hHeld hbn ga ⊢
    clear hX hC
    have hCX := blk_lt hbn
    have HVd := Lib.hid (HVd.out.old ga (by simp))
    refine wpLate_ready (rs := [4]) (by kernel_rfl) (by simp) ?_
    refine AllLate.cons (o := _) rfl (fun K hK => ?_) (by exact AllLate.nil)
    go_simp
    refine (few_any _ l _ HVd.out hl hok).mono ?_
    rintro _ x1 ⟨v2, rfl, own2, f⟩
    obtain ⟨A2, n2, rfl⟩ := own_shape own2
    go_wp2_with fail
    have gx := ga.trans f (by simp)
    have hb1 := f.blk hbn (by simp)
    have hlow := fun k hk => (own2.lt k hk).1
    refine hK.out _ _ (fun _ => ⟨gx.cell e0 (by simp), gx.cell e1 (by simp)⟩) (fun hHeld => ?_)
    replace hHeld := hHeld (by kernel_rfl)
    clear hK K
    try simp only [Act.put, List.getElem_toArray, List.getElem_cons_succ, List.getElem_cons_zero, List.setIfInBounds_toArray, List.set_cons_zero, List.set_cons_succ]
    refine wpLate_pure (i := 5) (oi := _) (v := ?_) rfl (by kernel_rfl) (by kernel_rfl) (by kernel_rfl) (by kernel_rfl) (fun _ _ _ h => h) (Gives.load (by rfl) ?_) (fun _ => hHeld) ?_
    rotate_left
    · intro w hSw
      clear hSw
      go_simp
      try with_reducible rfl
    try simp only [Act.put, List.getElem_toArray, List.getElem_cons_succ, List.getElem_cons_zero, List.setIfInBounds_toArray, List.set_cons_zero, List.set_cons_succ]
    refine wpLate_ready (rs := [7]) (by kernel_rfl) (by simp) ?_
    refine AllLate.cons (o := _) rfl (fun K hK => ?_) (by exact AllLate.nil)
    have gs := fr_row gx (g := C) (Or.inl hwC) #[.int .u32 (id : Int), .slice A2 (fewR l).length n2, .slice none 0 0]
    refine step_store_row rfl 27 _ _ rfl C #[.int .u32 (id : Int), .slice A2 (fewR l).length n2, .slice none 0 0] (by rfl) (by rfl) _ _ hb1 (by kernel_rfl) rfl (su_row _ _ _ _ _ _ _) ?_
    refine hK.out _ _ (fun _ => ⟨gs.cell e0 (by simp), gs.cell e1 (by simp)⟩) (fun hHeld => ?_)
    replace hHeld := hHeld (by kernel_rfl)
    clear hK K
    try simp only [Act.put, List.getElem_toArray, List.getElem_cons_succ, List.getElem_cons_zero, List.setIfInBounds_toArray, List.set_cons_zero, List.set_cons_succ]
    refine wpLate_done (by kernel_rfl) ?_ _
    have OW := own_base (own_fr (fr_row (Fr.refl [C] x1) (g := C) (Or.inr (by simp)) #[.int .u32 (id : Int), .slice A2 (fewR l).length n2, .slice none 0 0]) own2 (by intro k hk e; have := hlow k hk; simp at e; omega)) (base' := y.heap.size) (fun k hk => by have := hlow k hk; omega)
    have OWH := Lib.hid OW
    clear own2 OW
    go_wp2_with fail
    go_meet
    exact ⟨C, A2, n2, rfl, setRow_heap _ _ _ _ _ _ hb1, by omega, OWH.out, fd.trans gs (by simp)⟩
  case rest =>
    obtain ⟨X, A2, n2, rfl, hX, hbX, own2, G⟩ := hcut
    generalize wc = z at *
    generalize hLP : fewR l = LP at *
    have HLP := Lib.hid hLP
    clear hLP
    have S0 : AcS 27 35 116 27 #[.int .u32 (id : Int), .slice A l.length cp, .slice AU ss.length cu] w id LP A2 n2 X [] none 0 z :=
      ⟨G.blk HQ.out (by simp), G.blk HR.out (by simp), hX, own_base own2 (base' := w.heap.size) (fun k hk => by have := (own2.lt k hk).1; omega), World.ownsRow_nil _ _ _ _, HF.out.trans G (by simp), hbX⟩
    have S0 := Lib.hid S0
    clear hX own2 G HQ HR HF hok
    go_wp2
    go_loopw [4] (fun i wr => ∃ (k : Nat) (A9 : Option Addr) (c9 : Nat), i = .int .i64 k ∧ k ≤ ss.length ∧ k ≤ 6 ∧ AcS 27 35 116 27 #[.int .u32 (id : Int), .slice A l.length cp, .slice AU ss.length cu] w id LP A2 n2 X ((ss.take k).map cutSb) A9 c9 wr) (fun i _ => 6 - (intOf i).toNat)
    case atStart => exact ⟨0, none, 0, rfl, by omega, by omega, S0.out⟩
    case round =>
      clear S0
      obtain ⟨k, A9, c9, rfl, hk, hk6, hS⟩ := hrel
      have HS := Lib.hid hS
      have hszr := hS.f.size
      clear hS
      obtain ⟨⟨d0, d1, d2⟩, _, _⟩ := blk3_facts HS.out.q
      by_cases hlt : k < ss.length ∧ k < 6
      · obtain ⟨hlt, hlt6⟩ := hlt
        have hli : (k : Int) < (ss.length : Int) := by omega
        have hl6 : (k : Int) < 6 := by omega
        obtain ⟨bb, off, c', hsl, hbb, hc⟩ := HC.out (by omega)
        cases hsl
        have hcell := hc k hlt
        have hfl := HFK.out ss[k] (List.getElem_mem hlt)
        have hsn : Hid ((ss.take (k + 1)).map cutSb = (ss.take k).map cutSb ++ [cutSb ss[k]]) := Lib.hid (by rw [List.take_succ_eq_append_getElem hlt, List.map_append]; rfl)
        have hkl : ((ss.take k).map cutSb).length ≤ k := by rw [List.length_map, List.length_take]; omega
        generalize ss[k] = x at *
        generalize (ss.take k).map cutSb = L at *
        obtain ⟨f, q, nl, ap, h⟩ := x
        dsimp only at hfl
        have c0 : wr.cell? ⟨bb, off + k * 5, none⟩ = some (.string ⟨f.toArray⟩) := HS.out.f.cell (hcell 0 _ rfl) (by simp)
        have c1 : wr.cell? ⟨bb, off + k * 5 + 1, none⟩ = some (.int .u8 (q : Int)) := HS.out.f.cell (hcell 1 _ rfl) (by simp)
        have c2 : wr.cell? ⟨bb, off + k * 5 + 2, none⟩ = some (.bool nl) := HS.out.f.cell (hcell 2 _ rfl) (by simp)
        have c3 : wr.cell? ⟨bb, off + k * 5 + 3, none⟩ = some (.bool ap) := HS.out.f.cell (hcell 3 _ rfl) (by simp)
        have c4 : wr.cell? ⟨bb, off + k * 5 + 4, none⟩ = some (.int .u8 (h : Int)) := HS.out.f.cell (hcell 4 _ rfl) (by simp)
        clear hcell hc
        have S1 := HS.out.old ((Fr.refl [] wr).alloc (.cells #[.string ⟨f.toArray⟩, .int .u8 (q : Int), .bool nl, .bool ap, .int .u8 (h : Int)] 35))
        have hN := blk_new wr (.cells #[.string ⟨f.toArray⟩, .int .u8 (q : Int), .bool nl, .bool ap, .int .u8 (h : Int)] 35)
        have hpN := Lib.hid (fun k hk => (HS.out.p.lt k hk).2 : ∀ k, (Value.slice A2 LP.length n2).ownBlock = some k → k < wr.heap.size)
        have hoN := Lib.hid (fun k hk => (HS.out.o.lt k hk).2 : ∀ k, (Value.slice A9 L.length c9).ownBlock = some k → k < wr.heap.size)
        have hXN := blk_lt HS.out.s
        go_upto_region 6 with (fail)
        obtain ⟨y5, hy5⟩ : ∃ y5, wr.alloc (.cells #[.string ⟨f.toArray⟩, .int .u8 (q : Int), .bool nl, .bool ap, .int .u8 (h : Int)] 35) = y5 := ⟨_, rfl⟩
        obtain ⟨N, hNe⟩ : ∃ N, wr.heap.size = N := ⟨_, rfl⟩
        rw [hNe] at hN hpN hoN hXN ⊢
        rw [hy5] at S1 hN ⊢
        clear hy5 hNe c0 c1 c2 c3 c4 HS d0 d1 d2
        obtain ⟨⟨e0, e1, e2, e3, e4⟩, ⟨k0, k1, k2, k3, k4⟩, _⟩ := blk5n_facts hN
        have hN2 : (y5.setCell ⟨N, 0, none⟩ (.string ⟨(f.take 30).toArray⟩)).heap[N]? = some (.cells #[.string ⟨(f.take 30).toArray⟩, .int .u8 (q : Int), .bool nl, .bool ap, .int .u8 (h : Int)] 35 (0, 0)) := blk_set hN 0 _
        have gN : Fr [N] y5 (y5.setCell ⟨N, 0, none⟩ (.string ⟨(f.take 30).toArray⟩)) := (Fr.refl _ _).setCell (Or.inr (by simp)) _
        have S2 := S1.far gN hXN hpN.out hoN.out
        go_wp2_with fail
        refine (cut_any f 30 _ hfl (by decide)).mono ?_
        rintro _ _ ⟨rfl, rfl⟩
        rw [show (30 : Int).toNat = 30 from rfl]
        go_upto_region 7 with (fail)
        obtain ⟨y6, hy6⟩ : ∃ y6, y5.setCell ⟨N, 0, none⟩ (.string ⟨(f.take 30).toArray⟩) = y6 := ⟨_, rfl⟩
        rw [hy6] at hN2 S2 ⊢
        clear hy6 hN gN S1 e0 e1 e2 e3 e4 k0 k1 k2 k3 k4
        obtain ⟨⟨e0, e1, e2, e3, e4⟩, _, _⟩ := blk5n_facts hN2
        obtain ⟨⟨d0, d1, d2⟩, ⟨g0, g1, g2⟩, _⟩ := blk3_facts S2.s
        have S6 := S2.old ((Fr.refl [] y6).alloc (.cells #[.string ⟨(f.take 30).toArray⟩, .int .u8 (q : Int), .bool nl, .bool ap, .int .u8 (h : Int)] 35))
        have hyl := S2.f.size
        have S6 := Lib.hid S6
        clear hN2 S2
        go_wp2_with (at_builtin; refine wpl_app _ rfl (.tmp 33) (.tmp 35) 25 rfl w.heap.size 35 i0 (.agg #[.string ⟨#[]⟩, .int .u8 0, .bool false, .bool false, .int .u8 0]) 5 24 Try.underlying25 hi hz0 hz1 hz2 rfl (by decide) _ L.length (L.flatMap sbE) rfl S6.out.o ⟨y6.heap.size, 0, none⟩ 1 1 (sbE ⟨f.take 30, q, nl, ap, h⟩) rfl rfl ?c1 ?c2 ?c3 ?c4 ?c5 ?_)
        try (case c1 => exact news_at _ _ (by simp) _ _)
        try (case c2 => first | exact ⟨rfl, rfl, rfl, rfl, rfl⟩ | (intro u hu; simp [sbE] at hu; rcases hu with rfl | rfl | rfl | rfl | rfl <;> rfl))
        try (case c3 => unfold maxLen; omega)
        try (case c4 => omega)
        try (case c5 => first | omega | (simp; omega))
        intro v' w9 own9 hg9 _
        obtain ⟨A7, c7, rfl⟩ := own_shape own9
        have S7 := Lib.hid (S6.out.app (by decide) (by decide) (by decide) (by decide) hg9 own9)
        have hs9 := grown_blk hg9 S6.out.s (own_ne S6.out.o S6.out.s (by decide))
        clear own9 hg9 S6 e0 e1 e2 e3 e4 d0 d1 d2 g0 g1 g2
        obtain ⟨⟨d0, d1, d2⟩, ⟨g0, g1, g2⟩, _⟩ := blk3_facts hs9
        clear hs9
        go_wp2
        go_roundw
        case rel => exact ⟨k + 1, A7, c7, by go_num, by omega, by omega, by rw [hsn.out]; exact S7.out⟩
        case measure => simp [intOf]; omega
      · have hfin : Hid ((ss.take k).map cutSb = (ss.take 6).map cutSb) := Lib.hid (by
          by_cases h6 : k = 6
          · rw [h6]
          · have : k = ss.length := by omega
            rw [this, List.take_length, List.take_of_length_le (by omega)])
        have HS1 := HS.out
        rw [hfin.out] at HS1
        have HS2 := Lib.hid HS1
        clear HS HS1 hfin
        generalize hQ : (ss.take 6).map cutSb = Q at *
        go_upto_region 3 with (fail)
        go_cut [20] (fun v20 wx => v20 = .bool false ∧ wr = wx)
        case first =>
          by_cases h1 : k < ss.length
          · have hli : (k : Int) < (ss.length : Int) := by omega
            have hl6 : ¬ (k : Int) < 6 := by omega
            go_wp2
            go_meet
            exact ⟨rfl, rfl⟩
          · have hli : ¬ (k : Int) < (ss.length : Int) := by omega
            go_wp2
            go_meet
            exact ⟨rfl, rfl⟩
        case rest =>
        obtain ⟨rfl, hwc⟩ := hcut
        rw [← hwc]
        clear hwc
        clear wc d0 d1 d2
        go_upto_region 8 with (fail)
        refine wp_region_lit ?_
        refine wpList_load_mid rfl 27 _ rfl X 0 (by rfl) [.int .u32 (id : Int), .slice A2 LP.length n2, .slice A9 Q.length c9] _ (range_blk HS2.out.s rfl) Try.underlying27 rfl (by kernel_rfl) ?_
        refine wpList_store_row rfl 27 _ _ rfl (w.heap.size + 1) #[.int .u32 (id : Int), .slice A2 LP.length n2, .slice A9 Q.length c9] (by rfl) (by rfl) _ _ HS2.out.z (by kernel_rfl) rfl (su_row _ _ _ _ _ _ _) ?_
        have HZ := Lib.hid (setRow_heap _ _ _ #[.int .u32 (id : Int), .slice A2 LP.length n2, .slice A9 Q.length c9] _ _ HS2.out.z)
        have FZ := Lib.hid (fr_row HS2.out.f (g := w.heap.size + 1) (Or.inl (by omega)) #[.int .u32 (id : Int), .slice A2 LP.length n2, .slice A9 Q.length c9])
        have VP := Lib.hid (own_fr (fr_row (Fr.refl [w.heap.size + 1] _) (g := w.heap.size + 1) (Or.inr (by simp)) #[.int .u32 (id : Int), .slice A2 LP.length n2, .slice A9 Q.length c9]) HS2.out.p (by intro k hk e; simp at e; subst e; exact own_ne HS2.out.p HS2.out.z (by decide) hk))
        have VU := Lib.hid (own_fr (fr_row (Fr.refl [w.heap.size + 1] _) (g := w.heap.size + 1) (Or.inr (by simp)) #[.int .u32 (id : Int), .slice A2 LP.length n2, .slice A9 Q.length c9]) HS2.out.o (by intro k hk e; simp at e; subst e; exact own_ne HS2.out.o HS2.out.z (by decide) hk))
        go_wp2
        generalize World.setRow _ (w.heap.size + 1) #[.int .u32 (id : Int), .slice A2 LP.length n2, .slice A9 Q.length c9] = W5 at *
        obtain ⟨⟨e0, e1, e2⟩, _, _⟩ := blk3_facts HZ.out
        refine bodyPost_ret (v := .agg #[.int .u32 (id : Int), .slice A2 LP.length n2, .slice A9 Q.length c9]) (by simp [results, Try.results12, go_sem, e0, e1, e2]) rfl ?_
        rw [HS0.out]
        exact ⟨_, _, rfl, VP.out, VU.out, FZ.out⟩
theorem Try.infoStr2 : (Try.prog.info? 9).map (fun i => (i.zero, i.size, i.bytes)) = some (some (.string ⟨#[]⟩), 1, 16) := by kernel_rfl
def FilTo (s : Su) (w : World) (e : Ending) (w' : World) : Prop :=
  ∃ v, e = .returned v ∧ w'.ownsRow w.heap.size 9 1 v s.subs.length ((s.subs.map Sb.filter).flatMap strE) ∧ Fr [] w w'
set_option maxRecDepth 100000 in
set_option maxHeartbeats 4000000 in
theorem filters8_any (s : Su) (v u : Value) (w : World) (hu : View w u s.subs.length (s.subs.flatMap sbE)) (hl2 : s.subs.length ≤ 1000000) (hvs : ∃ A n c, v = .slice A n c) :
    Calls Try.prog 14 #[.agg (suC s v u).toArray] w (FilTo s w) := by
  obtain ⟨i0, hi, hz0, hz1, hz2⟩ := info_parts Try.infoStr2
  obtain ⟨id, l, ss⟩ := s
  dsimp only at hu hl2
  obtain ⟨AV, nV, cV, rfl⟩ := hvs
  have HC : Hid (0 < ss.length → ∃ bb off c, u = .slice (some ⟨bb, off, none⟩) ss.length c ∧ bb < w.heap.size ∧ ∀ (i : Nat) (hi : i < ss.length) j x, (sbE ss[i])[j]? = some x → w.cell? ⟨bb, off + i * 5 + j, none⟩ = some x) := Lib.hid (fun hl => hu.at sbE_len (by decide) hl)
  obtain ⟨AU, cu, rfl, _⟩ := hu
  have hb0 := blk_old (blk_new w (.cells (suC ⟨id, l, ss⟩ (.slice AV nV cV) (.slice AU ss.length cu)).toArray 27)) (.cells #[] 9)
  have F0 : Fr [] w ((w.alloc (.cells (suC ⟨id, l, ss⟩ (.slice AV nV cV) (.slice AU ss.length cu)).toArray 27)).alloc (.cells #[] 9)) := ((Fr.refl _ _).alloc _).alloc _
  have ho := own_emp (w.alloc (.cells (suC ⟨id, l, ss⟩ (.slice AV nV cV) (.slice AU ss.length cu)).toArray 27)) 9 1 w.heap.size (by simp)
  unfold suC at hb0 F0 ho ⊢
  dsimp only at hb0 F0 ho ⊢
  go_enter Try.func14, Try.ntmps14
  go_upto_region 2 with (fail)
  obtain ⟨⟨e0, e1, e2⟩, _, _⟩ := blk3_facts hb0
  rw [World.size_alloc] at ho
  obtain ⟨y, hy⟩ : ∃ y, (w.alloc (.cells #[.int .u32 (id : Int), .slice AV nV cV, .slice AU ss.length cu] 27)).alloc (.cells #[] 9) = y := ⟨_, rfl⟩
  rw [hy] at hb0 F0 ho e0 e1 e2 ⊢
  clear hy
  have HF0 := Lib.hid F0
  have HO := Lib.hid ho
  clear F0 ho hb0
  go_wp2
  go_loopw [3, 10] (fun v i wr => ∃ (k : Nat), i = .int .i64 k ∧ k ≤ ss.length ∧ wr.ownsRow w.heap.size 9 1 v ((ss.take k).map Sb.filter).length (((ss.take k).map Sb.filter).flatMap strE) ∧ Fr [] w wr) (fun _ i _ => ss.length - (intOf i).toNat)
  case atStart => exact ⟨0, rfl, by omega, HO.out, HF0.out⟩
  case round =>
    obtain ⟨k, rfl, hk, hown, hfr⟩ := hrel
    clear HO HF0 e0 e1 e2
    have HF := Lib.hid hfr
    have hszr := hfr.size
    obtain ⟨A', cp', rfl⟩ := own_shape hown
    have HW := Lib.hid hown
    clear hfr hown
    by_cases hlt : k < ss.length
    · obtain ⟨bb, off, c', hsl, hbb, hc⟩ := HC.out (by omega)
      cases hsl
      have hcell := hc k hlt
      have hsn : Hid ((ss.take (k + 1)).map Sb.filter = (ss.take k).map Sb.filter ++ [ss[k].filter]) := Lib.hid (by rw [List.take_succ_eq_append_getElem hlt, List.map_append]; rfl)
      have hkl : ((ss.take k).map Sb.filter).length ≤ k := by rw [List.length_map, List.length_take]; omega
      generalize ss[k] = x at *
      generalize (ss.take k).map Sb.filter = L at *
      obtain ⟨f, q, nl, ap, h⟩ := x
      dsimp only at hsn
      have c0 : wr.cell? ⟨bb, off + k * 5, none⟩ = some (.string ⟨f.toArray⟩) := HF.out.cell (hcell 0 _ rfl) (by simp)
      have c1 : wr.cell? ⟨bb, off + k * 5 + 1, none⟩ = some (.int .u8 (q : Int)) := HF.out.cell (hcell 1 _ rfl) (by simp)
      have c2 : wr.cell? ⟨bb, off + k * 5 + 2, none⟩ = some (.bool nl) := HF.out.cell (hcell 2 _ rfl) (by simp)
      have c3 : wr.cell? ⟨bb, off + k * 5 + 3, none⟩ = some (.bool ap) := HF.out.cell (hcell 3 _ rfl) (by simp)
      have c4 : wr.cell? ⟨bb, off + k * 5 + 4, none⟩ = some (.int .u8 (h : Int)) := HF.out.cell (hcell 4 _ rfl) (by simp)
      clear hcell hc
      have F1 := HF.out.alloc (.cells #[.string ⟨f.toArray⟩, .int .u8 (q : Int), .bool nl, .bool ap, .int .u8 (h : Int)] 35)
      have hN := blk_new wr (.cells #[.string ⟨f.toArray⟩, .int .u8 (q : Int), .bool nl, .bool ap, .int .u8 (h : Int)] 35)
      have O1 := HW.out.alloc (.cells #[.string ⟨f.toArray⟩, .int .u8 (q : Int), .bool nl, .bool ap, .int .u8 (h : Int)] 35)
      go_upto_region 5 with (fail)
      obtain ⟨y5, hy5⟩ : ∃ y5, wr.alloc (.cells #[.string ⟨f.toArray⟩, .int .u8 (q : Int), .bool nl, .bool ap, .int .u8 (h : Int)] 35) = y5 := ⟨_, rfl⟩
      obtain ⟨N, hNe⟩ : ∃ N, wr.heap.size = N := ⟨_, rfl⟩
      rw [hNe] at hN ⊢
      rw [hy5] at F1 hN O1 ⊢
      clear hy5 hNe c0 c1 c2 c3 c4 HF HW
      have hyl := F1.size
      have F2 := Lib.hid (F1.alloc (.cells #[.string ⟨f.toArray⟩] 9))
      have O2 := Lib.hid (O1.alloc (.cells #[.string ⟨f.toArray⟩] 9))
      obtain ⟨⟨e0, e1, e2, e3, e4⟩, _, _⟩ := blk5n_facts hN
      clear e1 e2 e3 e4 hN O1 F1
      go_wp2_with (at_builtin; refine wpl_app _ rfl (.tmp 14) (.tmp 17) 40 rfl w.heap.size 9 i0 (.string ⟨#[]⟩) 1 16 Try.underlying40 hi hz0 hz1 hz2 rfl (by decide) _ L.length (L.flatMap strE) rfl O2.out ⟨y5.heap.size, 0, none⟩ 1 1 (strE f) rfl rfl ?c1 ?c2 ?c3 ?c4 ?c5 ?_)
      try (case c1 => exact news_at _ _ (by simp) _ _)
      try (case c2 => first | exact rfl | (intro u hu; simp [strE] at hu; subst hu; rfl))
      try (case c3 => unfold maxLen; omega)
      try (case c4 => omega)
      try (case c5 => first | omega | (simp; omega))
      intro v' w9 own9 hg9 _
      have own3 : w9.ownsRow w.heap.size 9 1 v' (L ++ [f]).length ((L ++ [f]).flatMap strE) := by rw [List.length_append, flat_snoc]; exact own9
      have fr2 : Fr [] w w9 := F2.out.app O2.out (Nat.le_refl _) hg9
      obtain ⟨A7, c7, rfl⟩ := own_shape own3
      replace own3 := Lib.hid own3
      replace fr2 := Lib.hid fr2
      clear own9 hg9 e0 F2 O2
      go_wp2
      go_roundw
      case rel => exact ⟨k + 1, by go_num, by omega, by rw [hsn.out]; exact own3.out, fr2.out⟩
      case measure => simp [intOf]; omega
    · obtain rfl : k = ss.length := by omega
      rw [List.take_length] at HW
      rw [List.length_map] at HW
      rw [List.take_length, List.length_map]
      go_wp2
      go_ret
      exact ⟨_, rfl, HW.out, HF.out⟩
end Go.Proofs.Ythioageiebchlaa
