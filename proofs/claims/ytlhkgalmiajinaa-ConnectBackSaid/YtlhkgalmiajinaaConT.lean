/- Told of law06; Same of the reference. Conditions: numbers within their kinds. -/
import Derived.Test.YtlhkgalmiajinaaConA
import Derived.Test.YtlhkgalmiajinaaConC
import Derived.Test.YtlhkgalmiajinaaFew
import Derived.Test.YtlhkgalmiajinaaSameP
import Derived.Test.YtlhkgalmiajinaaDrawn
import Derived.Test.YtlhkgalmiajinaaStep
namespace Go.Proofs.Ytlhkgalmiajinaa
open Go.RowKit
set_option linter.unusedVariables false
set_option linter.unusedSimpArgs false

/-- Behind Told: the same connect. -/
def TdTo (c : Cn) (w : World) (e : Ending) (w' : World) : Prop :=
  ∃ v u, e = .returned (.agg (cnC c v u).toArray) ∧ View w' v c.props.length (c.props.flatMap prE) ∧ View w' u c.wp.length (c.wp.flatMap prE) ∧ Fr [] w w' ∧ (∀ k, v.ownBlock = some k → w.heap.size ≤ k) ∧ ∀ k, u.ownBlock = some k → w.heap.size ≤ k
/-- The will's cells stand in a block of their own. -/
def WlAt (w : World) (c : Cn) (b : Value) (y : World) : Prop :=
  ∃ C A n, b = .pointer (some ⟨C, 0, none⟩) ∧ y.heap[C]? = some (.cells #[.slice A c.wp.length n, .string ⟨c.topic.toArray⟩, .string ⟨c.pay.toArray⟩, .int .u8 (c.qos : Int), .bool c.ret] 55 (0, 0)) ∧ View y (.slice A c.wp.length n) c.wp.length (c.wp.flatMap prE) ∧ w.heap.size ≤ C ∧ Fr [] w y ∧ ∀ k, (Value.slice A c.wp.length n).ownBlock = some k → w.heap.size ≤ k
theorem wl_one (A : Option Addr) (k n : Nat) (t p : List UInt8) (q : Int) (r : Bool) : ((#[.slice A k n, .string ⟨t.toArray⟩, .string ⟨p.toArray⟩, .int .u8 q, .bool r] : Array Value).all fun x => x.oneCell') = true := by
  simp; exact ⟨rfl, rfl, rfl, rfl, rfl⟩
set_option maxRecDepth 100000 in
set_option maxHeartbeats 4000000 in
theorem told6_any (c : Cn) (v u : Value) (w : World) (hv : View w v c.props.length (c.props.flatMap prE)) (hu : View w u c.wp.length (c.wp.flatMap prE)) (hl : c.props.length ≤ 1000000) (hl2 : c.wp.length ≤ 1000000) :
    Calls Try.prog 30 #[.agg (cnC c v u).toArray] w (TdTo c w) := by
  obtain ⟨clean, keep, props, id, hasWill, wp, topic, pay, qos, ret, hasUser, hasPass, user, pass⟩ := c
  dsimp only at hv hu hl hl2
  have HV := Lib.hid hv
  have HU := Lib.hid hu
  obtain ⟨A0, n0, rfl⟩ := view_shape hv
  obtain ⟨A1, n1, rfl⟩ := view_shape hu
  have hb0 := blk_old (blk_new w (.cells (cnC ⟨clean, keep, props, id, hasWill, wp, topic, pay, qos, ret, hasUser, hasPass, user, pass⟩ (.slice A0 props.length n0) (.slice A1 wp.length n1)).toArray 48)) (.cells #[.bool false, .int .u32 0, .slice none 0 0, .string ⟨#[]⟩, .bool false, .slice none 0 0, .string ⟨#[]⟩, .string ⟨#[]⟩, .int .u8 0, .bool false, .bool false, .bool false, .string ⟨#[]⟩, .string ⟨#[]⟩] 57)
  have hr0 := blk_at1 w (.cells (cnC ⟨clean, keep, props, id, hasWill, wp, topic, pay, qos, ret, hasUser, hasPass, user, pass⟩ (.slice A0 props.length n0) (.slice A1 wp.length n1)).toArray 48) (.cells #[.bool false, .int .u32 0, .slice none 0 0, .string ⟨#[]⟩, .bool false, .slice none 0 0, .string ⟨#[]⟩, .string ⟨#[]⟩, .int .u8 0, .bool false, .bool false, .bool false, .string ⟨#[]⟩, .string ⟨#[]⟩] 57)
  have F0 : Fr [] w ((w.alloc (.cells (cnC ⟨clean, keep, props, id, hasWill, wp, topic, pay, qos, ret, hasUser, hasPass, user, pass⟩ (.slice A0 props.length n0) (.slice A1 wp.length n1)).toArray 48)).alloc (.cells #[.bool false, .int .u32 0, .slice none 0 0, .string ⟨#[]⟩, .bool false, .slice none 0 0, .string ⟨#[]⟩, .string ⟨#[]⟩, .int .u8 0, .bool false, .bool false, .bool false, .string ⟨#[]⟩, .string ⟨#[]⟩] 57)) := ((Fr.refl _ _).alloc _).alloc _
  unfold cnC at hb0 hr0 F0 ⊢
  clear hv hu
  go_enter Try.func30, Try.ntmps30
  go_upto_region 1 with (fail)
  obtain ⟨y, hy⟩ : ∃ y, (w.alloc (.cells #[.bool clean, .int .u32 (keep : Int), .slice A0 props.length n0, .string ⟨id.toArray⟩, .bool hasWill, .slice A1 wp.length n1, .string ⟨topic.toArray⟩, .string ⟨pay.toArray⟩, .int .u8 (qos : Int), .bool ret, .bool hasUser, .bool hasPass, .string ⟨user.toArray⟩, .string ⟨pass.toArray⟩] 48)).alloc (.cells #[.bool false, .int .u32 0, .slice none 0 0, .string ⟨#[]⟩, .bool false, .slice none 0 0, .string ⟨#[]⟩, .string ⟨#[]⟩, .int .u8 0, .bool false, .bool false, .bool false, .string ⟨#[]⟩, .string ⟨#[]⟩] 57) = y := ⟨_, rfl⟩
  rw [hy] at hb0 hr0 F0 ⊢
  clear hy
  have HB := Lib.hid hb0
  have HRR := Lib.hid hr0
  have HF := Lib.hid F0
  have hyl := blk_lt hr0
  clear hb0 hr0 F0
  obtain ⟨⟨e0, e1, e2, e3, e4, e5, e6, e7, e8, e9, e10, e11, e12, e13⟩, ⟨k0, k1, k2, k3, k4, k5, k6, k7, k8, k9, k10, k11, k12, k13⟩, _⟩ := blk14n_facts (HB.out)
  clear e0 e1 e2 e3 e4 e10 e11 e12 e13 k0 k1 k2 k3 k4 k5 k6 k7 k8 k9 k10 k11 k12 k13
  go_cut [3] (fun v3 wx => WlAt y ⟨clean, keep, props, id, hasWill, wp, topic, pay, qos, ret, hasUser, hasPass, user, pass⟩ v3 wx)
  case first =>
    refine wp_region_late [] (S := fun w' => w'.cell? ⟨w.heap.size, 5, none⟩ = some (.slice A1 wp.length n1) ∧ w'.cell? ⟨w.heap.size, 6, none⟩ = some (.string ⟨topic.toArray⟩) ∧ w'.cell? ⟨w.heap.size, 7, none⟩ = some (.string ⟨pay.toArray⟩) ∧ w'.cell? ⟨w.heap.size, 8, none⟩ = some (.int .u8 (qos : Int)) ∧ w'.cell? ⟨w.heap.size, 9, none⟩ = some (.bool ret)) (by kernel_rfl) ⟨e5, e6, e7, e8, e9⟩ (fun hHeld => ?_)
    have fd := (Fr.refl [] y).drew
    obtain ⟨wd, hwd⟩ : ∃ wd, y.drew = wd := ⟨_, rfl⟩
    rw [hwd] at hHeld fd ⊢
    clear hwd e5 e6 e7 e8 e9
    obtain ⟨e5, e6, e7, e8, e9⟩ := hHeld
    have hHeld := And.intro e5 (And.intro e6 (And.intro e7 (And.intro e8 e9)))
    refine wpLate_take (i := 0) (oi := _) (v := ?_) rfl (by kernel_rfl) (by kernel_rfl) (by kernel_rfl) (by kernel_rfl) (fun _ _ _ h => h) (Gives.load (by rfl) ?_) hHeld ?_
    rotate_left
    · intro w hSw
      (try dsimp only at hSw)
      go_simp
      try with_reducible rfl
    try simp only [Act.put, List.getElem_toArray, List.getElem_cons_succ, List.getElem_cons_zero, List.setIfInBounds_toArray, List.set_cons_zero, List.set_cons_succ]
    refine wpLate_take (i := 1) (oi := _) (v := ?_) rfl (by kernel_rfl) (by kernel_rfl) (by kernel_rfl) (by kernel_rfl) (fun _ _ _ h => h) (Gives.load (by rfl) ?_) hHeld ?_
    rotate_left
    · intro w hSw
      (try dsimp only at hSw)
      go_simp
      try with_reducible rfl
    try simp only [Act.put, List.getElem_toArray, List.getElem_cons_succ, List.getElem_cons_zero, List.setIfInBounds_toArray, List.set_cons_zero, List.set_cons_succ]
    refine wpLate_take (i := 2) (oi := _) (v := ?_) rfl (by kernel_rfl) (by kernel_rfl) (by kernel_rfl) (by kernel_rfl) (fun _ _ _ h => h) (Gives.load (by rfl) ?_) hHeld ?_
    rotate_left
    · intro w hSw
      (try dsimp only at hSw)
      go_simp
      try with_reducible rfl
    try simp only [Act.put, List.getElem_toArray, List.getElem_cons_succ, List.getElem_cons_zero, List.setIfInBounds_toArray, List.set_cons_zero, List.set_cons_succ]
    refine wpLate_take (i := 4) (oi := _) (v := ?_) rfl (by kernel_rfl) (by kernel_rfl) (by kernel_rfl) (by kernel_rfl) (fun _ _ _ h => h) (Gives.load (by rfl) ?_) hHeld ?_
    rotate_left
    · intro w hSw
      (try dsimp only at hSw)
      go_simp
      try with_reducible rfl
    try simp only [Act.put, List.getElem_toArray, List.getElem_cons_succ, List.getElem_cons_zero, List.setIfInBounds_toArray, List.set_cons_zero, List.set_cons_succ]
    refine wpLate_take (i := 5) (oi := _) (v := ?_) rfl (by kernel_rfl) (by kernel_rfl) (by kernel_rfl) (by kernel_rfl) (fun _ _ _ h => h) (Gives.load (by rfl) ?_) hHeld ?_
    rotate_left
    · intro w hSw
      (try dsimp only at hSw)
      go_simp
      try with_reducible rfl
    try simp only [Act.put, List.getElem_toArray, List.getElem_cons_succ, List.getElem_cons_zero, List.setIfInBounds_toArray, List.set_cons_zero, List.set_cons_succ]
    refine wpLate_take (i := 6) (oi := _) (v := ?_) rfl (by kernel_rfl) (by kernel_rfl) (by kernel_rfl) (by kernel_rfl) (fun _ _ _ h => h) (Gives.load (by rfl) ?_) hHeld ?_
    rotate_left
    · intro w hSw
      (try dsimp only at hSw)
      go_simp
      try with_reducible rfl
    try simp only [Act.put, List.getElem_toArray, List.getElem_cons_succ, List.getElem_cons_zero, List.setIfInBounds_toArray, List.set_cons_zero, List.set_cons_succ]
    refine wpLate_take (i := 7) (oi := _) (v := ?_) rfl (by kernel_rfl) (by kernel_rfl) (by kernel_rfl) (by kernel_rfl) (fun _ _ _ h => h) (Gives.load (by rfl) ?_) hHeld ?_
    rotate_left
    · intro w hSw
      (try dsimp only at hSw)
      go_simp
      try with_reducible rfl
    try simp only [Act.put, List.getElem_toArray, List.getElem_cons_succ, List.getElem_cons_zero, List.setIfInBounds_toArray, List.set_cons_zero, List.set_cons_succ]
    refine wpLate_take (i := 8) (oi := _) (v := ?_) rfl (by kernel_rfl) (by kernel_rfl) (by kernel_rfl) (by kernel_rfl) (fun _ _ _ h => h) (Gives.load (by rfl) ?_) hHeld ?_
    rotate_left
    · intro w hSw
      (try dsimp only at hSw)
      go_simp
      try with_reducible rfl
    try simp only [Act.put, List.getElem_toArray, List.getElem_cons_succ, List.getElem_cons_zero, List.setIfInBounds_toArray, List.set_cons_zero, List.set_cons_succ]
    refine wpLate_take (i := 9) (oi := _) (v := ?_) rfl (by kernel_rfl) (by kernel_rfl) (by kernel_rfl) (by kernel_rfl) (fun _ _ _ h => h) (Gives.load (by rfl) ?_) hHeld ?_
    rotate_left
    · intro w hSw
      (try dsimp only at hSw)
      go_simp
      try with_reducible rfl
    try simp only [Act.put, List.getElem_toArray, List.getElem_cons_succ, List.getElem_cons_zero, List.setIfInBounds_toArray, List.set_cons_zero, List.set_cons_succ]
    refine wpLate_take (i := 10) (oi := _) (v := ?_) rfl (by kernel_rfl) (by kernel_rfl) (by kernel_rfl) (by kernel_rfl) (fun _ _ _ h => h) (Gives.load (by rfl) ?_) hHeld ?_
    rotate_left
    · intro w hSw
      (try dsimp only at hSw)
      go_simp
      try with_reducible rfl
    try simp only [Act.put, List.getElem_toArray, List.getElem_cons_succ, List.getElem_cons_zero, List.setIfInBounds_toArray, List.set_cons_zero, List.set_cons_succ]
    refine wpLate_take (i := 11) (oi := _) (v := ?_) rfl (by kernel_rfl) (by kernel_rfl) (by kernel_rfl) (by kernel_rfl) (fun _ _ _ h => h) (Gives.load (by rfl) ?_) hHeld ?_
    rotate_left
    · intro w hSw
      (try dsimp only at hSw)
      go_simp
      try with_reducible rfl
    try simp only [Act.put, List.getElem_toArray, List.getElem_cons_succ, List.getElem_cons_zero, List.setIfInBounds_toArray, List.set_cons_zero, List.set_cons_succ]
    refine wpLate_take (i := 12) (oi := _) (v := ?_) rfl (by kernel_rfl) (by kernel_rfl) (by kernel_rfl) (by kernel_rfl) (fun _ _ _ h => h) (Gives.load (by rfl) ?_) hHeld ?_
    rotate_left
    · intro w hSw
      (try dsimp only at hSw)
      go_simp
      try with_reducible rfl
    try simp only [Act.put, List.getElem_toArray, List.getElem_cons_succ, List.getElem_cons_zero, List.setIfInBounds_toArray, List.set_cons_zero, List.set_cons_succ]
    refine wpLate_take (i := 13) (oi := _) (v := ?_) rfl (by kernel_rfl) (by kernel_rfl) (by kernel_rfl) (by kernel_rfl) (fun _ _ _ h => h) (Gives.load (by rfl) ?_) hHeld ?_
    rotate_left
    · intro w hSw
      (try dsimp only at hSw)
      go_simp
      try with_reducible rfl
    try simp only [Act.put, List.getElem_toArray, List.getElem_cons_succ, List.getElem_cons_zero, List.setIfInBounds_toArray, List.set_cons_zero, List.set_cons_succ]
    refine wpLate_take (i := 14) (oi := _) (v := ?_) rfl (by kernel_rfl) (by kernel_rfl) (by kernel_rfl) (by kernel_rfl) (fun _ _ _ h => h) (Gives.load (by rfl) ?_) hHeld ?_
    rotate_left
    · intro w hSw
      (try dsimp only at hSw)
      go_simp
      try with_reducible rfl
    try simp only [Act.put, List.getElem_toArray, List.getElem_cons_succ, List.getElem_cons_zero, List.setIfInBounds_toArray, List.set_cons_zero, List.set_cons_succ]
    refine wpLate_take (i := 15) (oi := _) (v := ?_) rfl (by kernel_rfl) (by kernel_rfl) (by kernel_rfl) (by kernel_rfl) (fun _ _ _ h => h) (Gives.load (by rfl) ?_) hHeld ?_
    rotate_left
    · intro w hSw
      (try dsimp only at hSw)
      go_simp
      try with_reducible rfl
    try simp only [Act.put, List.getElem_toArray, List.getElem_cons_succ, List.getElem_cons_zero, List.setIfInBounds_toArray, List.set_cons_zero, List.set_cons_succ]
    refine wpLate_ready (rs := [3, 17]) (by kernel_rfl) (by simp) ?_
    refine AllLate.cons (o := _) rfl (fun K hK => ?_) ?_
    · go_simp
      refine (told_any _ wp _ (HU.out.old (HF.out.trans fd (by simp)) (by simp)) hl2).mono ?_
      rintro _ x1 ⟨v2, rfl, own2, f⟩
      obtain ⟨A2, n2, rfl⟩ := own_shape own2
      have V2 := own_view own2
      have hlow := own_low own2
      go_wp2_with fail
      have f1 := fd.trans f (by simp)
      have ff := f
      refine hK.out _ _ (fun _ => ⟨(ff).cell e5 (by simp), (ff).cell e6 (by simp), (ff).cell e7 (by simp), (ff).cell e8 (by simp), (ff).cell e9 (by simp)⟩) (fun hHeld => ?_)
      replace hHeld := hHeld (by kernel_rfl)
      clear hK K
      try simp only [Act.put, List.getElem_toArray, List.getElem_cons_succ, List.getElem_cons_zero, List.setIfInBounds_toArray, List.set_cons_zero, List.set_cons_succ]
      refine wpLate_pure (i := 16) (oi := _) (v := ?_) rfl (by kernel_rfl) (by kernel_rfl) (by kernel_rfl) (by kernel_rfl) (fun _ _ _ h => h) (Gives.load (by rfl) ?_) (fun _ => hHeld) ?_
      rotate_left
      · intro w hSw
        clear hSw
        go_simp
        try with_reducible rfl
      try simp only [Act.put, List.getElem_toArray, List.getElem_cons_succ, List.getElem_cons_zero, List.setIfInBounds_toArray, List.set_cons_zero, List.set_cons_succ]
      refine wpLate_ready (rs := [17]) (by kernel_rfl) (by simp) ?_
      refine AllLate.cons (o := _) rfl (fun K hK => ?_) ?_
      · go_simp
        have ga := ff.alloc (.cells #[.slice none 0 0, .string ⟨#[]⟩, .string ⟨#[]⟩, .int .u8 0, .bool false] 55)
        refine hK.out _ _ (fun _ => ⟨(ga).cell e5 (by simp), (ga).cell e6 (by simp), (ga).cell e7 (by simp), (ga).cell e8 (by simp), (ga).cell e9 (by simp)⟩) (fun hHeld => ?_)
        replace hHeld := hHeld (by kernel_rfl)
        clear hK K
        try simp only [Act.put, List.getElem_toArray, List.getElem_cons_succ, List.getElem_cons_zero, List.setIfInBounds_toArray, List.set_cons_zero, List.set_cons_succ]
        refine wpLate_ready (rs := [18]) (by kernel_rfl) (by simp) ?_
        refine AllLate.cons (o := _) rfl (fun K hK => ?_) ?_
        · have gs := fr_row ga (g := x1.heap.size) (Or.inl ff.size) #[.slice A2 wp.length n2, .string ⟨topic.toArray⟩, .string ⟨pay.toArray⟩, .int .u8 (qos : Int), .bool ret]
          refine step_store_row rfl 55 _ _ rfl x1.heap.size #[.slice A2 wp.length n2, .string ⟨topic.toArray⟩, .string ⟨pay.toArray⟩, .int .u8 (qos : Int), .bool ret] (by rfl) (by rfl) _ _ (blk_new x1 _) (by kernel_rfl) rfl (wl_one _ _ _ _ _ _ _) ?_
          refine hK.out _ _ (fun _ => ⟨(gs).cell e5 (by simp), (gs).cell e6 (by simp), (gs).cell e7 (by simp), (gs).cell e8 (by simp), (gs).cell e9 (by simp)⟩) (fun hHeld => ?_)
          replace hHeld := hHeld (by kernel_rfl)
          clear hK K
          try simp only [Act.put, List.getElem_toArray, List.getElem_cons_succ, List.getElem_cons_zero, List.setIfInBounds_toArray, List.set_cons_zero, List.set_cons_succ]
          refine wpLate_done (by kernel_rfl) ?_ _
          go_wp2_with fail
          go_meet
          exact ⟨x1.heap.size, A2, n2, rfl, setRow_heap _ _ _ _ _ _ (blk_new x1 _), V2.old (fr_row ((Fr.refl [] x1).alloc _) (g := x1.heap.size) (Or.inl (Nat.le_refl _)) _) (by simp), f1.size, fd.trans gs (by simp), fun k hk => by have := hlow k hk; have := fd.size; omega⟩
        exact AllLate.nil
      exact AllLate.nil
    refine AllLate.cons (o := _) rfl (fun K hK => ?_) ?_
    · go_simp
      have ga := (Fr.refl [] wd).alloc (.cells #[.slice none 0 0, .string ⟨#[]⟩, .string ⟨#[]⟩, .int .u8 0, .bool false] 55)
      have hbn := blk_new wd (.cells #[.slice none 0 0, .string ⟨#[]⟩, .string ⟨#[]⟩, .int .u8 0, .bool false] 55)
      refine hK.out _ _ (fun _ => ⟨(ga).cell e5 (by simp), (ga).cell e6 (by simp), (ga).cell e7 (by simp), (ga).cell e8 (by simp), (ga).cell e9 (by simp)⟩) (fun hHeld => ?_)
      replace hHeld := hHeld (by kernel_rfl)
      clear hK K
      try simp only [Act.put, List.getElem_toArray, List.getElem_cons_succ, List.getElem_cons_zero, List.setIfInBounds_toArray, List.set_cons_zero, List.set_cons_succ]
      obtain ⟨C, hC⟩ : ∃ C, wd.heap.size = C := ⟨_, rfl⟩
      obtain ⟨X, hX⟩ : ∃ X, wd.alloc (.cells #[.slice none 0 0, .string ⟨#[]⟩, .string ⟨#[]⟩, .int .u8 0, .bool false] 55) = X := ⟨_, rfl⟩
      rw [hC] at hbn ⊢
      rw [hX] at hHeld hbn ga ⊢
      have hCl := blk_lt hbn
      have hyC : y.heap.size ≤ C := by rw [← hC]; exact fd.size
      refine wpLate_ready (rs := [3]) (by kernel_rfl) (by simp) ?_
      refine AllLate.cons (o := _) rfl (fun K hK => ?_) ?_
      · go_simp
        refine (told_any _ wp _ (HU.out.old ((HF.out.trans fd (by simp)).trans ga (by simp)) (by simp)) hl2).mono ?_
        rintro _ x1 ⟨v2, rfl, own2, f⟩
        obtain ⟨A2, n2, rfl⟩ := own_shape own2
        have V2 := own_view own2
        have hlow := own_low own2
        go_wp2_with fail
        have gx := ga.trans f (by simp)
        have hb1 := f.blk hbn (by simp)
        refine hK.out _ _ (fun _ => ⟨(gx).cell e5 (by simp), (gx).cell e6 (by simp), (gx).cell e7 (by simp), (gx).cell e8 (by simp), (gx).cell e9 (by simp)⟩) (fun hHeld => ?_)
        replace hHeld := hHeld (by kernel_rfl)
        clear hK K
        try simp only [Act.put, List.getElem_toArray, List.getElem_cons_succ, List.getElem_cons_zero, List.setIfInBounds_toArray, List.set_cons_zero, List.set_cons_succ]
        refine wpLate_pure (i := 16) (oi := _) (v := ?_) rfl (by kernel_rfl) (by kernel_rfl) (by kernel_rfl) (by kernel_rfl) (fun _ _ _ h => h) (Gives.load (by rfl) ?_) (fun _ => hHeld) ?_
        rotate_left
        · intro w hSw
          clear hSw
          go_simp
          try with_reducible rfl
        try simp only [Act.put, List.getElem_toArray, List.getElem_cons_succ, List.getElem_cons_zero, List.setIfInBounds_toArray, List.set_cons_zero, List.set_cons_succ]
        refine wpLate_ready (rs := [18]) (by kernel_rfl) (by simp) ?_
        refine AllLate.cons (o := _) rfl (fun K hK => ?_) ?_
        · have gs := fr_row gx (g := C) (Or.inl (by omega)) #[.slice A2 wp.length n2, .string ⟨topic.toArray⟩, .string ⟨pay.toArray⟩, .int .u8 (qos : Int), .bool ret]
          refine step_store_row rfl 55 _ _ rfl C #[.slice A2 wp.length n2, .string ⟨topic.toArray⟩, .string ⟨pay.toArray⟩, .int .u8 (qos : Int), .bool ret] (by rfl) (by rfl) _ _ hb1 (by kernel_rfl) rfl (wl_one _ _ _ _ _ _ _) ?_
          refine hK.out _ _ (fun _ => ⟨(gs).cell e5 (by simp), (gs).cell e6 (by simp), (gs).cell e7 (by simp), (gs).cell e8 (by simp), (gs).cell e9 (by simp)⟩) (fun hHeld => ?_)
          replace hHeld := hHeld (by kernel_rfl)
          clear hK K
          try simp only [Act.put, List.getElem_toArray, List.getElem_cons_succ, List.getElem_cons_zero, List.setIfInBounds_toArray, List.set_cons_zero, List.set_cons_succ]
          refine wpLate_done (by kernel_rfl) ?_ _
          go_wp2_with fail
          go_meet
          exact ⟨C, A2, n2, rfl, setRow_heap _ _ _ _ _ _ hb1, V2.fr (fr_row (Fr.refl [C] x1) (g := C) (Or.inr (by simp)) _) (fun k hk e => by have := hlow k hk; simp at e; omega), hyC, fd.trans gs (by simp), fun k hk => by have := hlow k hk; have := ga.size; have := fd.size; omega⟩
        exact AllLate.nil
      exact AllLate.nil
    exact AllLate.nil
  case rest =>
    obtain ⟨C, A2, n2, rfl, hbc, V2, hCl, G, hk2⟩ := hcut
    dsimp only at hbc V2 hk2
    have HK2 := Lib.hid hk2
    clear hk2
    have HB1 := Lib.hid (G.blk HB.out (by simp))
    have HR1 := Lib.hid (G.blk HRR.out (by simp))
    have HF1 := Lib.hid (HF.out.trans G (by simp))
    have HC1 := Lib.hid hbc
    have HV2 := Lib.hid V2
    clear e5 e6 e7 e8 e9 HB HRR HF V2 HU
    obtain ⟨m0, m1, m2, m3, m4⟩ := (blk5n_facts hbc).1
    obtain ⟨⟨e0, e1, e2, e3, e4, e5, e6, e7, e8, e9, e10, e11, e12, e13⟩, ⟨k0, k1, k2, k3, k4, k5, k6, k7, k8, k9, k10, k11, k12, k13⟩, _⟩ := blk14n_facts (HB1.out)
    clear e5 e6 e7 e8 e9 k0 k1 k2 k3 k4 k5 k6 k7 k8 k9 k10 k11 k12 k13 hbc
    go_upto_region 2 with (fail)
    generalize wc = z at *
    refine wp_region_late [] (S := (fun w' => w'.cell? ⟨w.heap.size, 0, none⟩ = some (.bool clean) ∧ w'.cell? ⟨w.heap.size, 1, none⟩ = some (.int .u32 (keep : Int)) ∧ w'.cell? ⟨w.heap.size, 2, none⟩ = some (.slice A0 props.length n0) ∧ w'.cell? ⟨w.heap.size, 3, none⟩ = some (.string ⟨id.toArray⟩) ∧ w'.cell? ⟨w.heap.size, 4, none⟩ = some (.bool hasWill) ∧ w'.cell? ⟨w.heap.size, 10, none⟩ = some (.bool hasUser) ∧ w'.cell? ⟨w.heap.size, 11, none⟩ = some (.bool hasPass) ∧ w'.cell? ⟨w.heap.size, 12, none⟩ = some (.string ⟨user.toArray⟩) ∧ w'.cell? ⟨w.heap.size, 13, none⟩ = some (.string ⟨pass.toArray⟩) ∧ w'.cell? ⟨C, 0, none⟩ = some (.slice A2 wp.length n2) ∧ w'.cell? ⟨C, 1, none⟩ = some (.string ⟨topic.toArray⟩) ∧ w'.cell? ⟨C, 2, none⟩ = some (.string ⟨pay.toArray⟩) ∧ w'.cell? ⟨C, 3, none⟩ = some (.int .u8 (qos : Int)) ∧ w'.cell? ⟨C, 4, none⟩ = some (.bool ret))) (by kernel_rfl) ⟨e0, e1, e2, e3, e4, e10, e11, e12, e13, m0, m1, m2, m3, m4⟩ (fun hHeld => ?_)
    have fd := (Fr.refl [] z).drew
    obtain ⟨wd, hwd⟩ : ∃ wd, z.drew = wd := ⟨_, rfl⟩
    rw [hwd] at hHeld fd ⊢
    clear hwd e0 e1 e2 e3 e4 e10 e11 e12 e13 m0 m1 m2 m3 m4
    obtain ⟨e0, e1, e2, e3, e4, e10, e11, e12, e13, m0, m1, m2, m3, m4⟩ := hHeld
    have hHeld : (fun w' => w'.cell? ⟨w.heap.size, 0, none⟩ = some (.bool clean) ∧ w'.cell? ⟨w.heap.size, 1, none⟩ = some (.int .u32 (keep : Int)) ∧ w'.cell? ⟨w.heap.size, 2, none⟩ = some (.slice A0 props.length n0) ∧ w'.cell? ⟨w.heap.size, 3, none⟩ = some (.string ⟨id.toArray⟩) ∧ w'.cell? ⟨w.heap.size, 4, none⟩ = some (.bool hasWill) ∧ w'.cell? ⟨w.heap.size, 10, none⟩ = some (.bool hasUser) ∧ w'.cell? ⟨w.heap.size, 11, none⟩ = some (.bool hasPass) ∧ w'.cell? ⟨w.heap.size, 12, none⟩ = some (.string ⟨user.toArray⟩) ∧ w'.cell? ⟨w.heap.size, 13, none⟩ = some (.string ⟨pass.toArray⟩) ∧ w'.cell? ⟨C, 0, none⟩ = some (.slice A2 wp.length n2) ∧ w'.cell? ⟨C, 1, none⟩ = some (.string ⟨topic.toArray⟩) ∧ w'.cell? ⟨C, 2, none⟩ = some (.string ⟨pay.toArray⟩) ∧ w'.cell? ⟨C, 3, none⟩ = some (.int .u8 (qos : Int)) ∧ w'.cell? ⟨C, 4, none⟩ = some (.bool ret)) wd := ⟨e0, e1, e2, e3, e4, e10, e11, e12, e13, m0, m1, m2, m3, m4⟩
    refine wpLate_take (i := 0) (oi := _) (v := ?_) rfl (by kernel_rfl) (by kernel_rfl) (by kernel_rfl) (by kernel_rfl) (fun _ _ _ h => h) (Gives.load (by rfl) ?_) hHeld ?_
    rotate_left
    · intro w hSw
      (try dsimp only at hSw)
      go_simp
      try with_reducible rfl
    try simp only [Act.put, List.getElem_toArray, List.getElem_cons_succ, List.getElem_cons_zero, List.setIfInBounds_toArray, List.set_cons_zero, List.set_cons_succ]
    refine wpLate_take (i := 1) (oi := _) (v := ?_) rfl (by kernel_rfl) (by kernel_rfl) (by kernel_rfl) (by kernel_rfl) (fun _ _ _ h => h) (Gives.load (by rfl) ?_) hHeld ?_
    rotate_left
    · intro w hSw
      (try dsimp only at hSw)
      go_simp
      try with_reducible rfl
    try simp only [Act.put, List.getElem_toArray, List.getElem_cons_succ, List.getElem_cons_zero, List.setIfInBounds_toArray, List.set_cons_zero, List.set_cons_succ]
    refine wpLate_take (i := 2) (oi := _) (v := ?_) rfl (by kernel_rfl) (by kernel_rfl) (by kernel_rfl) (by kernel_rfl) (fun _ _ _ h => h) (Gives.load (by rfl) ?_) hHeld ?_
    rotate_left
    · intro w hSw
      (try dsimp only at hSw)
      go_simp
      try with_reducible rfl
    try simp only [Act.put, List.getElem_toArray, List.getElem_cons_succ, List.getElem_cons_zero, List.setIfInBounds_toArray, List.set_cons_zero, List.set_cons_succ]
    refine wpLate_take (i := 3) (oi := _) (v := ?_) rfl (by kernel_rfl) (by kernel_rfl) (by kernel_rfl) (by kernel_rfl) (fun _ _ _ h => h) (Gives.load (by rfl) ?_) hHeld ?_
    rotate_left
    · intro w hSw
      (try dsimp only at hSw)
      go_simp
      try with_reducible rfl
    try simp only [Act.put, List.getElem_toArray, List.getElem_cons_succ, List.getElem_cons_zero, List.setIfInBounds_toArray, List.set_cons_zero, List.set_cons_succ]
    refine wpLate_take (i := 4) (oi := _) (v := ?_) rfl (by kernel_rfl) (by kernel_rfl) (by kernel_rfl) (by kernel_rfl) (fun _ _ _ h => h) (Gives.load (by rfl) ?_) hHeld ?_
    rotate_left
    · intro w hSw
      (try dsimp only at hSw)
      go_simp
      try with_reducible rfl
    try simp only [Act.put, List.getElem_toArray, List.getElem_cons_succ, List.getElem_cons_zero, List.setIfInBounds_toArray, List.set_cons_zero, List.set_cons_succ]
    refine wpLate_take (i := 5) (oi := _) (v := ?_) rfl (by kernel_rfl) (by kernel_rfl) (by kernel_rfl) (by kernel_rfl) (fun _ _ _ h => h) (Gives.load (by rfl) ?_) hHeld ?_
    rotate_left
    · intro w hSw
      (try dsimp only at hSw)
      go_simp
      try with_reducible rfl
    try simp only [Act.put, List.getElem_toArray, List.getElem_cons_succ, List.getElem_cons_zero, List.setIfInBounds_toArray, List.set_cons_zero, List.set_cons_succ]
    refine wpLate_take (i := 7) (oi := _) (v := ?_) rfl (by kernel_rfl) (by kernel_rfl) (by kernel_rfl) (by kernel_rfl) (fun _ _ _ h => h) (Gives.load (by rfl) ?_) hHeld ?_
    rotate_left
    · intro w hSw
      (try dsimp only at hSw)
      go_simp
      try with_reducible rfl
    try simp only [Act.put, List.getElem_toArray, List.getElem_cons_succ, List.getElem_cons_zero, List.setIfInBounds_toArray, List.set_cons_zero, List.set_cons_succ]
    refine wpLate_take (i := 8) (oi := _) (v := ?_) rfl (by kernel_rfl) (by kernel_rfl) (by kernel_rfl) (by kernel_rfl) (fun _ _ _ h => h) (Gives.load (by rfl) ?_) hHeld ?_
    rotate_left
    · intro w hSw
      (try dsimp only at hSw)
      go_simp
      try with_reducible rfl
    try simp only [Act.put, List.getElem_toArray, List.getElem_cons_succ, List.getElem_cons_zero, List.setIfInBounds_toArray, List.set_cons_zero, List.set_cons_succ]
    refine wpLate_take (i := 9) (oi := _) (v := ?_) rfl (by kernel_rfl) (by kernel_rfl) (by kernel_rfl) (by kernel_rfl) (fun _ _ _ h => h) (Gives.load (by rfl) ?_) hHeld ?_
    rotate_left
    · intro w hSw
      (try dsimp only at hSw)
      go_simp
      try with_reducible rfl
    try simp only [Act.put, List.getElem_toArray, List.getElem_cons_succ, List.getElem_cons_zero, List.setIfInBounds_toArray, List.set_cons_zero, List.set_cons_succ]
    refine wpLate_take (i := 10) (oi := _) (v := ?_) rfl (by kernel_rfl) (by kernel_rfl) (by kernel_rfl) (by kernel_rfl) (fun _ _ _ h => h) (Gives.load (by rfl) ?_) hHeld ?_
    rotate_left
    · intro w hSw
      (try dsimp only at hSw)
      go_simp
      try with_reducible rfl
    try simp only [Act.put, List.getElem_toArray, List.getElem_cons_succ, List.getElem_cons_zero, List.setIfInBounds_toArray, List.set_cons_zero, List.set_cons_succ]
    refine wpLate_take (i := 11) (oi := _) (v := ?_) rfl (by kernel_rfl) (by kernel_rfl) (by kernel_rfl) (by kernel_rfl) (fun _ _ _ h => h) (Gives.load (by rfl) ?_) hHeld ?_
    rotate_left
    · intro w hSw
      (try dsimp only at hSw)
      go_simp
      try with_reducible rfl
    try simp only [Act.put, List.getElem_toArray, List.getElem_cons_succ, List.getElem_cons_zero, List.setIfInBounds_toArray, List.set_cons_zero, List.set_cons_succ]
    refine wpLate_take (i := 12) (oi := _) (v := ?_) rfl (by kernel_rfl) (by kernel_rfl) (by kernel_rfl) (by kernel_rfl) (fun _ _ _ h => h) (Gives.load (by rfl) ?_) hHeld ?_
    rotate_left
    · intro w hSw
      (try dsimp only at hSw)
      go_simp
      try with_reducible rfl
    try simp only [Act.put, List.getElem_toArray, List.getElem_cons_succ, List.getElem_cons_zero, List.setIfInBounds_toArray, List.set_cons_zero, List.set_cons_succ]
    refine wpLate_take (i := 13) (oi := _) (v := ?_) rfl (by kernel_rfl) (by kernel_rfl) (by kernel_rfl) (by kernel_rfl) (fun _ _ _ h => h) (Gives.load (by rfl) ?_) hHeld ?_
    rotate_left
    · intro w hSw
      (try dsimp only at hSw)
      go_simp
      try with_reducible rfl
    try simp only [Act.put, List.getElem_toArray, List.getElem_cons_succ, List.getElem_cons_zero, List.setIfInBounds_toArray, List.set_cons_zero, List.set_cons_succ]
    refine wpLate_take (i := 14) (oi := _) (v := ?_) rfl (by kernel_rfl) (by kernel_rfl) (by kernel_rfl) (by kernel_rfl) (fun _ _ _ h => h) (Gives.load (by rfl) ?_) hHeld ?_
    rotate_left
    · intro w hSw
      (try dsimp only at hSw)
      go_simp
      try with_reducible rfl
    try simp only [Act.put, List.getElem_toArray, List.getElem_cons_succ, List.getElem_cons_zero, List.setIfInBounds_toArray, List.set_cons_zero, List.set_cons_succ]
    refine wpLate_take (i := 15) (oi := _) (v := ?_) rfl (by kernel_rfl) (by kernel_rfl) (by kernel_rfl) (by kernel_rfl) (fun _ _ _ h => h) (Gives.load (by rfl) ?_) hHeld ?_
    rotate_left
    · intro w hSw
      (try dsimp only at hSw)
      go_simp
      try with_reducible rfl
    try simp only [Act.put, List.getElem_toArray, List.getElem_cons_succ, List.getElem_cons_zero, List.setIfInBounds_toArray, List.set_cons_zero, List.set_cons_succ]
    refine wpLate_take (i := 16) (oi := _) (v := ?_) rfl (by kernel_rfl) (by kernel_rfl) (by kernel_rfl) (by kernel_rfl) (fun _ _ _ h => h) (Gives.load (by rfl) ?_) hHeld ?_
    rotate_left
    · intro w hSw
      (try dsimp only at hSw)
      go_simp
      try with_reducible rfl
    try simp only [Act.put, List.getElem_toArray, List.getElem_cons_succ, List.getElem_cons_zero, List.setIfInBounds_toArray, List.set_cons_zero, List.set_cons_succ]
    refine wpLate_take (i := 17) (oi := _) (v := ?_) rfl (by kernel_rfl) (by kernel_rfl) (by kernel_rfl) (by kernel_rfl) (fun _ _ _ h => h) (Gives.load (by rfl) ?_) hHeld ?_
    rotate_left
    · intro w hSw
      (try dsimp only at hSw)
      go_simp
      try with_reducible rfl
    try simp only [Act.put, List.getElem_toArray, List.getElem_cons_succ, List.getElem_cons_zero, List.setIfInBounds_toArray, List.set_cons_zero, List.set_cons_succ]
    refine wpLate_take (i := 18) (oi := _) (v := ?_) rfl (by kernel_rfl) (by kernel_rfl) (by kernel_rfl) (by kernel_rfl) (fun _ _ _ h => h) (Gives.load (by rfl) ?_) hHeld ?_
    rotate_left
    · intro w hSw
      (try dsimp only at hSw)
      go_simp
      try with_reducible rfl
    try simp only [Act.put, List.getElem_toArray, List.getElem_cons_succ, List.getElem_cons_zero, List.setIfInBounds_toArray, List.set_cons_zero, List.set_cons_succ]
    refine wpLate_take (i := 19) (oi := _) (v := ?_) rfl (by kernel_rfl) (by kernel_rfl) (by kernel_rfl) (by kernel_rfl) (fun _ _ _ h => h) (Gives.load (by rfl) ?_) hHeld ?_
    rotate_left
    · intro w hSw
      (try dsimp only at hSw)
      go_simp
      try with_reducible rfl
    try simp only [Act.put, List.getElem_toArray, List.getElem_cons_succ, List.getElem_cons_zero, List.setIfInBounds_toArray, List.set_cons_zero, List.set_cons_succ]
    refine wpLate_ready (rs := [6]) (by kernel_rfl) (by simp) ?_
    refine AllLate.cons (o := _) rfl (fun K hK => ?_) ?_
    · go_simp
      refine (told_any _ props _ (HV.out.old (HF1.out.trans fd (by simp)) (by simp)) hl).mono ?_
      rintro _ x1 ⟨v3, rfl, own3, f⟩
      obtain ⟨A3, n3, rfl⟩ := own_shape own3
      have V3 := own_view own3
      have hlow := own_low own3
      go_wp2_with fail
      have ff := f
      have hr2 := f.blk (fd.blk HR1.out (by simp)) (by simp)
      have F2 := (HF1.out.trans fd (by simp)).trans f (by simp)
      have V2x := (HV2.out.old fd (by simp)).old f (by simp)
      have hzl := fd.size
      have hgz := G.size
      refine hK.out _ _ (fun _ => ⟨(ff).cell e0 (by simp), (ff).cell e1 (by simp), (ff).cell e2 (by simp), (ff).cell e3 (by simp), (ff).cell e4 (by simp), (ff).cell e10 (by simp), (ff).cell e11 (by simp), (ff).cell e12 (by simp), (ff).cell e13 (by simp), (ff).cell m0 (by simp), (ff).cell m1 (by simp), (ff).cell m2 (by simp), (ff).cell m3 (by simp), (ff).cell m4 (by simp)⟩) (fun hHeld => ?_)
      replace hHeld := hHeld (by kernel_rfl)
      clear hK K
      try simp only [Act.put, List.getElem_toArray, List.getElem_cons_succ, List.getElem_cons_zero, List.setIfInBounds_toArray, List.set_cons_zero, List.set_cons_succ]
      refine wpLate_pure (i := 20) (oi := _) (v := ?_) rfl (by kernel_rfl) (by kernel_rfl) (by kernel_rfl) (by kernel_rfl) (fun _ _ _ h => h) (Gives.load (by rfl) ?_) (fun _ => hHeld) ?_
      rotate_left
      · intro w hSw
        clear hSw
        go_simp
        try with_reducible rfl
      try simp only [Act.put, List.getElem_toArray, List.getElem_cons_succ, List.getElem_cons_zero, List.setIfInBounds_toArray, List.set_cons_zero, List.set_cons_succ]
      refine wpLate_ready (rs := [21]) (by kernel_rfl) (by simp) ?_
      refine AllLate.cons (o := _) rfl (fun K hK => ?_) ?_
      · have gs : Fr [w.heap.size + 1] x1 (x1.setRow (w.heap.size + 1) (cnC ⟨clean, keep, props, id, hasWill, wp, topic, pay, qos, ret, hasUser, hasPass, user, pass⟩ (.slice A3 props.length n3) (.slice A2 wp.length n2)).toArray) := fr_row (Fr.refl _ _) (Or.inr (by simp)) _
        have HZ := Lib.hid (setRow_heap _ _ _ (cnC ⟨clean, keep, props, id, hasWill, wp, topic, pay, qos, ret, hasUser, hasPass, user, pass⟩ (.slice A3 props.length n3) (.slice A2 wp.length n2)).toArray _ _ hr2)
        have FZ := Lib.hid (fr_row F2 (g := w.heap.size + 1) (Or.inl (by omega)) (cnC ⟨clean, keep, props, id, hasWill, wp, topic, pay, qos, ret, hasUser, hasPass, user, pass⟩ (.slice A3 props.length n3) (.slice A2 wp.length n2)).toArray)
        have W3 := Lib.hid (V3.fr gs (fun k hk e => by have := hlow k hk; simp at e; omega))
        refine step_store_row rfl 57 _ _ rfl (w.heap.size + 1) (cnC ⟨clean, keep, props, id, hasWill, wp, topic, pay, qos, ret, hasUser, hasPass, user, pass⟩ (.slice A3 props.length n3) (.slice A2 wp.length n2)).toArray (by rfl) (by rfl) _ _ hr2 (by kernel_rfl) rfl (cn_one _ _ _ rfl rfl) ?_
        have gw := fr_row (S := [w.heap.size + 1]) (ff.mono (by simp)) (g := w.heap.size + 1) (Or.inr (by simp)) (cnC ⟨clean, keep, props, id, hasWill, wp, topic, pay, qos, ret, hasUser, hasPass, user, pass⟩ (.slice A3 props.length n3) (.slice A2 wp.length n2)).toArray
        have W2 := Lib.hid (V2x.fr gs (fun k hk e => by have := HK2.out k hk; simp at e; omega))
        refine hK.out _ _ (fun _ => ⟨gw.cell e0 (by simp), gw.cell e1 (by simp), gw.cell e2 (by simp), gw.cell e3 (by simp), gw.cell e4 (by simp), gw.cell e10 (by simp), gw.cell e11 (by simp), gw.cell e12 (by simp), gw.cell e13 (by simp), gw.cell m0 (by simp; omega), gw.cell m1 (by simp; omega), gw.cell m2 (by simp; omega), gw.cell m3 (by simp; omega), gw.cell m4 (by simp; omega)⟩) (fun hHeld => ?_)
        replace hHeld := hHeld (by kernel_rfl)
        clear hK K
        try simp only [Act.put, List.getElem_toArray, List.getElem_cons_succ, List.getElem_cons_zero, List.setIfInBounds_toArray, List.set_cons_zero, List.set_cons_succ]
        refine wpLate_done (by kernel_rfl) ?_ _
        clear hHeld e0 e1 e2 e3 e4 e10 e11 e12 e13 m0 m1 m2 m3 m4
        go_wp2
        generalize x1.setRow (w.heap.size + 1) (cnC ⟨clean, keep, props, id, hasWill, wp, topic, pay, qos, ret, hasUser, hasPass, user, pass⟩ (.slice A3 props.length n3) (.slice A2 wp.length n2)).toArray = W5 at *
        have hz : W5.cell? ⟨w.heap.size + 1, 0, none⟩ = some (.bool clean) ∧ W5.cell? ⟨w.heap.size + 1, 1, none⟩ = some (.int .u32 (keep : Int)) ∧ W5.cell? ⟨w.heap.size + 1, 2, none⟩ = some (.slice A3 props.length n3) ∧ W5.cell? ⟨w.heap.size + 1, 3, none⟩ = some (.string ⟨id.toArray⟩) ∧ W5.cell? ⟨w.heap.size + 1, 4, none⟩ = some (.bool hasWill) ∧ W5.cell? ⟨w.heap.size + 1, 5, none⟩ = some (.slice A2 wp.length n2) ∧ W5.cell? ⟨w.heap.size + 1, 6, none⟩ = some (.string ⟨topic.toArray⟩) ∧ W5.cell? ⟨w.heap.size + 1, 7, none⟩ = some (.string ⟨pay.toArray⟩) ∧ W5.cell? ⟨w.heap.size + 1, 8, none⟩ = some (.int .u8 (qos : Int)) ∧ W5.cell? ⟨w.heap.size + 1, 9, none⟩ = some (.bool ret) ∧ W5.cell? ⟨w.heap.size + 1, 10, none⟩ = some (.bool hasUser) ∧ W5.cell? ⟨w.heap.size + 1, 11, none⟩ = some (.bool hasPass) ∧ W5.cell? ⟨w.heap.size + 1, 12, none⟩ = some (.string ⟨user.toArray⟩) ∧ W5.cell? ⟨w.heap.size + 1, 13, none⟩ = some (.string ⟨pass.toArray⟩) := (blk14n_facts HZ.out).1
        obtain ⟨e0, e1, e2, e3, e4, e5, e6, e7, e8, e9, e10, e11, e12, e13⟩ := hz
        refine bodyPost_ret (v := .agg #[.bool clean, .int .u32 (keep : Int), .slice A3 props.length n3, .string ⟨id.toArray⟩, .bool hasWill, .slice A2 wp.length n2, .string ⟨topic.toArray⟩, .string ⟨pay.toArray⟩, .int .u8 (qos : Int), .bool ret, .bool hasUser, .bool hasPass, .string ⟨user.toArray⟩, .string ⟨pass.toArray⟩]) (by simp [results, Try.results30, go_sem, e0, e1, e2, e3, e4, e5, e6, e7, e8, e9, e10, e11, e12, e13]) rfl ?_
        exact ⟨_, _, rfl, W3.out, W2.out, FZ.out, fun k hk => by have := hlow k hk; omega, fun k hk => by have := HK2.out k hk; omega⟩
      exact AllLate.nil
    exact AllLate.nil
end Go.Proofs.Ytlhkgalmiajinaa
