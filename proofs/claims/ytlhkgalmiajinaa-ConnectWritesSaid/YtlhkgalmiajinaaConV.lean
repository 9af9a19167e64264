/- Few of law06. Conditions: strings that may be. -/
import Derived.Test.YtlhkgalmiajinaaConT
import Derived.Test.YtlhkgalmiajinaaCut
namespace Go.Proofs.Ytlhkgalmiajinaa
open Go.RowKit
set_option linter.unusedVariables false
set_option linter.unusedSimpArgs false

def fewC (c : Cn) : Cn := ⟨c.clean, c.keep, fewR c.props, c.id.take 30, c.hasWill, fewR c.wp, c.topic.take 30, c.pay.take 30, c.qos, c.ret, c.hasUser, c.hasPass, c.user.take 30, c.pass.take 30⟩
/-- While a connect is cut: it stands behind w, the result behind it. -/
structure FwS (w : World) (c : Cn) (v u : Value) (y : World) : Prop where
  p : y.heap[w.heap.size]? = some (.cells (cnC c v u).toArray 48 (0, 0))
  a : y.heap[w.heap.size + 1]? = some (.cells #[.bool false, .int .u32 0, .slice none 0 0, .string ⟨#[]⟩, .bool false, .slice none 0 0, .string ⟨#[]⟩, .string ⟨#[]⟩, .int .u8 0, .bool false, .bool false, .bool false, .string ⟨#[]⟩, .string ⟨#[]⟩] 48 (0, 0))
  f : Fr [] w y
  vv : View y v c.props.length (c.props.flatMap prE)
  vk : ∀ k, v.ownBlock = some k → w.heap.size + 1 < k
  uv : View y u c.wp.length (c.wp.flatMap prE)
  uk : ∀ k, u.ownBlock = some k → w.heap.size + 1 < k
theorem FwS.go {w y y' : World} {c : Cn} {v u : Value} (h : FwS w c v u y) (g : Fr [] y y') : FwS w c v u y' :=
  ⟨g.blk h.p (by simp), g.blk h.a (by simp), h.f.trans g (by simp), h.vv.old g (by simp), h.vk, h.uv.old g (by simp), h.uk⟩
theorem FwS.set {w y : World} {c : Cn} {v u : Value} (h : FwS w c v u y) (i : Nat) (x : Value) (c' : Cn) (hc : (cnC c v u).toArray.setIfInBounds i x = (cnC c' v u).toArray) (hp : c'.props = c.props) (hw : c'.wp = c.wp) : FwS w c' v u (y.setCell ⟨w.heap.size, i, none⟩ x) := by
  have g : Fr [w.heap.size] y (y.setCell ⟨w.heap.size, i, none⟩ x) := (Fr.refl _ _).setCell (Or.inr (by simp)) x
  refine ⟨by rw [← hc]; exact blk_set h.p i x, g.blk h.a (by simp), h.f.trans g (by intro x hx e; simp at e; omega), ?_, h.vk, ?_, h.uk⟩
  · rw [hp]; exact h.vv.fr g (fun k hk e => by have := h.vk k hk; simp at e; omega)
  · rw [hw]; exact h.uv.fr g (fun k hk e => by have := h.uk k hk; simp at e; omega)
theorem FwS.facts {w y : World} {clean : Bool} {keep : Nat} {props : List Pr} {id : List UInt8} {hasWill : Bool} {wp : List Pr} {topic pay : List UInt8} {qos : Nat} {ret hasUser hasPass : Bool} {user pass : List UInt8} {v u : Value} (h : FwS w ⟨clean, keep, props, id, hasWill, wp, topic, pay, qos, ret, hasUser, hasPass, user, pass⟩ v u y) : ((fun w' => w'.cell? ⟨w.heap.size, 0, none⟩ = some (.bool clean) ∧ w'.cell? ⟨w.heap.size, 1, none⟩ = some (.int .u32 (keep : Int)) ∧ w'.cell? ⟨w.heap.size, 2, none⟩ = some (v) ∧ w'.cell? ⟨w.heap.size, 3, none⟩ = some (.string ⟨id.toArray⟩) ∧ w'.cell? ⟨w.heap.size, 4, none⟩ = some (.bool hasWill) ∧ w'.cell? ⟨w.heap.size, 5, none⟩ = some (u) ∧ w'.cell? ⟨w.heap.size, 6, none⟩ = some (.string ⟨topic.toArray⟩) ∧ w'.cell? ⟨w.heap.size, 7, none⟩ = some (.string ⟨pay.toArray⟩) ∧ w'.cell? ⟨w.heap.size, 8, none⟩ = some (.int .u8 (qos : Int)) ∧ w'.cell? ⟨w.heap.size, 9, none⟩ = some (.bool ret) ∧ w'.cell? ⟨w.heap.size, 10, none⟩ = some (.bool hasUser) ∧ w'.cell? ⟨w.heap.size, 11, none⟩ = some (.bool hasPass) ∧ w'.cell? ⟨w.heap.size, 12, none⟩ = some (.string ⟨user.toArray⟩) ∧ w'.cell? ⟨w.heap.size, 13, none⟩ = some (.string ⟨pass.toArray⟩)) y) ∧ (y.frozen? ⟨w.heap.size, 0, none⟩ = false ∧ y.frozen? ⟨w.heap.size, 1, none⟩ = false ∧ y.frozen? ⟨w.heap.size, 2, none⟩ = false ∧ y.frozen? ⟨w.heap.size, 3, none⟩ = false ∧ y.frozen? ⟨w.heap.size, 4, none⟩ = false ∧ y.frozen? ⟨w.heap.size, 5, none⟩ = false ∧ y.frozen? ⟨w.heap.size, 6, none⟩ = false ∧ y.frozen? ⟨w.heap.size, 7, none⟩ = false ∧ y.frozen? ⟨w.heap.size, 8, none⟩ = false ∧ y.frozen? ⟨w.heap.size, 9, none⟩ = false ∧ y.frozen? ⟨w.heap.size, 10, none⟩ = false ∧ y.frozen? ⟨w.heap.size, 11, none⟩ = false ∧ y.frozen? ⟨w.heap.size, 12, none⟩ = false ∧ y.frozen? ⟨w.heap.size, 13, none⟩ = false) ∧ w.heap.size < y.heap.size := blk14n_facts h.p
set_option maxRecDepth 100000 in
set_option maxHeartbeats 4000000 in
theorem few6_any (c : Cn) (v u : Value) (w : World) (hv : View w v c.props.length (c.props.flatMap prE)) (hu : View w u c.wp.length (c.wp.flatMap prE)) (hl : c.props.length ≤ 9223372036854775807) (hl2 : c.wp.length ≤ 9223372036854775807)
    (hok : ∀ x ∈ c.props, x.s.length ≤ 9223372036854775807 ∧ x.t.length ≤ 9223372036854775807) (hok2 : ∀ x ∈ c.wp, x.s.length ≤ 9223372036854775807 ∧ x.t.length ≤ 9223372036854775807)
    (hi : c.id.length ≤ 9223372036854775807) (ht : c.topic.length ≤ 9223372036854775807) (hp : c.pay.length ≤ 9223372036854775807) (hus : c.user.length ≤ 9223372036854775807) (hps : c.pass.length ≤ 9223372036854775807) :
    Calls Try.prog 31 #[.agg (cnC c v u).toArray] w (TdTo (fewC c) w) := by
  obtain ⟨clean, keep, props, id, hasWill, wp, topic, pay, qos, ret, hasUser, hasPass, user, pass⟩ := c
  dsimp only at hv hu hl hl2 hok hok2 hi ht hp hus hps
  have HV := Lib.hid hv
  have HU := Lib.hid hu
  have HO := Lib.hid hok
  have HO2 := Lib.hid hok2
  obtain ⟨A0, n0, rfl⟩ := view_shape hv
  obtain ⟨A1, n1, rfl⟩ := view_shape hu
  have hb0 := blk_old (blk_new w (.cells (cnC ⟨clean, keep, props, id, hasWill, wp, topic, pay, qos, ret, hasUser, hasPass, user, pass⟩ (.slice A0 props.length n0) (.slice A1 wp.length n1)).toArray 48)) (.cells #[.bool false, .int .u32 0, .slice none 0 0, .string ⟨#[]⟩, .bool false, .slice none 0 0, .string ⟨#[]⟩, .string ⟨#[]⟩, .int .u8 0, .bool false, .bool false, .bool false, .string ⟨#[]⟩, .string ⟨#[]⟩] 48)
  have hr0 := blk_at1 w (.cells (cnC ⟨clean, keep, props, id, hasWill, wp, topic, pay, qos, ret, hasUser, hasPass, user, pass⟩ (.slice A0 props.length n0) (.slice A1 wp.length n1)).toArray 48) (.cells #[.bool false, .int .u32 0, .slice none 0 0, .string ⟨#[]⟩, .bool false, .slice none 0 0, .string ⟨#[]⟩, .string ⟨#[]⟩, .int .u8 0, .bool false, .bool false, .bool false, .string ⟨#[]⟩, .string ⟨#[]⟩] 48)
  have F0 : Fr [] w ((w.alloc (.cells (cnC ⟨clean, keep, props, id, hasWill, wp, topic, pay, qos, ret, hasUser, hasPass, user, pass⟩ (.slice A0 props.length n0) (.slice A1 wp.length n1)).toArray 48)).alloc (.cells #[.bool false, .int .u32 0, .slice none 0 0, .string ⟨#[]⟩, .bool false, .slice none 0 0, .string ⟨#[]⟩, .string ⟨#[]⟩, .int .u8 0, .bool false, .bool false, .bool false, .string ⟨#[]⟩, .string ⟨#[]⟩] 48)) := ((Fr.refl _ _).alloc _).alloc _
  unfold cnC at hb0 hr0 F0 ⊢
  clear hv hu hok hok2
  go_enter Try.func31, Try.ntmps31
  go_upto_region 1 with (fail)
  obtain ⟨y, hy⟩ : ∃ y, (w.alloc (.cells #[.bool clean, .int .u32 (keep : Int), .slice A0 props.length n0, .string ⟨id.toArray⟩, .bool hasWill, .slice A1 wp.length n1, .string ⟨topic.toArray⟩, .string ⟨pay.toArray⟩, .int .u8 (qos : Int), .bool ret, .bool hasUser, .bool hasPass, .string ⟨user.toArray⟩, .string ⟨pass.toArray⟩] 48)).alloc (.cells #[.bool false, .int .u32 0, .slice none 0 0, .string ⟨#[]⟩, .bool false, .slice none 0 0, .string ⟨#[]⟩, .string ⟨#[]⟩, .int .u8 0, .bool false, .bool false, .bool false, .string ⟨#[]⟩, .string ⟨#[]⟩] 48) = y := ⟨_, rfl⟩
  rw [hy] at hb0 hr0 F0 ⊢
  clear hy
  have HB := Lib.hid hb0
  have HRR := Lib.hid hr0
  have HF := Lib.hid F0
  have hyl := blk_lt hr0
  clear hb0 hr0 F0
  obtain ⟨⟨e0, e1, e2, e3, e4, e5, e6, e7, e8, e9, e10, e11, e12, e13⟩, ⟨k0, k1, k2, k3, k4, k5, k6, k7, k8, k9, k10, k11, k12, k13⟩, _⟩ := blk14n_facts (HB.out)
  clear e0 e1 e3 e4 e6 e7 e8 e9 e10 e11 e12 e13 k0 k1 k2 k3 k4 k5 k6 k7 k8 k9 k10 k11 k12 k13
  obtain ⟨FR, hFR⟩ : ∃ FR, FR = (fun wx => ∃ v u, FwS w ⟨clean, keep, fewR props, id, hasWill, fewR wp, topic, pay, qos, ret, hasUser, hasPass, user, pass⟩ v u wx) := ⟨_, rfl⟩
  go_cut [] (fun wx => FR wx)
  case first =>
    refine wp_region_late [8, 11] (S := fun w' => w'.cell? ⟨w.heap.size, 2, none⟩ = some (.slice A0 props.length n0) ∧ w'.cell? ⟨w.heap.size, 5, none⟩ = some (.slice A1 wp.length n1)) (by kernel_rfl) ⟨e2, e5⟩ (fun hHeld => ?_)
    have fd := (Fr.refl [] y).drew
    obtain ⟨wd, hwd⟩ : ∃ wd, y.drew = wd := ⟨_, rfl⟩
    rw [hwd] at hHeld fd ⊢
    clear hwd e2 e5
    obtain ⟨e2, e5⟩ := hHeld
    have hHeld := And.intro e2 e5
    refine wpLate_take (i := 0) (oi := _) (v := ?_) rfl (by kernel_rfl) (by kernel_rfl) (by kernel_rfl) (by kernel_rfl) (fun _ _ _ h => h) (Gives.load (by rfl) ?_) hHeld ?_
    rotate_left
    · intro w hSw
      (try dsimp only at hSw)
      go_simp
      try with_reducible rfl
    try simp only [Act.put, List.getElem_toArray, List.getElem_cons_succ, List.getElem_cons_zero, List.setIfInBounds_toArray, List.set_cons_zero, List.set_cons_succ]
    refine wpLate_take (i := 1) (oi := _) (v := ?_) rfl (by kernel_rfl) (by kernel_rfl) (by kernel_rfl) (by kernel_rfl) (fun _ _ _ h => h) (Gives.load (by rfl) ?_) hHeld ?_
    rotate_left
    · intro w hSw
      (try dsimp only at hSw)
      go_simp
      try with_reducible rfl
    try simp only [Act.put, List.getElem_toArray, List.getElem_cons_succ, List.getElem_cons_zero, List.setIfInBounds_toArray, List.set_cons_zero, List.set_cons_succ]
    refine wpLate_take (i := 3) (oi := _) (v := ?_) rfl (by kernel_rfl) (by kernel_rfl) (by kernel_rfl) (by kernel_rfl) (fun _ _ _ h => h) (Gives.load (by rfl) ?_) hHeld ?_
    rotate_left
    · intro w hSw
      (try dsimp only at hSw)
      go_simp
      try with_reducible rfl
    try simp only [Act.put, List.getElem_toArray, List.getElem_cons_succ, List.getElem_cons_zero, List.setIfInBounds_toArray, List.set_cons_zero, List.set_cons_succ]
    refine wpLate_take (i := 4) (oi := _) (v := ?_) rfl (by kernel_rfl) (by kernel_rfl) (by kernel_rfl) (by kernel_rfl) (fun _ _ _ h => h) (Gives.load (by rfl) ?_) hHeld ?_
    rotate_left
    · intro w hSw
      (try dsimp only at hSw)
      go_simp
      try with_reducible rfl
    try simp only [Act.put, List.getElem_toArray, List.getElem_cons_succ, List.getElem_cons_zero, List.setIfInBounds_toArray, List.set_cons_zero, List.set_cons_succ]
    refine wpLate_take (i := 5) (oi := _) (v := ?_) rfl (by kernel_rfl) (by kernel_rfl) (by kernel_rfl) (by kernel_rfl) (fun _ _ _ h => h) (Gives.load (by rfl) ?_) hHeld ?_
    rotate_left
    · intro w hSw
      (try dsimp only at hSw)
      go_simp
      try with_reducible rfl
    try simp only [Act.put, List.getElem_toArray, List.getElem_cons_succ, List.getElem_cons_zero, List.setIfInBounds_toArray, List.set_cons_zero, List.set_cons_succ]
    refine wpLate_ready (rs := [2]) (by kernel_rfl) (by simp) ?_
    refine AllLate.cons (o := _) rfl (fun K hK => ?_) ?_
    · go_simp
      refine (few_any _ props _ (HV.out.old (HF.out.trans fd (by simp)) (by simp)) hl HO.out).mono ?_
      rintro _ x1 ⟨v2, rfl, own2, f1⟩
      obtain ⟨A2, n2, rfl⟩ := own_shape own2
      have V2 := own_view own2
      have low2 := own_low own2
      go_wp2_with fail
      refine hK.out _ _ (fun _ => ⟨f1.cell e2 (by simp), f1.cell e5 (by simp)⟩) (fun hHeld => ?_)
      replace hHeld := hHeld (by kernel_rfl)
      clear hK K
      try simp only [Act.put, List.getElem_toArray, List.getElem_cons_succ, List.getElem_cons_zero, List.setIfInBounds_toArray, List.set_cons_zero, List.set_cons_succ]
      have hHeld1 := hHeld
      refine wpLate_pure (i := 7) (oi := _) (v := ?_) rfl (by kernel_rfl) (by kernel_rfl) (by kernel_rfl) (by kernel_rfl) (fun _ _ _ h => h) (Gives.load (by rfl) ?_) (fun _ => hHeld) ?_
      rotate_left
      · intro w hSw
        clear hSw
        go_simp
        try with_reducible rfl
      try simp only [Act.put, List.getElem_toArray, List.getElem_cons_succ, List.getElem_cons_zero, List.setIfInBounds_toArray, List.set_cons_zero, List.set_cons_succ]
      refine wpLate_ready (rs := [6]) (by kernel_rfl) (by simp) ?_
      refine AllLate.cons (o := _) rfl (fun K hK => ?_) ?_
      · go_simp
        refine (few_any _ wp _ (HU.out.old ((HF.out.trans fd (by simp)).trans f1 (by simp)) (by simp)) hl2 HO2.out).mono ?_
        rintro _ x2 ⟨v3, rfl, own3, f2⟩
        obtain ⟨A3, n3, rfl⟩ := own_shape own3
        have V3 := own_view own3
        have low3 := own_low own3
        go_wp2_with fail
        refine hK.out _ _ (fun _ => ⟨f2.cell hHeld1.1 (by simp), f2.cell hHeld1.2 (by simp)⟩) (fun hHeld => ?_)
        replace hHeld := hHeld (by kernel_rfl)
        clear hK K
        try simp only [Act.put, List.getElem_toArray, List.getElem_cons_succ, List.getElem_cons_zero, List.setIfInBounds_toArray, List.set_cons_zero, List.set_cons_succ]
        have hb3 := f2.blk (f1.blk (fd.blk HB.out (by simp)) (by simp)) (by simp)
        have hr3 := f2.blk (f1.blk (fd.blk HRR.out (by simp)) (by simp)) (by simp)
        have F3 := ((HF.out.trans fd (by simp)).trans f1 (by simp)).trans f2 (by simp)
        have V2' := V2.old f2 (by simp)
        have sz1 := fd.size
        have sz2 := f1.size
        obtain ⟨⟨q0, q1, e2', q3, q4, e5', _⟩, ⟨z0, z1, k2', z3, z4, k5', _⟩, _⟩ := blk14n_facts hb3
        clear q0 q1 q3 q4 z0 z1 z3 z4
        refine wpLate_ready (rs := [8]) (by kernel_rfl) (by simp) ?_
        refine AllLate.cons (o := _) rfl (fun K hK => ?_) ?_
        · go_simp
          refine hK.out _ _ (fun h => absurd h (by decide)) (fun hHeld => ?_)
          clear hK K
          try simp only [Act.put, List.getElem_toArray, List.getElem_cons_succ, List.getElem_cons_zero, List.setIfInBounds_toArray, List.set_cons_zero, List.set_cons_succ]
          refine wpLate_pure (i := 9) (oi := _) (v := ?_) rfl (by kernel_rfl) (by kernel_rfl) (by kernel_rfl) (by kernel_rfl) (fun _ _ _ h => h) (Gives.load (by rfl) ?_) (fun h => absurd h (by decide)) ?_
          rotate_left
          · intro w hSw
            clear hSw
            go_simp
            try with_reducible rfl
          try simp only [Act.put, List.getElem_toArray, List.getElem_cons_succ, List.getElem_cons_zero, List.setIfInBounds_toArray, List.set_cons_zero, List.set_cons_succ]
          refine wpLate_pure (i := 10) (oi := _) (v := ?_) rfl (by kernel_rfl) (by kernel_rfl) (by kernel_rfl) (by kernel_rfl) (fun _ _ _ h => h) (Gives.load (by rfl) ?_) (fun h => absurd h (by decide)) ?_
          rotate_left
          · intro w hSw
            clear hSw
            go_simp
            try with_reducible rfl
          try simp only [Act.put, List.getElem_toArray, List.getElem_cons_succ, List.getElem_cons_zero, List.setIfInBounds_toArray, List.set_cons_zero, List.set_cons_succ]
          refine wpLate_ready (rs := [11]) (by kernel_rfl) (by simp) ?_
          refine AllLate.cons (o := _) rfl (fun K hK => ?_) ?_
          · go_simp
            refine hK.out _ _ (fun h => absurd h (by decide)) (fun hHeld => ?_)
            clear hK K
            try simp only [Act.put, List.getElem_toArray, List.getElem_cons_succ, List.getElem_cons_zero, List.setIfInBounds_toArray, List.set_cons_zero, List.set_cons_succ]
            refine wpLate_done (by kernel_rfl) ?_ _
            go_wp2_with fail
            go_meet
            rw [hFR]
            have gs : Fr [w.heap.size] x2 ((x2.setCell ⟨w.heap.size, 2, none⟩ (.slice A2 (fewR props).length n2)).setCell ⟨w.heap.size, 5, none⟩ (.slice A3 (fewR wp).length n3)) := ((Fr.refl _ _).setCell (Or.inr (by simp)) _).setCell (Or.inr (by simp)) _
            exact ⟨_, _, blk_set (blk_set hb3 2 _) 5 _, gs.blk hr3 (by simp), F3.trans gs (by intro x hx e; simp at e; omega), V2'.fr gs (fun k hk e => by have := low2 k hk; simp at e; omega), fun k hk => by have := low2 k hk; omega, V3.fr gs (fun k hk e => by have := low3 k hk; simp at e; omega), fun k hk => by have := low3 k hk; omega⟩
          exact AllLate.nil
        exact AllLate.nil
      exact AllLate.nil
    exact AllLate.nil
  case rest =>
    rw [hFR] at hcut
    obtain ⟨v2, u2, H1⟩ := hcut
    obtain ⟨A2, n2, rfl⟩ := view_shape H1.vv
    obtain ⟨A3, n3, rfl⟩ := view_shape H1.uv
    dsimp only at H1 ⊢
    have Q1 := Lib.hid H1
    clear H1 hFR e2 e5 HV HU HO HO2 HB HRR HF
    obtain ⟨⟨e0, e1, e2, e3, e4, e5, e6, e7, e8, e9, e10, e11, e12, e13⟩, ⟨k0, k1, k2, k3, k4, k5, k6, k7, k8, k9, k10, k11, k12, k13⟩, hcl_⟩ := (Q1.out.facts)
    clear e0 e1 e2 e4 e5 e6 e7 e8 e9 e10 e11
    go_upto_region 2 with (fail)
    go_cut [] (fun wx => FwS w ⟨clean, keep, fewR props, id.take 30, hasWill, fewR wp, topic, pay, qos, ret, hasUser, hasPass, user.take 30, pass.take 30⟩ (.slice A2 (fewR props).length n2) (.slice A3 (fewR wp).length n3) wx)
    case first =>
      generalize wc = z at *
      have Q2 := Lib.hid (Q1.out.go ((Fr.refl [] z).drew))
      refine wp_region_late [10, 12, 14] (S := fun w' => w'.cell? ⟨w.heap.size, 3, none⟩ = some (.string ⟨id.toArray⟩) ∧ w'.cell? ⟨w.heap.size, 12, none⟩ = some (.string ⟨user.toArray⟩) ∧ w'.cell? ⟨w.heap.size, 13, none⟩ = some (.string ⟨pass.toArray⟩)) (by kernel_rfl) ⟨e3, e12, e13⟩ (fun hHeld => ?_)
      obtain ⟨wd, hwd⟩ : ∃ wd, z.drew = wd := ⟨_, rfl⟩
      rw [hwd] at hHeld Q2 ⊢
      clear hwd e3 e12 e13 k0 k1 k2 k3 k4 k5 k6 k7 k8 k9 k10 k11 k12 k13 hcl_
      refine wpLate_take (i := 0) (oi := _) (v := ?_) rfl (by kernel_rfl) (by kernel_rfl) (by kernel_rfl) (by kernel_rfl) (fun _ _ _ h => h) (Gives.load (by rfl) ?_) hHeld ?_
      rotate_left
      · intro w hSw
        (try dsimp only at hSw)
        go_simp
        try with_reducible rfl
      try simp only [Act.put, List.getElem_toArray, List.getElem_cons_succ, List.getElem_cons_zero, List.setIfInBounds_toArray, List.set_cons_zero, List.set_cons_succ]
      refine wpLate_take (i := 1) (oi := _) (v := ?_) rfl (by kernel_rfl) (by kernel_rfl) (by kernel_rfl) (by kernel_rfl) (fun _ _ _ h => h) (Gives.load (by rfl) ?_) hHeld ?_
      rotate_left
      · intro w hSw
        (try dsimp only at hSw)
        go_simp
        try with_reducible rfl
      try simp only [Act.put, List.getElem_toArray, List.getElem_cons_succ, List.getElem_cons_zero, List.setIfInBounds_toArray, List.set_cons_zero, List.set_cons_succ]
      refine wpLate_take (i := 3) (oi := _) (v := ?_) rfl (by kernel_rfl) (by kernel_rfl) (by kernel_rfl) (by kernel_rfl) (fun _ _ _ h => h) (Gives.load (by rfl) ?_) hHeld ?_
      rotate_left
      · intro w hSw
        (try dsimp only at hSw)
        go_simp
        try with_reducible rfl
      try simp only [Act.put, List.getElem_toArray, List.getElem_cons_succ, List.getElem_cons_zero, List.setIfInBounds_toArray, List.set_cons_zero, List.set_cons_succ]
      refine wpLate_take (i := 4) (oi := _) (v := ?_) rfl (by kernel_rfl) (by kernel_rfl) (by kernel_rfl) (by kernel_rfl) (fun _ _ _ h => h) (Gives.load (by rfl) ?_) hHeld ?_
      rotate_left
      · intro w hSw
        (try dsimp only at hSw)
        go_simp
        try with_reducible rfl
      try simp only [Act.put, List.getElem_toArray, List.getElem_cons_succ, List.getElem_cons_zero, List.setIfInBounds_toArray, List.set_cons_zero, List.set_cons_succ]
      refine wpLate_take (i := 6) (oi := _) (v := ?_) rfl (by kernel_rfl) (by kernel_rfl) (by kernel_rfl) (by kernel_rfl) (fun _ _ _ h => h) (Gives.load (by rfl) ?_) hHeld ?_
      rotate_left
      · intro w hSw
        (try dsimp only at hSw)
        go_simp
        try with_reducible rfl
      try simp only [Act.put, List.getElem_toArray, List.getElem_cons_succ, List.getElem_cons_zero, List.setIfInBounds_toArray, List.set_cons_zero, List.set_cons_succ]
      refine wpLate_take (i := 7) (oi := _) (v := ?_) rfl (by kernel_rfl) (by kernel_rfl) (by kernel_rfl) (by kernel_rfl) (fun _ _ _ h => h) (Gives.load (by rfl) ?_) hHeld ?_
      rotate_left
      · intro w hSw
        (try dsimp only at hSw)
        go_simp
        try with_reducible rfl
      try simp only [Act.put, List.getElem_toArray, List.getElem_cons_succ, List.getElem_cons_zero, List.setIfInBounds_toArray, List.set_cons_zero, List.set_cons_succ]
      refine wpLate_pure (i := 2) (oi := _) (v := .string ⟨(id.take 30).toArray⟩) rfl (by kernel_rfl) (by kernel_rfl) (by kernel_rfl) (by kernel_rfl) (fun _ _ _ h => h) (Gives.quiet 36 #[.string ⟨id.toArray⟩, .int .i64 30] (by rfl) ?_ (fun w => cut_any id 30 w hi (by decide))) (fun _ => hHeld) ?_
      · intro w
        go_simp
      try simp only [Act.put, List.getElem_toArray, List.getElem_cons_succ, List.getElem_cons_zero, List.setIfInBounds_toArray, List.set_cons_zero, List.set_cons_succ]
      refine wpLate_pure (i := 9) (oi := _) (v := ?_) rfl (by kernel_rfl) (by kernel_rfl) (by kernel_rfl) (by kernel_rfl) (fun _ _ _ h => h) (Gives.load (by rfl) ?_) (fun _ => hHeld) ?_
      rotate_left
      · intro w hSw
        clear hSw
        go_simp
        try with_reducible rfl
      try simp only [Act.put, List.getElem_toArray, List.getElem_cons_succ, List.getElem_cons_zero, List.setIfInBounds_toArray, List.set_cons_zero, List.set_cons_succ]
      refine wpLate_pure (i := 5) (oi := _) (v := .string ⟨(user.take 30).toArray⟩) rfl (by kernel_rfl) (by kernel_rfl) (by kernel_rfl) (by kernel_rfl) (fun _ _ _ h => h) (Gives.quiet 36 #[.string ⟨user.toArray⟩, .int .i64 30] (by rfl) ?_ (fun w => cut_any user 30 w hus (by decide))) (fun _ => hHeld) ?_
      · intro w
        go_simp
      try simp only [Act.put, List.getElem_toArray, List.getElem_cons_succ, List.getElem_cons_zero, List.setIfInBounds_toArray, List.set_cons_zero, List.set_cons_succ]
      refine wpLate_pure (i := 8) (oi := _) (v := .string ⟨(pass.take 30).toArray⟩) rfl (by kernel_rfl) (by kernel_rfl) (by kernel_rfl) (by kernel_rfl) (fun _ _ _ h => h) (Gives.quiet 36 #[.string ⟨pass.toArray⟩, .int .i64 30] (by rfl) ?_ (fun w => cut_any pass 30 w hps (by decide))) (fun _ => hHeld) ?_
      · intro w
        go_simp
      try simp only [Act.put, List.getElem_toArray, List.getElem_cons_succ, List.getElem_cons_zero, List.setIfInBounds_toArray, List.set_cons_zero, List.set_cons_succ]
      obtain ⟨⟨q0, q1, q2, e3, q4, q5, q6, q7, q8, q9, q10, q11, e12, e13⟩, ⟨z0, z1, z2, k3, z4, z5, z6, z7, z8, z9, z10, z11, k12, k13⟩, hcl_⟩ := Q2.out.facts
      clear q0 q1 q2 q4 q5 q6 q7 q8 q9 q10 q11 z0 z1 z2 z4 z5 z6 z7 z8 z9 z10 z11
      refine wpLate_ready (rs := [10]) (by kernel_rfl) (by simp) ?_
      refine AllLate.cons (o := _) rfl (fun K hK => ?_) ?_
      · go_simp
        refine hK.out _ _ (fun h => absurd h (by decide)) (fun hHeld => ?_)
        clear hK K
        try simp only [Act.put, List.getElem_toArray, List.getElem_cons_succ, List.getElem_cons_zero, List.setIfInBounds_toArray, List.set_cons_zero, List.set_cons_succ]
        refine wpLate_pure (i := 11) (oi := _) (v := ?_) rfl (by kernel_rfl) (by kernel_rfl) (by kernel_rfl) (by kernel_rfl) (fun _ _ _ h => h) (Gives.load (by rfl) ?_) (fun h => absurd h (by decide)) ?_
        rotate_left
        · intro w hSw
          clear hSw
          go_simp
          try with_reducible rfl
        try simp only [Act.put, List.getElem_toArray, List.getElem_cons_succ, List.getElem_cons_zero, List.setIfInBounds_toArray, List.set_cons_zero, List.set_cons_succ]
        refine wpLate_ready (rs := [12]) (by kernel_rfl) (by simp) ?_
        refine AllLate.cons (o := _) rfl (fun K hK => ?_) ?_
        · go_simp
          refine hK.out _ _ (fun h => absurd h (by decide)) (fun hHeld => ?_)
          clear hK K
          try simp only [Act.put, List.getElem_toArray, List.getElem_cons_succ, List.getElem_cons_zero, List.setIfInBounds_toArray, List.set_cons_zero, List.set_cons_succ]
          refine wpLate_pure (i := 13) (oi := _) (v := ?_) rfl (by kernel_rfl) (by kernel_rfl) (by kernel_rfl) (by kernel_rfl) (fun _ _ _ h => h) (Gives.load (by rfl) ?_) (fun h => absurd h (by decide)) ?_
          rotate_left
          · intro w hSw
            clear hSw
            go_simp
            try with_reducible rfl
          try simp only [Act.put, List.getElem_toArray, List.getElem_cons_succ, List.getElem_cons_zero, List.setIfInBounds_toArray, List.set_cons_zero, List.set_cons_succ]
          refine wpLate_ready (rs := [14]) (by kernel_rfl) (by simp) ?_
          refine AllLate.cons (o := _) rfl (fun K hK => ?_) ?_
          · go_simp
            refine hK.out _ _ (fun h => absurd h (by decide)) (fun hHeld => ?_)
            clear hK K
            try simp only [Act.put, List.getElem_toArray, List.getElem_cons_succ, List.getElem_cons_zero, List.setIfInBounds_toArray, List.set_cons_zero, List.set_cons_succ]
            refine wpLate_done (by kernel_rfl) ?_ _
            go_wp2_with fail
            go_meet
            exact ((Q2.out.set 3 _ ⟨clean, keep, fewR props, id.take 30, hasWill, fewR wp, topic, pay, qos, ret, hasUser, hasPass, user, pass⟩ rfl rfl rfl).set 12 _ ⟨clean, keep, fewR props, id.take 30, hasWill, fewR wp, topic, pay, qos, ret, hasUser, hasPass, user.take 30, pass⟩ rfl rfl rfl).set 13 _ ⟨clean, keep, fewR props, id.take 30, hasWill, fewR wp, topic, pay, qos, ret, hasUser, hasPass, user.take 30, pass.take 30⟩ rfl rfl rfl
          exact AllLate.nil
        exact AllLate.nil
      exact AllLate.nil
    case rest =>
      have Q3 := Lib.hid hcut
      clear hcut Q1
      obtain ⟨⟨e0, e1, e2, e3, e4, e5, e6, e7, e8, e9, e10, e11, e12, e13⟩, ⟨k0, k1, k2, k3, k4, k5, k6, k7, k8, k9, k10, k11, k12, k13⟩, hcl_⟩ := (Q3.out.facts)
      clear e0 e1 e2 e3 e4 e5 e8 e9 e10 e11 e12 e13
      go_upto_region 3 with (fail)
      go_cut [] (fun wx => FwS w ⟨clean, keep, fewR props, id.take 30, hasWill, fewR wp, topic.take 30, pay.take 30, qos, ret, hasUser, hasPass, user.take 30, pass.take 30⟩ (.slice A2 (fewR props).length n2) (.slice A3 (fewR wp).length n3) wx)
      case first =>
        generalize wc = z at *
        have Q2 := Lib.hid (Q3.out.go ((Fr.refl [] z).drew))
        refine wp_region_late [10, 13] (S := fun w' => w'.cell? ⟨w.heap.size, 6, none⟩ = some (.string ⟨topic.toArray⟩) ∧ w'.cell? ⟨w.heap.size, 7, none⟩ = some (.string ⟨pay.toArray⟩)) (by kernel_rfl) ⟨e6, e7⟩ (fun hHeld => ?_)
        obtain ⟨wd, hwd⟩ : ∃ wd, z.drew = wd := ⟨_, rfl⟩
        rw [hwd] at hHeld Q2 ⊢
        clear hwd e6 e7 k0 k1 k2 k3 k4 k5 k6 k7 k8 k9 k10 k11 k12 k13 hcl_
        refine wpLate_take (i := 0) (oi := _) (v := ?_) rfl (by kernel_rfl) (by kernel_rfl) (by kernel_rfl) (by kernel_rfl) (fun _ _ _ h => h) (Gives.load (by rfl) ?_) hHeld ?_
        rotate_left
        · intro w hSw
          (try dsimp only at hSw)
          go_simp
          try with_reducible rfl
        try simp only [Act.put, List.getElem_toArray, List.getElem_cons_succ, List.getElem_cons_zero, List.setIfInBounds_toArray, List.set_cons_zero, List.set_cons_succ]
        refine wpLate_take (i := 1) (oi := _) (v := ?_) rfl (by kernel_rfl) (by kernel_rfl) (by kernel_rfl) (by kernel_rfl) (fun _ _ _ h => h) (Gives.load (by rfl) ?_) hHeld ?_
        rotate_left
        · intro w hSw
          (try dsimp only at hSw)
          go_simp
          try with_reducible rfl
        try simp only [Act.put, List.getElem_toArray, List.getElem_cons_succ, List.getElem_cons_zero, List.setIfInBounds_toArray, List.set_cons_zero, List.set_cons_succ]
        refine wpLate_take (i := 2) (oi := _) (v := ?_) rfl (by kernel_rfl) (by kernel_rfl) (by kernel_rfl) (by kernel_rfl) (fun _ _ _ h => h) (Gives.load (by rfl) ?_) hHeld ?_
        rotate_left
        · intro w hSw
          (try dsimp only at hSw)
          go_simp
          try with_reducible rfl
        try simp only [Act.put, List.getElem_toArray, List.getElem_cons_succ, List.getElem_cons_zero, List.setIfInBounds_toArray, List.set_cons_zero, List.set_cons_succ]
        refine wpLate_take (i := 4) (oi := _) (v := ?_) rfl (by kernel_rfl) (by kernel_rfl) (by kernel_rfl) (by kernel_rfl) (fun _ _ _ h => h) (Gives.load (by rfl) ?_) hHeld ?_
        rotate_left
        · intro w hSw
          (try dsimp only at hSw)
          go_simp
          try with_reducible rfl
        try simp only [Act.put, List.getElem_toArray, List.getElem_cons_succ, List.getElem_cons_zero, List.setIfInBounds_toArray, List.set_cons_zero, List.set_cons_succ]
        refine wpLate_take (i := 5) (oi := _) (v := ?_) rfl (by kernel_rfl) (by kernel_rfl) (by kernel_rfl) (by kernel_rfl) (fun _ _ _ h => h) (Gives.load (by rfl) ?_) hHeld ?_
        rotate_left
        · intro w hSw
          (try dsimp only at hSw)
          go_simp
          try with_reducible rfl
        try simp only [Act.put, List.getElem_toArray, List.getElem_cons_succ, List.getElem_cons_zero, List.setIfInBounds_toArray, List.set_cons_zero, List.set_cons_succ]
        refine wpLate_take (i := 6) (oi := _) (v := ?_) rfl (by kernel_rfl) (by kernel_rfl) (by kernel_rfl) (by kernel_rfl) (fun _ _ _ h => h) (Gives.load (by rfl) ?_) hHeld ?_
        rotate_left
        · intro w hSw
          (try dsimp only at hSw)
          go_simp
          try with_reducible rfl
        try simp only [Act.put, List.getElem_toArray, List.getElem_cons_succ, List.getElem_cons_zero, List.setIfInBounds_toArray, List.set_cons_zero, List.set_cons_succ]
        refine wpLate_pure (i := 3) (oi := _) (v := .string ⟨(topic.take 30).toArray⟩) rfl (by kernel_rfl) (by kernel_rfl) (by kernel_rfl) (by kernel_rfl) (fun _ _ _ h => h) (Gives.quiet 36 #[.string ⟨topic.toArray⟩, .int .i64 30] (by rfl) ?_ (fun w => cut_any topic 30 w ht (by decide))) (fun _ => hHeld) ?_
        · intro w
          go_simp
        try simp only [Act.put, List.getElem_toArray, List.getElem_cons_succ, List.getElem_cons_zero, List.setIfInBounds_toArray, List.set_cons_zero, List.set_cons_succ]
        refine wpLate_pure (i := 8) (oi := _) (v := ?_) rfl (by kernel_rfl) (by kernel_rfl) (by kernel_rfl) (by kernel_rfl) (fun _ _ _ h => h) (Gives.load (by rfl) ?_) (fun _ => hHeld) ?_
        rotate_left
        · intro w hSw
          clear hSw
          go_simp
          try with_reducible rfl
        try simp only [Act.put, List.getElem_toArray, List.getElem_cons_succ, List.getElem_cons_zero, List.setIfInBounds_toArray, List.set_cons_zero, List.set_cons_succ]
        refine wpLate_pure (i := 9) (oi := _) (v := ?_) rfl (by kernel_rfl) (by kernel_rfl) (by kernel_rfl) (by kernel_rfl) (fun _ _ _ h => h) (Gives.load (by rfl) ?_) (fun _ => hHeld) ?_
        rotate_left
        · intro w hSw
          clear hSw
          go_simp
          try with_reducible rfl
        try simp only [Act.put, List.getElem_toArray, List.getElem_cons_succ, List.getElem_cons_zero, List.setIfInBounds_toArray, List.set_cons_zero, List.set_cons_succ]
        refine wpLate_pure (i := 7) (oi := _) (v := .string ⟨(pay.take 30).toArray⟩) rfl (by kernel_rfl) (by kernel_rfl) (by kernel_rfl) (by kernel_rfl) (fun _ _ _ h => h) (Gives.quiet 36 #[.string ⟨pay.toArray⟩, .int .i64 30] (by rfl) ?_ (fun w => cut_any pay 30 w hp (by decide))) (fun _ => hHeld) ?_
        · intro w
          go_simp
        try simp only [Act.put, List.getElem_toArray, List.getElem_cons_succ, List.getElem_cons_zero, List.setIfInBounds_toArray, List.set_cons_zero, List.set_cons_succ]
        obtain ⟨⟨q0, q1, q2, q3, q4, q5, e6, e7, q8, q9, q10, q11, q12, q13⟩, ⟨z0, z1, z2, z3, z4, z5, k6, k7, z8, z9, z10, z11, z12, z13⟩, hcl_⟩ := Q2.out.facts
        clear q0 q1 q2 q3 q4 q5 q8 q9 q10 q11 q12 q13 z0 z1 z2 z3 z4 z5 z8 z9 z10 z11 z12 z13
        refine wpLate_ready (rs := [10]) (by kernel_rfl) (by simp) ?_
        refine AllLate.cons (o := _) rfl (fun K hK => ?_) ?_
        · go_simp
          refine hK.out _ _ (fun h => absurd h (by decide)) (fun hHeld => ?_)
          clear hK K
          try simp only [Act.put, List.getElem_toArray, List.getElem_cons_succ, List.getElem_cons_zero, List.setIfInBounds_toArray, List.set_cons_zero, List.set_cons_succ]
          refine wpLate_pure (i := 11) (oi := _) (v := ?_) rfl (by kernel_rfl) (by kernel_rfl) (by kernel_rfl) (by kernel_rfl) (fun _ _ _ h => h) (Gives.load (by rfl) ?_) (fun h => absurd h (by decide)) ?_
          rotate_left
          · intro w hSw
            clear hSw
            go_simp
            try with_reducible rfl
          try simp only [Act.put, List.getElem_toArray, List.getElem_cons_succ, List.getElem_cons_zero, List.setIfInBounds_toArray, List.set_cons_zero, List.set_cons_succ]
          refine wpLate_pure (i := 12) (oi := _) (v := ?_) rfl (by kernel_rfl) (by kernel_rfl) (by kernel_rfl) (by kernel_rfl) (fun _ _ _ h => h) (Gives.load (by rfl) ?_) (fun h => absurd h (by decide)) ?_
          rotate_left
          · intro w hSw
            clear hSw
            go_simp
            try with_reducible rfl
          try simp only [Act.put, List.getElem_toArray, List.getElem_cons_succ, List.getElem_cons_zero, List.setIfInBounds_toArray, List.set_cons_zero, List.set_cons_succ]
          refine wpLate_ready (rs := [13]) (by kernel_rfl) (by simp) ?_
          refine AllLate.cons (o := _) rfl (fun K hK => ?_) ?_
          · go_simp
            refine hK.out _ _ (fun h => absurd h (by decide)) (fun hHeld => ?_)
            clear hK K
            try simp only [Act.put, List.getElem_toArray, List.getElem_cons_succ, List.getElem_cons_zero, List.setIfInBounds_toArray, List.set_cons_zero, List.set_cons_succ]
            refine wpLate_done (by kernel_rfl) ?_ _
            go_wp2_with fail
            go_meet
            exact (Q2.out.set 6 _ ⟨clean, keep, fewR props, id.take 30, hasWill, fewR wp, topic.take 30, pay, qos, ret, hasUser, hasPass, user.take 30, pass.take 30⟩ rfl rfl rfl).set 7 _ ⟨clean, keep, fewR props, id.take 30, hasWill, fewR wp, topic.take 30, pay.take 30, qos, ret, hasUser, hasPass, user.take 30, pass.take 30⟩ rfl rfl rfl
          exact AllLate.nil
        exact AllLate.nil
      case rest =>
        have Q4 := Lib.hid hcut
        clear hcut Q3 e6 e7 k0 k1 k2 k3 k4 k5 k6 k7 k8 k9 k10 k11 k12 k13 hcl_
        have HZ := Lib.hid (setRow_heap _ _ _ (cnC ⟨clean, keep, fewR props, id.take 30, hasWill, fewR wp, topic.take 30, pay.take 30, qos, ret, hasUser, hasPass, user.take 30, pass.take 30⟩ (.slice A2 (fewR props).length n2) (.slice A3 (fewR wp).length n3)).toArray _ _ Q4.out.a)
        have FZ := Lib.hid (fr_row Q4.out.f (g := w.heap.size + 1) (Or.inl (by omega)) (cnC ⟨clean, keep, fewR props, id.take 30, hasWill, fewR wp, topic.take 30, pay.take 30, qos, ret, hasUser, hasPass, user.take 30, pass.take 30⟩ (.slice A2 (fewR props).length n2) (.slice A3 (fewR wp).length n3)).toArray)
        have gs : Fr [w.heap.size + 1] wc (wc.setRow (w.heap.size + 1) (cnC ⟨clean, keep, fewR props, id.take 30, hasWill, fewR wp, topic.take 30, pay.take 30, qos, ret, hasUser, hasPass, user.take 30, pass.take 30⟩ (.slice A2 (fewR props).length n2) (.slice A3 (fewR wp).length n3)).toArray) := fr_row (Fr.refl _ _) (Or.inr (by simp)) _
        have VV := Lib.hid (Q4.out.vv.fr gs (fun k hk e => by have := Q4.out.vk k hk; simp at e; omega))
        have VU := Lib.hid (Q4.out.uv.fr gs (fun k hk e => by have := Q4.out.uk k hk; simp at e; omega))
        go_upto_region 4 with (fail)
        refine wp_region_lit ?_
        refine wpList_load_mid rfl 48 _ rfl w.heap.size 0 (by rfl) (cnC ⟨clean, keep, fewR props, id.take 30, hasWill, fewR wp, topic.take 30, pay.take 30, qos, ret, hasUser, hasPass, user.take 30, pass.take 30⟩ (.slice A2 (fewR props).length n2) (.slice A3 (fewR wp).length n3)) _ (range_blk Q4.out.p rfl) Try.underlying48 rfl (by kernel_rfl) ?_
        refine wpList_store_row rfl 48 _ _ rfl (w.heap.size + 1) (cnC ⟨clean, keep, fewR props, id.take 30, hasWill, fewR wp, topic.take 30, pay.take 30, qos, ret, hasUser, hasPass, user.take 30, pass.take 30⟩ (.slice A2 (fewR props).length n2) (.slice A3 (fewR wp).length n3)).toArray (by rfl) (by rfl) _ _ Q4.out.a (by kernel_rfl) rfl (cn_one _ _ _ rfl rfl) ?_
        clear gs
        go_wp2
        generalize wc.setRow (w.heap.size + 1) (cnC ⟨clean, keep, fewR props, id.take 30, hasWill, fewR wp, topic.take 30, pay.take 30, qos, ret, hasUser, hasPass, user.take 30, pass.take 30⟩ (.slice A2 (fewR props).length n2) (.slice A3 (fewR wp).length n3)).toArray = W5 at *
        have hz : W5.cell? ⟨w.heap.size + 1, 0, none⟩ = some (.bool clean) ∧ W5.cell? ⟨w.heap.size + 1, 1, none⟩ = some (.int .u32 (keep : Int)) ∧ W5.cell? ⟨w.heap.size + 1, 2, none⟩ = some (.slice A2 (fewR props).length n2) ∧ W5.cell? ⟨w.heap.size + 1, 3, none⟩ = some (.string ⟨(id.take 30).toArray⟩) ∧ W5.cell? ⟨w.heap.size + 1, 4, none⟩ = some (.bool hasWill) ∧ W5.cell? ⟨w.heap.size + 1, 5, none⟩ = some (.slice A3 (fewR wp).length n3) ∧ W5.cell? ⟨w.heap.size + 1, 6, none⟩ = some (.string ⟨(topic.take 30).toArray⟩) ∧ W5.cell? ⟨w.heap.size + 1, 7, none⟩ = some (.string ⟨(pay.take 30).toArray⟩) ∧ W5.cell? ⟨w.heap.size + 1, 8, none⟩ = some (.int .u8 (qos : Int)) ∧ W5.cell? ⟨w.heap.size + 1, 9, none⟩ = some (.bool ret) ∧ W5.cell? ⟨w.heap.size + 1, 10, none⟩ = some (.bool hasUser) ∧ W5.cell? ⟨w.heap.size + 1, 11, none⟩ = some (.bool hasPass) ∧ W5.cell? ⟨w.heap.size + 1, 12, none⟩ = some (.string ⟨(user.take 30).toArray⟩) ∧ W5.cell? ⟨w.heap.size + 1, 13, none⟩ = some (.string ⟨(pass.take 30).toArray⟩) := (blk14n_facts HZ.out).1
        obtain ⟨e0, e1, e2, e3, e4, e5, e6, e7, e8, e9, e10, e11, e12, e13⟩ := hz
        refine bodyPost_ret (v := .agg #[.bool clean, .int .u32 (keep : Int), .slice A2 (fewR props).length n2, .string ⟨(id.take 30).toArray⟩, .bool hasWill, .slice A3 (fewR wp).length n3, .string ⟨(topic.take 30).toArray⟩, .string ⟨(pay.take 30).toArray⟩, .int .u8 (qos : Int), .bool ret, .bool hasUser, .bool hasPass, .string ⟨(user.take 30).toArray⟩, .string ⟨(pass.take 30).toArray⟩]) (by simp [results, Try.results31, go_sem, e0, e1, e2, e3, e4, e5, e6, e7, e8, e9, e10, e11, e12, e13]) rfl ?_
        exact ⟨_, _, rfl, VV.out, VU.out, FZ.out, fun k hk => by have := Q4.out.vk k hk; omega, fun k hk => by have := Q4.out.uk k hk; omega⟩
end Go.Proofs.Ytlhkgalmiajinaa
