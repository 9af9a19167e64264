/- What package connect reads behind a connect's properties. Conditions: strings that may be. -/
import Derived.Test.YtlhkgalmiajinaaConA
import Derived.Test.YtlhkgalmiajinaaPropG
import Derived.Test.YtlhkgalmiajinaaPubP
namespace Go.Proofs.Ytlhkgalmiajinaa
open Go.RowKit
set_option linter.unusedVariables false
set_option linter.unusedSimpArgs false

theorem own_low {w : World} {base : Nat} {e : TypeId} {size n : Nat} {v : Value} {xs : List Value} (h : w.ownsRow base e size v n xs) : ∀ k, v.ownBlock = some k → base ≤ k := by
  rcases h.2 with ⟨rfl, _⟩ | ⟨g, cap, cur, rfl, hb, _⟩
  · intro k hk; simp [Value.ownBlock] at hk
  · intro k hk; simp [Value.ownBlock] at hk; omega
/-- A connect stands in block C, its reader in block b; u: the will's properties; only these two blocks turned since w. -/
structure PtS (w : World) (C b : Nat) (c : Cn) (v u : Value) (r : Rd) (y : World) : Prop where
  p : y.heap[C]? = some (.cells (cnC c v u).toArray 48 (0, 0))
  i : InAt y b r
  f : Fr [b, C] w y
  ne : C ≠ b
  cl : C < w.heap.size
  bl : b < w.heap.size
  uv : View y u c.wp.length (c.wp.flatMap prE)
  uk : ∀ k, u.ownBlock = some k → w.heap.size ≤ k
def PtU (w : World) (C b : Nat) (c : Cn) (v : Value) (r : Rd) (y : World) : Prop := ∃ u, PtS w C b c v u r y
theorem PtS.read {w y y' : World} {C b : Nat} {c : Cn} {v u : Value} {r r' : Rd} (h : PtS w C b c v u r y) (i : InAt y' b r') (g : Fr [b] y y') : PtS w C b c v u r' y' := by
  have h1 := h.ne
  have h2 := h.bl
  refine ⟨g.blk h.p (by simpa using h1), i, h.f.trans g (by simp; intros; simp_all), h1, h.cl, h2, h.uv.fr g (fun k hk e => ?_), h.uk⟩
  have := h.uk k hk
  simp at e; omega
theorem PtS.set {w y : World} {C b : Nat} {c : Cn} {v u : Value} {r : Rd} (h : PtS w C b c v u r y) (i : Nat) (x : Value) (c' : Cn) (hc : (cnC c v u).toArray.setIfInBounds i x = (cnC c' v u).toArray) (hw : c'.wp = c.wp) : PtS w C b c' v u r (y.setCell ⟨C, i, none⟩ x) := by
  have h1 := h.ne
  have h2 := h.cl
  refine ⟨by rw [← hc]; exact blk_set h.p i x, blk_far h.i (by simpa using Ne.symm h1) x, h.f.setCell (Or.inr (by simp)) x, h1, h2, h.bl, ?_, h.uk⟩
  rw [hw]
  refine h.uv.fr (S := [C]) ((Fr.refl _ _).setCell (Or.inr (by simp)) x) (fun k hk e => ?_)
  have := h.uk k hk
  simp at e; omega
theorem PtS.setu {w y : World} {C b : Nat} {c : Cn} {v u u' : Value} {r : Rd} (h : PtS w C b c v u r y) (l : List Pr) (hv : View y u' l.length (l.flatMap prE)) (hk : ∀ k, u'.ownBlock = some k → w.heap.size ≤ k) (c' : Cn) (hc : (cnC c v u).toArray.setIfInBounds 5 u' = (cnC c' v u').toArray) (hw : c'.wp = l) : PtS w C b c' v u' r (y.setCell ⟨C, 5, none⟩ u') := by
  have h1 := h.ne
  have h2 := h.cl
  refine ⟨by rw [← hc]; exact blk_set h.p 5 u', blk_far h.i (by simpa using Ne.symm h1) u', h.f.setCell (Or.inr (by simp)) u', h1, h2, h.bl, ?_, hk⟩
  rw [hw]
  refine hv.fr (S := [C]) ((Fr.refl _ _).setCell (Or.inr (by simp)) u') (fun k hk' e => ?_)
  have := hk k hk'
  simp at e; omega
theorem PtS.facts {w y : World} {C b : Nat} {clean : Bool} {keep : Nat} {props : List Pr} {id : List UInt8} {hasWill : Bool} {wp : List Pr} {topic pay : List UInt8} {qos : Nat} {ret hasUser hasPass : Bool} {user pass : List UInt8} {v u : Value} {r : Rd} (h : PtS w C b ⟨clean, keep, props, id, hasWill, wp, topic, pay, qos, ret, hasUser, hasPass, user, pass⟩ v u r y) : ((fun w' => w'.cell? ⟨C, 0, none⟩ = some (.bool clean) ∧ w'.cell? ⟨C, 1, none⟩ = some (.int .u32 (keep : Int)) ∧ w'.cell? ⟨C, 2, none⟩ = some (v) ∧ w'.cell? ⟨C, 3, none⟩ = some (.string ⟨id.toArray⟩) ∧ w'.cell? ⟨C, 4, none⟩ = some (.bool hasWill) ∧ w'.cell? ⟨C, 5, none⟩ = some (u) ∧ w'.cell? ⟨C, 6, none⟩ = some (.string ⟨topic.toArray⟩) ∧ w'.cell? ⟨C, 7, none⟩ = some (.string ⟨pay.toArray⟩) ∧ w'.cell? ⟨C, 8, none⟩ = some (.int .u8 (qos : Int)) ∧ w'.cell? ⟨C, 9, none⟩ = some (.bool ret) ∧ w'.cell? ⟨C, 10, none⟩ = some (.bool hasUser) ∧ w'.cell? ⟨C, 11, none⟩ = some (.bool hasPass) ∧ w'.cell? ⟨C, 12, none⟩ = some (.string ⟨user.toArray⟩) ∧ w'.cell? ⟨C, 13, none⟩ = some (.string ⟨pass.toArray⟩)) y) ∧ (y.frozen? ⟨C, 0, none⟩ = false ∧ y.frozen? ⟨C, 1, none⟩ = false ∧ y.frozen? ⟨C, 2, none⟩ = false ∧ y.frozen? ⟨C, 3, none⟩ = false ∧ y.frozen? ⟨C, 4, none⟩ = false ∧ y.frozen? ⟨C, 5, none⟩ = false ∧ y.frozen? ⟨C, 6, none⟩ = false ∧ y.frozen? ⟨C, 7, none⟩ = false ∧ y.frozen? ⟨C, 8, none⟩ = false ∧ y.frozen? ⟨C, 9, none⟩ = false ∧ y.frozen? ⟨C, 10, none⟩ = false ∧ y.frozen? ⟨C, 11, none⟩ = false ∧ y.frozen? ⟨C, 12, none⟩ = false ∧ y.frozen? ⟨C, 13, none⟩ = false) ∧ C < y.heap.size :=
  blk14n_facts h.p
theorem cn_one (c : Cn) (v u : Value) (hv : v.oneCell' = true) (hu : u.oneCell' = true) : ((cnC c v u).toArray.all fun x => x.oneCell') = true := by
  simp [cnC, hv, hu]
  exact ⟨rfl, rfl, rfl, rfl, rfl, rfl, rfl, rfl, rfl, rfl, rfl, rfl⟩
theorem view_shape {w : World} {v : Value} {n : Nat} {cs : List Value} (h : View w v n cs) : ∃ A c, v = .slice A n c := by
  obtain ⟨A, c, rfl, _⟩ := h
  exact ⟨A, c, rfl⟩
theorem take_b (b : Nat) (r : Rd) (kind : Int) (isWill : Bool) (w : World) (h : InAt w b r) (hs : r.s.length ≤ 1000000) :
    Calls Try.prog 67 #[.pointer (some ⟨b, 0, none⟩), .int .i64 kind, .bool isWill] w fun e w' => ∃ v', e = .returned v' ∧ View w' v' (takeP r kind isWill).1.length ((takeP r kind isWill).1.flatMap prE) ∧ (∀ k, v'.ownBlock = some k → w.heap.size ≤ k) ∧ InAt w' b (takeP r kind isWill).2 ∧ Fr [b] w w' := by
  refine (ptake_any b r kind isWill w h hs).mono ?_
  rintro _ w' ⟨v', rfl, own, _, h2, g⟩
  exact ⟨v', rfl, own_view own, own_low own, h2, g⟩
theorem willP_left (h : Bool) (r : Rd) : (willP h r).2.s.length ≤ r.s.length := by
  unfold willP; split
  · exact takeP_left r 1 true
  · exact Nat.le_refl _
theorem willT_left (h : Bool) (r : Rd) : (willT h r).2.s.length ≤ r.s.length := by
  unfold willT; split
  · exact Rd.str_left r
  · exact Nat.le_refl _
theorem dataT_left (h : Bool) (r : Rd) : (dataT h r).2.s.length ≤ r.s.length := by
  unfold dataT; split
  · exact data_left r
  · exact Nat.le_refl _
set_option maxRecDepth 100000 in
set_option maxHeartbeats 4000000 in
theorem parts_any (C b : Nat) (w : World) (clean : Bool) (keep : Nat) (props : List Pr) (id : List UInt8) (hasWill : Bool) (wp : List Pr) (topic pay : List UInt8) (qos : Nat) (ret hasUser hasPass : Bool) (user pass : List UInt8) (v u : Value) (r r1 r2 r3 r4 r5 r6 : Rd) (hp : PtS w C b ⟨clean, keep, props, [], hasWill, [], [], [], qos, ret, hasUser, hasPass, [], []⟩ v (.slice none 0 0) r w) (hs : r.s.length ≤ 1000000)
    (h1 : r.str = (id, r1)) (h2 : willP hasWill r1 = (wp, r2)) (h3 : willT hasWill r2 = (topic, r3)) (h4 : dataT hasWill r3 = (pay, r4)) (h5 : willT hasUser r4 = (user, r5)) (h6 : dataT hasPass r5 = (pass, r6)) :
    Calls Try.prog 68 #[.pointer (some ⟨C, 0, none⟩), .pointer (some ⟨b, 0, none⟩)] w fun e w' => e = .returned (.tuple #[]) ∧ PtU w C b ⟨clean, keep, props, id, hasWill, wp, topic, pay, qos, ret, hasUser, hasPass, user, pass⟩ v r6 w' := by
  have q1 := Rd.str_left r
  have q2 := willP_left hasWill r1
  have q3 := willT_left hasWill r2
  have q4 := dataT_left hasWill r3
  have q5 := willT_left hasUser r4
  rw [h1] at q1
  rw [h2] at q2
  rw [h3] at q3
  rw [h4] at q4
  rw [h5] at q5
  dsimp only at q1 q2 q3 q4 q5
  have G1 := Lib.hid h1
  have G2 := Lib.hid h2
  have G3 := Lib.hid h3
  have G4 := Lib.hid h4
  have G5 := Lib.hid h5
  have G6 := Lib.hid h6
  clear h1 h2 h3 h4 h5 h6
  obtain ⟨⟨e0, e1, e2, e3, e4, e5, e6, e7, e8, e9, e10, e11, e12, e13⟩, ⟨k0, k1, k2, k3, k4, k5, k6, k7, k8, k9, k10, k11, k12, k13⟩, hcl_⟩ := (hp.facts)
  have HP := Lib.hid hp
  clear hp
  go_enter Try.func68, Try.ntmps68
  go_wp2_with fail
  refine (take_any b r _ HP.out.i (by omega)).mono ?_
  rintro _ x1 ⟨rfl, i1, g1⟩
  rw [G1.out] at i1 ⊢
  dsimp only at i1 ⊢
  have H1 := HP.out.read i1 g1
  clear e0 e1 e2 e3 e4 e5 e6 e7 e8 e9 e10 e11 e12 e13 k0 k1 k2 k3 k4 k5 k6 k7 k8 k9 k10 k11 k12 k13 hcl_
  obtain ⟨⟨e0, e1, e2, e3, e4, e5, e6, e7, e8, e9, e10, e11, e12, e13⟩, ⟨k0, k1, k2, k3, k4, k5, k6, k7, k8, k9, k10, k11, k12, k13⟩, hcl_⟩ := (H1.facts)
  have H2 := Lib.hid (H1.set 3 (.string ⟨id.toArray⟩) ⟨clean, keep, props, id, hasWill, [], [], [], qos, ret, hasUser, hasPass, [], []⟩ rfl rfl)
  clear H1 i1 g1 HP
  go_upto_if 12 with (fail)
  obtain ⟨z, hz_⟩ : ∃ z, x1.setCell ⟨C, 3, none⟩ (.string ⟨id.toArray⟩) = z := ⟨_, rfl⟩
  rw [hz_] at H2 ⊢
  clear hz_
  clear e0 e1 e2 e3 e4 e5 e6 e7 e8 e9 e10 e11 e12 e13 k0 k1 k2 k3 k4 k5 k6 k7 k8 k9 k10 k11 k12 k13 hcl_
  obtain ⟨⟨e0, e1, e2, e3, e4, e5, e6, e7, e8, e9, e10, e11, e12, e13⟩, ⟨k0, k1, k2, k3, k4, k5, k6, k7, k8, k9, k10, k11, k12, k13⟩, hcl_⟩ := (H2.out.facts)
  go_cut [] (fun wx => PtU w C b ⟨clean, keep, props, id, hasWill, wp, topic, pay, qos, ret, hasUser, hasPass, [], []⟩ v r4 wx)
  case first =>
    cases hasWill
    · obtain ⟨rfl, rfl⟩ : [] = wp ∧ r1 = r2 := by simpa [willP] using G2.out
      obtain ⟨rfl, rfl⟩ : [] = topic ∧ r1 = r3 := by simpa [willT] using G3.out
      obtain ⟨rfl, rfl⟩ : [] = pay ∧ r1 = r4 := by simpa [dataT] using G4.out
      go_wp2
      go_meet
      exact ⟨_, H2.out⟩
    · have T2 : takeP r1 1 true = (wp, r2) := by simpa [willP] using G2.out
      have T3 : r2.str = (topic, r3) := by simpa [willT] using G3.out
      have T4 : r3.data = (pay, r4) := by simpa [dataT] using G4.out
      have K2 := Lib.hid T2
      have K3 := Lib.hid T3
      have K4 := Lib.hid T4
      clear T2 T3 T4 G2 G3 G4
      have hzl := H2.out.f.size
      go_wp2_with fail
      refine (take_b b r1 1 true _ H2.out.i (by omega)).mono ?_
      rintro _ x3 ⟨u', rfl, uv, uk, i3, g3⟩
      rw [K2.out] at uv i3
      dsimp only at uv i3
      obtain ⟨A3, c3, rfl⟩ := view_shape uv
      have H3 := H2.out.read i3 g3
      clear e0 e1 e2 e3 e4 e5 e6 e7 e8 e9 e10 e11 e12 e13 k0 k1 k2 k3 k4 k5 k6 k7 k8 k9 k10 k11 k12 k13 hcl_
      obtain ⟨⟨e0, e1, e2, e3, e4, e5, e6, e7, e8, e9, e10, e11, e12, e13⟩, ⟨k0, k1, k2, k3, k4, k5, k6, k7, k8, k9, k10, k11, k12, k13⟩, hcl_⟩ := (H3.facts)
      have H4 := Lib.hid (H3.setu wp uv (fun k hk => Nat.le_trans hzl (uk k hk)) ⟨clean, keep, props, id, true, wp, [], [], qos, ret, hasUser, hasPass, [], []⟩ rfl rfl)
      clear H2 H3 i3 g3 uv uk
      go_upto_region 3 with (fail)
      obtain ⟨z2, hz_⟩ : ∃ z2, x3.setCell ⟨C, 5, none⟩ (.slice A3 wp.length c3) = z2 := ⟨_, rfl⟩
      rw [hz_] at H4 ⊢
      clear hz_
      clear e0 e1 e2 e3 e4 e5 e6 e7 e8 e9 e10 e11 e12 e13 k0 k1 k2 k3 k4 k5 k6 k7 k8 k9 k10 k11 k12 k13 hcl_
      obtain ⟨⟨e0, e1, e2, e3, e4, e5, e6, e7, e8, e9, e10, e11, e12, e13⟩, ⟨k0, k1, k2, k3, k4, k5, k6, k7, k8, k9, k10, k11, k12, k13⟩, hcl_⟩ := (H4.out.facts)
      go_wp2_with fail
      refine (take_any b r2 _ H4.out.i (by omega)).mono ?_
      rintro _ x5 ⟨rfl, i5, g5⟩
      rw [K3.out] at i5 ⊢
      dsimp only at i5 ⊢
      have H5 := H4.out.read i5 g5
      clear e0 e1 e2 e3 e4 e5 e6 e7 e8 e9 e10 e11 e12 e13 k0 k1 k2 k3 k4 k5 k6 k7 k8 k9 k10 k11 k12 k13 hcl_
      obtain ⟨⟨e0, e1, e2, e3, e4, e5, e6, e7, e8, e9, e10, e11, e12, e13⟩, ⟨k0, k1, k2, k3, k4, k5, k6, k7, k8, k9, k10, k11, k12, k13⟩, hcl_⟩ := (H5.facts)
      have H6 := Lib.hid (H5.set 6 (.string ⟨topic.toArray⟩) ⟨clean, keep, props, id, true, wp, topic, [], qos, ret, hasUser, hasPass, [], []⟩ rfl rfl)
      clear H4 H5 i5 g5
      go_upto_region 4 with (fail)
      obtain ⟨z3, hz_⟩ : ∃ z3, x5.setCell ⟨C, 6, none⟩ (.string ⟨topic.toArray⟩) = z3 := ⟨_, rfl⟩
      rw [hz_] at H6 ⊢
      clear hz_
      clear e0 e1 e2 e3 e4 e5 e6 e7 e8 e9 e10 e11 e12 e13 k0 k1 k2 k3 k4 k5 k6 k7 k8 k9 k10 k11 k12 k13 hcl_
      obtain ⟨⟨e0, e1, e2, e3, e4, e5, e6, e7, e8, e9, e10, e11, e12, e13⟩, ⟨k0, k1, k2, k3, k4, k5, k6, k7, k8, k9, k10, k11, k12, k13⟩, hcl_⟩ := (H6.out.facts)
      go_wp2_with fail
      refine (indata_any b r3 _ H6.out.i (by omega)).mono ?_
      rintro _ x7 ⟨rfl, i7, g7⟩
      rw [K4.out] at i7 ⊢
      dsimp only at i7 ⊢
      have H7 := H6.out.read i7 g7
      clear e0 e1 e2 e3 e4 e5 e6 e7 e8 e9 e10 e11 e12 e13 k0 k1 k2 k3 k4 k5 k6 k7 k8 k9 k10 k11 k12 k13 hcl_
      obtain ⟨⟨e0, e1, e2, e3, e4, e5, e6, e7, e8, e9, e10, e11, e12, e13⟩, ⟨k0, k1, k2, k3, k4, k5, k6, k7, k8, k9, k10, k11, k12, k13⟩, hcl_⟩ := (H7.facts)
      have H8 := Lib.hid (H7.set 7 (.string ⟨pay.toArray⟩) ⟨clean, keep, props, id, true, wp, topic, pay, qos, ret, hasUser, hasPass, [], []⟩ rfl rfl)
      clear H6 H7 i7 g7
      go_wp2_with fail
      go_meet
      exact ⟨_, H8.out⟩
  case rest =>
    obtain ⟨u1, hc1⟩ := hcut
    have H3 := Lib.hid hc1
    clear hc1 H2
    clear e0 e1 e2 e3 e4 e5 e6 e7 e8 e9 e10 e11 e12 e13 k0 k1 k2 k3 k4 k5 k6 k7 k8 k9 k10 k11 k12 k13 hcl_
    obtain ⟨⟨e0, e1, e2, e3, e4, e5, e6, e7, e8, e9, e10, e11, e12, e13⟩, ⟨k0, k1, k2, k3, k4, k5, k6, k7, k8, k9, k10, k11, k12, k13⟩, hcl_⟩ := (H3.out.facts)
    go_upto_if 34 with (fail)
    go_cut [] (fun wx => PtU w C b ⟨clean, keep, props, id, hasWill, wp, topic, pay, qos, ret, hasUser, hasPass, user, []⟩ v r5 wx)
    case first =>
      cases hasUser
      · obtain ⟨rfl, rfl⟩ : [] = user ∧ r4 = r5 := by simpa [willT] using G5.out
        go_wp2
        go_meet
        exact ⟨_, H3.out⟩
      · have T5 : r4.str = (user, r5) := by simpa [willT] using G5.out
        have K5 := Lib.hid T5
        clear T5 G5
        go_wp2_with fail
        refine (take_any b r4 _ H3.out.i (by omega)).mono ?_
        rintro _ x5 ⟨rfl, i5, g5⟩
        rw [K5.out] at i5 ⊢
        dsimp only at i5 ⊢
        have H5 := H3.out.read i5 g5
        clear e0 e1 e2 e3 e4 e5 e6 e7 e8 e9 e10 e11 e12 e13 k0 k1 k2 k3 k4 k5 k6 k7 k8 k9 k10 k11 k12 k13 hcl_
        obtain ⟨⟨e0, e1, e2, e3, e4, e5, e6, e7, e8, e9, e10, e11, e12, e13⟩, ⟨k0, k1, k2, k3, k4, k5, k6, k7, k8, k9, k10, k11, k12, k13⟩, hcl_⟩ := (H5.facts)
        have H6 := Lib.hid (H5.set 12 (.string ⟨user.toArray⟩) ⟨clean, keep, props, id, hasWill, wp, topic, pay, qos, ret, true, hasPass, user, []⟩ rfl rfl)
        clear H3 H5 i5 g5
        go_wp2_with fail
        go_meet
        exact ⟨_, H6.out⟩
    case rest =>
      obtain ⟨u2, hc2⟩ := hcut
      have H4 := Lib.hid hc2
      clear hc2 H3
      clear e0 e1 e2 e3 e4 e5 e6 e7 e8 e9 e10 e11 e12 e13 k0 k1 k2 k3 k4 k5 k6 k7 k8 k9 k10 k11 k12 k13 hcl_
      obtain ⟨⟨e0, e1, e2, e3, e4, e5, e6, e7, e8, e9, e10, e11, e12, e13⟩, ⟨k0, k1, k2, k3, k4, k5, k6, k7, k8, k9, k10, k11, k12, k13⟩, hcl_⟩ := (H4.out.facts)
      cases hasPass
      · obtain ⟨rfl, rfl⟩ : [] = pass ∧ r5 = r6 := by simpa [dataT] using G6.out
        go_wp2
        go_end0
        exact ⟨rfl, _, H4.out⟩
      · have T6 : r5.data = (pass, r6) := by simpa [dataT] using G6.out
        have K6 := Lib.hid T6
        clear T6 G6
        go_wp2_with fail
        refine (indata_any b r5 _ H4.out.i (by omega)).mono ?_
        rintro _ x5 ⟨rfl, i5, g5⟩
        rw [K6.out] at i5 ⊢
        dsimp only at i5 ⊢
        have H5 := H4.out.read i5 g5
        clear e0 e1 e2 e3 e4 e5 e6 e7 e8 e9 e10 e11 e12 e13 k0 k1 k2 k3 k4 k5 k6 k7 k8 k9 k10 k11 k12 k13 hcl_
        obtain ⟨⟨e0, e1, e2, e3, e4, e5, e6, e7, e8, e9, e10, e11, e12, e13⟩, ⟨k0, k1, k2, k3, k4, k5, k6, k7, k8, k9, k10, k11, k12, k13⟩, hcl_⟩ := (H5.facts)
        have H6 := Lib.hid (H5.set 13 (.string ⟨pass.toArray⟩) ⟨clean, keep, props, id, hasWill, wp, topic, pay, qos, ret, hasUser, true, user, pass⟩ rfl rfl)
        clear H4 H5 i5 g5
        go_wp2
        go_end0
        exact ⟨rfl, _, H6.out⟩
end Go.Proofs.Ytlhkgalmiajinaa
