/- What connect.Parse reads. Conditions: strings that may be. -/
import Derived.Test.YtlhkgalmiajinaaConC
namespace Go.Proofs.Ytlhkgalmiajinaa
open Go.RowKit
set_option linter.unusedVariables false
set_option linter.unusedSimpArgs false

/-- While a connect is read: its result's cells in the block behind w, the reader behind it. -/
structure PaS (w : World) (r : Rd) (y : World) : Prop where
  i : InAt y (w.heap.size + 1) r
  a : y.heap[w.heap.size]? = some (.cells #[.bool false, .int .u32 0, .slice none 0 0, .string ⟨#[]⟩, .bool false, .slice none 0 0, .string ⟨#[]⟩, .string ⟨#[]⟩, .int .u8 0, .bool false, .bool false, .bool false, .string ⟨#[]⟩, .string ⟨#[]⟩] 48 (0, 0))
  f : Fr [] w y
theorem PaS.read {w y y' : World} {r r' : Rd} (h : PaS w r y) (i : InAt y' (w.heap.size + 1) r') (g : Fr [w.heap.size + 1] y y') : PaS w r' y' :=
  ⟨i, g.blk h.a (by simp), h.f.trans g (by intro x hx e; simp at e; omega)⟩
/-- And the connect in block C. -/
structure PbS (w : World) (C : Nat) (c : Cn) (v u : Value) (r : Rd) (y : World) : Prop where
  s : PaS w r y
  p : y.heap[C]? = some (.cells (cnC c v u).toArray 48 (0, 0))
  cb : w.heap.size + 1 < C
  vv : View y v c.props.length (c.props.flatMap prE)
  vk : ∀ k, v.ownBlock = some k → C < k
  uv : View y u c.wp.length (c.wp.flatMap prE)
  uk : ∀ k, u.ownBlock = some k → C < k
theorem PbS.read {w y y' : World} {C : Nat} {c : Cn} {v u : Value} {r r' : Rd} (h : PbS w C c v u r y) (i : InAt y' (w.heap.size + 1) r') (g : Fr [w.heap.size + 1] y y') : PbS w C c v u r' y' := by
  have hc := h.cb
  refine ⟨h.s.read i g, g.blk h.p (by simp; omega), hc, h.vv.fr g (fun k hk e => ?_), h.vk, h.uv.fr g (fun k hk e => ?_), h.uk⟩
  · have := h.vk k hk; simp at e; omega
  · have := h.uk k hk; simp at e; omega
theorem PbS.set {w y : World} {C : Nat} {c : Cn} {v u : Value} {r : Rd} (h : PbS w C c v u r y) (i : Nat) (x : Value) (c' : Cn) (hc : (cnC c v u).toArray.setIfInBounds i x = (cnC c' v u).toArray) (hp : c'.props = c.props) (hw : c'.wp = c.wp) : PbS w C c' v u r (y.setCell ⟨C, i, none⟩ x) := by
  have hcb := h.cb
  have hg : Fr [C] y (y.setCell ⟨C, i, none⟩ x) := (Fr.refl _ _).setCell (Or.inr (by simp)) x
  refine ⟨⟨blk_far h.s.i (by simp; omega) x, blk_far h.s.a (by simp; omega) x, h.s.f.setCell (Or.inl (by simp; omega)) x⟩, by rw [← hc]; exact blk_set h.p i x, hcb, ?_, h.vk, ?_, h.uk⟩
  · rw [hp]; exact h.vv.fr hg (fun k hk e => by have := h.vk k hk; simp at e; omega)
  · rw [hw]; exact h.uv.fr hg (fun k hk e => by have := h.uk k hk; simp at e; omega)
theorem PbS.setv {w y : World} {C : Nat} {c : Cn} {v v' u : Value} {r : Rd} (h : PbS w C c v u r y) (l : List Pr) (hv : View y v' l.length (l.flatMap prE)) (hk : ∀ k, v'.ownBlock = some k → C < k) (c' : Cn) (hc : (cnC c v u).toArray.setIfInBounds 2 v' = (cnC c' v' u).toArray) (hp : c'.props = l) (hw : c'.wp = c.wp) : PbS w C c' v' u r (y.setCell ⟨C, 2, none⟩ v') := by
  have hcb := h.cb
  have hg : Fr [C] y (y.setCell ⟨C, 2, none⟩ v') := (Fr.refl _ _).setCell (Or.inr (by simp)) v'
  refine ⟨⟨blk_far h.s.i (by simp; omega) v', blk_far h.s.a (by simp; omega) v', h.s.f.setCell (Or.inl (by simp; omega)) v'⟩, by rw [← hc]; exact blk_set h.p 2 v', hcb, ?_, hk, ?_, h.uk⟩
  · rw [hp]; exact hv.fr hg (fun k hk' e => by have := hk k hk'; simp at e; omega)
  · rw [hw]; exact h.uv.fr hg (fun k hk e => by have := h.uk k hk; simp at e; omega)
theorem PbS.part {w y y' : World} {C : Nat} {c c' : Cn} {v u u' : Value} {r r' : Rd} (h : PbS w C c v u r y) (g : PtS y C (w.heap.size + 1) c' v u' r' y') (hp : c'.props = c.props) : PbS w C c' v u' r' y' := by
  have hcb := h.cb
  have hl := blk_lt h.p
  refine ⟨⟨g.i, g.f.blk h.s.a (by simp; omega), h.s.f.trans g.f (by intro x hx e; simp at e; omega)⟩, g.p, hcb, ?_, h.vk, g.uv, fun k hk => Nat.lt_of_lt_of_le hl (g.uk k hk)⟩
  rw [hp]; exact h.vv.fr g.f (fun k hk e => by have := h.vk k hk; simp at e; omega)
theorem PbS.facts {w y : World} {C : Nat} {clean : Bool} {keep : Nat} {props : List Pr} {id : List UInt8} {hasWill : Bool} {wp : List Pr} {topic pay : List UInt8} {qos : Nat} {ret hasUser hasPass : Bool} {user pass : List UInt8} {v u : Value} {r : Rd} (h : PbS w C ⟨clean, keep, props, id, hasWill, wp, topic, pay, qos, ret, hasUser, hasPass, user, pass⟩ v u r y) : ((fun w' => w'.cell? ⟨C, 0, none⟩ = some (.bool clean) ∧ w'.cell? ⟨C, 1, none⟩ = some (.int .u32 (keep : Int)) ∧ w'.cell? ⟨C, 2, none⟩ = some (v) ∧ w'.cell? ⟨C, 3, none⟩ = some (.string ⟨id.toArray⟩) ∧ w'.cell? ⟨C, 4, none⟩ = some (.bool hasWill) ∧ w'.cell? ⟨C, 5, none⟩ = some (u) ∧ w'.cell? ⟨C, 6, none⟩ = some (.string ⟨topic.toArray⟩) ∧ w'.cell? ⟨C, 7, none⟩ = some (.string ⟨pay.toArray⟩) ∧ w'.cell? ⟨C, 8, none⟩ = some (.int .u8 (qos : Int)) ∧ w'.cell? ⟨C, 9, none⟩ = some (.bool ret) ∧ w'.cell? ⟨C, 10, none⟩ = some (.bool hasUser) ∧ w'.cell? ⟨C, 11, none⟩ = some (.bool hasPass) ∧ w'.cell? ⟨C, 12, none⟩ = some (.string ⟨user.toArray⟩) ∧ w'.cell? ⟨C, 13, none⟩ = some (.string ⟨pass.toArray⟩)) y) ∧ (y.frozen? ⟨C, 0, none⟩ = false ∧ y.frozen? ⟨C, 1, none⟩ = false ∧ y.frozen? ⟨C, 2, none⟩ = false ∧ y.frozen? ⟨C, 3, none⟩ = false ∧ y.frozen? ⟨C, 4, none⟩ = false ∧ y.frozen? ⟨C, 5, none⟩ = false ∧ y.frozen? ⟨C, 6, none⟩ = false ∧ y.frozen? ⟨C, 7, none⟩ = false ∧ y.frozen? ⟨C, 8, none⟩ = false ∧ y.frozen? ⟨C, 9, none⟩ = false ∧ y.frozen? ⟨C, 10, none⟩ = false ∧ y.frozen? ⟨C, 11, none⟩ = false ∧ y.frozen? ⟨C, 12, none⟩ = false ∧ y.frozen? ⟨C, 13, none⟩ = false) ∧ C < y.heap.size :=
  blk14n_facts h.p
theorem PbS.new {w y : World} {r : Rd} (h : PaS w r y) (c : Cn) (hp : c.props = []) (hw : c.wp = []) : PbS w y.heap.size c (.slice none 0 0) (.slice none 0 0) r (y.alloc (.cells (cnC c (.slice none 0 0) (.slice none 0 0)).toArray 48)) := by
  have hl := blk_lt h.i
  refine ⟨⟨blk_old h.i _, blk_old h.a _, h.f.alloc _⟩, blk_new _ _, hl, ?_, by simp [Value.ownBlock], ?_, by simp [Value.ownBlock]⟩
  · rw [hp]; exact View.nil _
  · rw [hw]; exact View.nil _
/-- Behind Parse: the connect, the error. -/
def CnTo (R : Cn × Int) (w : World) (e : Ending) (w' : World) : Prop :=
  ∃ v u, e = .returned (.tuple #[.agg (cnC R.1 v u).toArray, .int .i64 R.2]) ∧ View w' v R.1.props.length (R.1.props.flatMap prE) ∧ View w' u R.1.wp.length (R.1.wp.flatMap prE) ∧ Fr [] w w'
theorem cnbits : ∀ f : Fin 256, decide (0 < bits .and .u8 (f.val : Int) 2) = decide (f.val / 2 % 2 = 1) ∧ decide (0 < bits .and .u8 (f.val : Int) 4) = decide (f.val / 4 % 2 = 1) ∧ decide (0 < bits .and .u8 (f.val : Int) 64) = decide (f.val / 64 % 2 = 1) ∧ decide (0 < bits .and .u8 (f.val : Int) 128) = decide (f.val / 128 % 2 = 1) ∧
    decide (0 < bits .and .u8 (f.val : Int) 1) = decide (f.val % 2 = 1) ∧ bits .and .u8 ((f.val : Int) / 8) 3 = ((f.val / 8 % 4 : Nat) : Int) ∧ decide (0 < bits .and .u8 (f.val : Int) 32) = decide (f.val / 32 % 2 = 1) ∧
    cnBad f.val = (decide (f.val % 2 = 1) || ((f.val / 8 % 4 : Nat) : Int) == 3 || (!(decide (f.val / 4 % 2 = 1)) && decide (0 < bits .and .u8 (f.val : Int) 56))) := by decide +kernel
set_option maxRecDepth 100000 in
set_option maxHeartbeats 4000000 in
theorem cnparse_any (s : List UInt8) (w : World) (hs : s.length ≤ 1000000) :
    Calls Try.prog 27 #[.string ⟨s.toArray⟩] w (CnTo (cnParse s) w) := by
  have HR : Hid (cnParse s = if (Rd.str ⟨s, 0⟩).2.e = 0 ∧ (Rd.str ⟨s, 0⟩).1 ≠ mqtt then (noCn, 14) else if ((Rd.str ⟨s, 0⟩).2.num 1).2.e = 0 ∧ ((Rd.str ⟨s, 0⟩).2.num 1).1 ≠ 5 then (noCn, 14) else cnFrom ((Rd.str ⟨s, 0⟩).2.num 1).2) := Lib.hid rfl
  have F0 : Fr [] w (w.alloc (.cells #[.bool false, .int .u32 0, .slice none 0 0, .string ⟨#[]⟩, .bool false, .slice none 0 0, .string ⟨#[]⟩, .string ⟨#[]⟩, .int .u8 0, .bool false, .bool false, .bool false, .string ⟨#[]⟩, .string ⟨#[]⟩] 48)) := (Fr.refl _ _).alloc _
  have hb0 := blk_new w (.cells #[.bool false, .int .u32 0, .slice none 0 0, .string ⟨#[]⟩, .bool false, .slice none 0 0, .string ⟨#[]⟩, .string ⟨#[]⟩, .int .u8 0, .bool false, .bool false, .bool false, .string ⟨#[]⟩, .string ⟨#[]⟩] 48)
  go_enter Try.func27, Try.ntmps27
  go_wp2_with fail
  refine (over_any s _).mono ?_
  rintro _ w1 ⟨rfl, h1, g1⟩
  rw [World.size_alloc] at h1
  have P1 : PaS w ⟨s, 0⟩ w1 := ⟨h1, g1.blk hb0 (by simp), F0.trans g1 (by simp)⟩
  clear h1 g1 F0 hb0
  go_wp2_with fail
  refine (take_any _ _ _ P1.i (by show s.length ≤ _; omega)).mono ?_
  rintro _ w2 ⟨rfl, h2, g2⟩
  have q2 : (Rd.str ⟨s, 0⟩).2.s.length ≤ s.length := Rd.str_left ⟨s, 0⟩
  have P2 := P1.read h2 g2
  generalize Rd.str ⟨s, 0⟩ = N at *
  obtain ⟨name, r1⟩ := N
  dsimp only at P2 HR q2 ⊢
  clear P1 h2 g2
  go_upto_region 3 with (fail)
  by_cases he1 : r1.e = 0 ∧ name ≠ mqtt
  · have e0 : (r1.e == 0) = true := by simpa using he1.1
    have n0 : (name == [77, 81, 84, 84]) = false := by simpa [mqtt] using he1.2
    rw [if_pos he1] at HR
    go_wp2_with fail
    refine (err_any _ _ _ P2.i).mono ?_
    rintro _ _ ⟨rfl, rfl⟩
    have HZ := Lib.hid (setRow_heap _ _ _ #[.bool false, .int .u32 0, .slice none 0 0, .string ⟨#[]⟩, .bool false, .slice none 0 0, .string ⟨#[]⟩, .string ⟨#[]⟩, .int .u8 0, .bool false, .bool false, .bool false, .string ⟨#[]⟩, .string ⟨#[]⟩] _ _ P2.a)
    have FZ := Lib.hid (fr_row P2.f (g := w.heap.size) (Or.inl (Nat.le_refl _)) #[.bool false, .int .u32 0, .slice none 0 0, .string ⟨#[]⟩, .bool false, .slice none 0 0, .string ⟨#[]⟩, .string ⟨#[]⟩, .int .u8 0, .bool false, .bool false, .bool false, .string ⟨#[]⟩, .string ⟨#[]⟩])
    go_upto_region 4 with (fail)
    refine wp_region_lit ?_
    refine wpList_build rfl _ _ rfl (by kernel_rfl) ?_
    refine wpList_store_row rfl 48 _ _ rfl w.heap.size #[.bool false, .int .u32 0, .slice none 0 0, .string ⟨#[]⟩, .bool false, .slice none 0 0, .string ⟨#[]⟩, .string ⟨#[]⟩, .int .u8 0, .bool false, .bool false, .bool false, .string ⟨#[]⟩, .string ⟨#[]⟩] (by rfl) (by kernel_rfl) _ _ P2.a (by kernel_rfl) rfl (by kernel_rfl) ?_
    go_wp2
    generalize w2.setRow w.heap.size #[.bool false, .int .u32 0, .slice none 0 0, .string ⟨#[]⟩, .bool false, .slice none 0 0, .string ⟨#[]⟩, .string ⟨#[]⟩, .int .u8 0, .bool false, .bool false, .bool false, .string ⟨#[]⟩, .string ⟨#[]⟩] = W5 at *
    obtain ⟨e0, e1, e2, e3, e4, e5, e6, e7, e8, e9, e10, e11, e12, e13⟩ := (blk14n_facts HZ.out).1
    refine bodyPost_ret (v := .tuple #[.agg #[.bool false, .int .u32 0, .slice none 0 0, .string ⟨#[]⟩, .bool false, .slice none 0 0, .string ⟨#[]⟩, .string ⟨#[]⟩, .int .u8 0, .bool false, .bool false, .bool false, .string ⟨#[]⟩, .string ⟨#[]⟩], .int .i64 (14)]) (by simp [results, Try.results27, go_sem, e0, e1, e2, e3, e4, e5, e6, e7, e8, e9, e10, e11, e12, e13]) rfl ?_
    rw [HR.out]
    exact ⟨.slice none 0 0, .slice none 0 0, rfl, View.nil _, View.nil _, FZ.out⟩
  rw [if_neg he1] at HR
  go_cut [20] (fun v20 wx => v20 = .bool false ∧ w2 = wx)
  case first =>
    by_cases he : r1.e = 0
    · have e0 : (r1.e == 0) = true := by simpa using he
      have n0 : (name == [77, 81, 84, 84]) = true := by
        have : name = mqtt := by
          refine Decidable.byContradiction fun h => he1 ⟨he, h⟩
        simp [this, mqtt]
      go_wp2_with fail
      refine (err_any _ _ _ P2.i).mono ?_
      rintro _ _ ⟨rfl, rfl⟩
      go_wp2_with fail
      go_meet
      exact ⟨rfl, rfl⟩
    · have e0 : (r1.e == 0) = false := by simpa using he
      go_wp2_with fail
      refine (err_any _ _ _ P2.i).mono ?_
      rintro _ _ ⟨rfl, rfl⟩
      go_wp2_with fail
      go_meet
      exact ⟨rfl, rfl⟩
  case rest =>
    obtain ⟨rfl, rfl⟩ := hcut
    clear he1
    go_wp2_with fail
    refine (byte_any _ _ _ P2.i (by omega)).mono ?_
    rintro _ w3 ⟨rfl, h3, g3⟩
    have q3 := num_left' r1 1
    have P3 := P2.read h3 g3
    generalize r1.num 1 = N at *
    obtain ⟨vv, r2⟩ := N
    dsimp only at P3 HR q3 ⊢
    clear P2 h3 g3
    go_upto_region 6 with (fail)
    by_cases he2 : r2.e = 0 ∧ vv ≠ 5
    · have e0 : (r2.e == 0) = true := by simpa using he2.1
      have n0 : ((vv : Int) != 5) = true := by have := he2.2; simp; omega
      rw [if_pos he2] at HR
      go_wp2_with fail
      refine (err_any _ _ _ P3.i).mono ?_
      rintro _ _ ⟨rfl, rfl⟩
      have HZ := Lib.hid (setRow_heap _ _ _ #[.bool false, .int .u32 0, .slice none 0 0, .string ⟨#[]⟩, .bool false, .slice none 0 0, .string ⟨#[]⟩, .string ⟨#[]⟩, .int .u8 0, .bool false, .bool false, .bool false, .string ⟨#[]⟩, .string ⟨#[]⟩] _ _ P3.a)
      have FZ := Lib.hid (fr_row P3.f (g := w.heap.size) (Or.inl (Nat.le_refl _)) #[.bool false, .int .u32 0, .slice none 0 0, .string ⟨#[]⟩, .bool false, .slice none 0 0, .string ⟨#[]⟩, .string ⟨#[]⟩, .int .u8 0, .bool false, .bool false, .bool false, .string ⟨#[]⟩, .string ⟨#[]⟩])
      go_upto_region 7 with (fail)
      refine wp_region_lit ?_
      refine wpList_build rfl _ _ rfl (by kernel_rfl) ?_
      refine wpList_store_row rfl 48 _ _ rfl w.heap.size #[.bool false, .int .u32 0, .slice none 0 0, .string ⟨#[]⟩, .bool false, .slice none 0 0, .string ⟨#[]⟩, .string ⟨#[]⟩, .int .u8 0, .bool false, .bool false, .bool false, .string ⟨#[]⟩, .string ⟨#[]⟩] (by rfl) (by kernel_rfl) _ _ P3.a (by kernel_rfl) rfl (by kernel_rfl) ?_
      go_wp2
      generalize w3.setRow w.heap.size #[.bool false, .int .u32 0, .slice none 0 0, .string ⟨#[]⟩, .bool false, .slice none 0 0, .string ⟨#[]⟩, .string ⟨#[]⟩, .int .u8 0, .bool false, .bool false, .bool false, .string ⟨#[]⟩, .string ⟨#[]⟩] = W5 at *
      obtain ⟨e0, e1, e2, e3, e4, e5, e6, e7, e8, e9, e10, e11, e12, e13⟩ := (blk14n_facts HZ.out).1
      refine bodyPost_ret (v := .tuple #[.agg #[.bool false, .int .u32 0, .slice none 0 0, .string ⟨#[]⟩, .bool false, .slice none 0 0, .string ⟨#[]⟩, .string ⟨#[]⟩, .int .u8 0, .bool false, .bool false, .bool false, .string ⟨#[]⟩, .string ⟨#[]⟩], .int .i64 (14)]) (by simp [results, Try.results27, go_sem, e0, e1, e2, e3, e4, e5, e6, e7, e8, e9, e10, e11, e12, e13]) rfl ?_
      rw [HR.out]
      exact ⟨.slice none 0 0, .slice none 0 0, rfl, View.nil _, View.nil _, FZ.out⟩
    rw [if_neg he2] at HR
    go_cut [30] (fun v30 wx => v30 = .bool false ∧ w3 = wx)
    case first =>
      by_cases he : r2.e = 0
      · have e0 : (r2.e == 0) = true := by simpa using he
        have n0 : ((vv : Int) != 5) = false := by
          have : vv = 5 := by
            refine Decidable.byContradiction fun h => he2 ⟨he, h⟩
          simp [this]
        go_wp2_with fail
        refine (err_any _ _ _ P3.i).mono ?_
        rintro _ _ ⟨rfl, rfl⟩
        go_wp2_with fail
        go_meet
        exact ⟨rfl, rfl⟩
      · have e0 : (r2.e == 0) = false := by simpa using he
        go_wp2_with fail
        refine (err_any _ _ _ P3.i).mono ?_
        rintro _ _ ⟨rfl, rfl⟩
        go_wp2_with fail
        go_meet
        exact ⟨rfl, rfl⟩
    case rest =>
      obtain ⟨rfl, rfl⟩ := hcut
      clear he2
      go_wp2_with fail
      refine (byte_any _ _ _ P3.i (by omega)).mono ?_
      rintro _ w4 ⟨rfl, h4, g4⟩
      have q4 := num_left' r2 1
      have hf := num_lt1 r2
      have P4 := P3.read h4 g4
      rw [cnFrom] at HR
      generalize r2.num 1 = N at *
      obtain ⟨f, r3⟩ := N
      dsimp only at P4 HR q4 hf ⊢
      clear P3 h4 g4
      have hbits := cnbits ⟨f, hf⟩
      dsimp only at hbits
      obtain ⟨f2, f4, f64, f128, f1, f8, f32, HBad⟩ := hbits
      unfold cnTail at HR
      generalize decide (f / 2 % 2 = 1) = clean at *
      generalize decide (f / 4 % 2 = 1) = hw at *
      generalize decide (f / 64 % 2 = 1) = hpw at *
      generalize decide (f / 128 % 2 = 1) = hu at *
      generalize decide (f % 2 = 1) = b1 at *
      generalize decide (f / 32 % 2 = 1) = ret at *
      generalize f / 8 % 4 = q at *
      obtain ⟨b4, f56⟩ : ∃ b4, decide (0 < bits .and .u8 (f : Int) 56) = b4 := ⟨_, rfl⟩
      obtain ⟨b2, fq⟩ : ∃ b2, ((q : Int) == 3) = b2 := ⟨_, rfl⟩
      rw [f56, fq] at HBad
      obtain ⟨bad, hbad⟩ : ∃ bad, cnBad f = bad := ⟨_, rfl⟩
      rw [hbad] at HBad
      have HF : Hid (cnFail f r3 = if bad = true then r3.fail 2 else r3) := Lib.hid (by rw [cnFail, hbad])
      have HBD := Lib.hid HBad
      clear HBad hbad
      have ql : (cnFail f r3).s.length ≤ r3.s.length := by
        rw [HF.out]
        split
        · unfold Rd.fail; split <;> exact Nat.le_refl _
        · exact Nat.le_refl _
      obtain ⟨ra, hra⟩ : ∃ ra, cnFail f r3 = ra := ⟨_, rfl⟩
      rw [hra] at HR HF ql
      clear hra
      obtain ⟨⟨keep, rb⟩, hk⟩ : ∃ x, ra.num 2 = x := ⟨_, rfl⟩
      obtain ⟨⟨props, rc⟩, hp⟩ : ∃ x, takeP rb 1 false = x := ⟨_, rfl⟩
      obtain ⟨⟨id, s1⟩, t1⟩ : ∃ x, rc.str = x := ⟨_, rfl⟩
      obtain ⟨⟨wp, s2⟩, t2⟩ : ∃ x, willP hw s1 = x := ⟨_, rfl⟩
      obtain ⟨⟨topic, s3⟩, t3⟩ : ∃ x, willT hw s2 = x := ⟨_, rfl⟩
      obtain ⟨⟨pay, s4⟩, t4⟩ : ∃ x, dataT hw s3 = x := ⟨_, rfl⟩
      obtain ⟨⟨user, s5⟩, t5⟩ : ∃ x, willT hu s4 = x := ⟨_, rfl⟩
      obtain ⟨⟨pass, s6⟩, t6⟩ : ∃ x, dataT hpw s5 = x := ⟨_, rfl⟩
      have HR' : Hid (cnParse s = if s6.ends = 0 then (⟨clean, keep, props, id, hw, wp, topic, pay, q, ret, hu, hpw, user, pass⟩, 0) else (noCn, s6.ends)) := Lib.hid (by rw [HR.out]; simp only [hk, hp, t1, t2, t3, t4, t5, t6])
      clear HR
      have hkl : keep < 4294967296 := by have := num_lt2 ra; rw [hk] at this; exact this
      have q5 := num_left' ra 2
      have q6 := takeP_left rb 1 false
      rw [hk] at q5
      rw [hp] at q6
      dsimp only at q5 q6
      have HK := Lib.hid hk
      have HP := Lib.hid hp
      have HT := Lib.hid (And.intro t1 (And.intro t2 (And.intro t3 (And.intro t4 (And.intro t5 t6)))))
      clear hk hp t1 t2 t3 t4 t5 t6
      have Q0 := Lib.hid (PbS.new P4 ⟨clean, 0, [], [], hw, [], [], [], 0, false, hu, hpw, [], []⟩ rfl rfl)
      go_upto_region 10 with (fail)
      obtain ⟨C, hC⟩ : ∃ C, w4.heap.size = C := ⟨_, rfl⟩
      obtain ⟨y, hy⟩ : ∃ y, w4.alloc (.cells #[.bool clean, .int .u32 0, .slice none 0 0, .string ⟨#[]⟩, .bool hw, .slice none 0 0, .string ⟨#[]⟩, .string ⟨#[]⟩, .int .u8 0, .bool false, .bool hu, .bool hpw, .string ⟨#[]⟩, .string ⟨#[]⟩] 48) = y := ⟨_, rfl⟩
      rw [hC]
      rw [hy]
      have Q1 : Hid (PbS w C ⟨clean, 0, [], [], hw, [], [], [], 0, false, hu, hpw, [], []⟩ (.slice none 0 0) (.slice none 0 0) r3 y) := Lib.hid (by rw [← hC, ← hy]; exact Q0.out)
      clear Q0 hy hC P4
      obtain ⟨⟨e0, e1, e2, e3, e4, e5, e6, e7, e8, e9, e10, e11, e12, e13⟩, ⟨k0, k1, k2, k3, k4, k5, k6, k7, k8, k9, k10, k11, k12, k13⟩, hcl_⟩ := (Q1.out.facts)
      go_cut [65] (fun v65 wx => v65 = .bool bad ∧ y = wx)
      case first =>
        cases b1 <;> cases b2 <;> cases hw <;> cases b4
        all_goals
          go_wp2
          go_meet
          rw [HBD.out]
          exact ⟨rfl, rfl⟩
      case rest =>
        obtain ⟨rfl, rfl⟩ := hcut
        clear f1 f56 fq HBD
        go_upto_if 65 with (fail)
        go_cut [] (fun wx => PbS w C ⟨clean, 0, [], [], hw, [], [], [], 0, false, hu, hpw, [], []⟩ (.slice none 0 0) (.slice none 0 0) ra wx)
        case first =>
          cases bad
          · have hra : ra = r3 := by simpa using HF.out
            go_wp2
            go_meet
            rw [hra]
            exact Q1.out
          · have hra := Lib.hid (show ra = r3.fail 2 by simpa using HF.out)
            go_wp2_with fail
            refine (fail_any _ _ 2 _ Q1.out.s.i).mono ?_
            rintro _ x5 ⟨rfl, i5, g5⟩
            go_wp2_with fail
            go_meet
            rw [hra.out]
            exact Q1.out.read i5 g5
        case rest =>
          clear HF
          have Q2 := hcut
          clear e0 e1 e2 e3 e4 e5 e6 e7 e8 e9 e10 e11 e12 e13 k0 k1 k2 k3 k4 k5 k6 k7 k8 k9 k10 k11 k12 k13 hcl_
          obtain ⟨⟨e0, e1, e2, e3, e4, e5, e6, e7, e8, e9, e10, e11, e12, e13⟩, ⟨k0, k1, k2, k3, k4, k5, k6, k7, k8, k9, k10, k11, k12, k13⟩, hcl_⟩ := (Q2.facts)
          have Q3 := Q2.set 8 (.int .u8 (q : Int)) ⟨clean, 0, [], [], hw, [], [], [], q, false, hu, hpw, [], []⟩ rfl rfl rfl
          have Q4 := Lib.hid (Q3.set 9 (.bool ret) ⟨clean, 0, [], [], hw, [], [], [], q, ret, hu, hpw, [], []⟩ rfl rfl rfl)
          clear Q1 hcut
          go_upto_region 13 with (fail)
          obtain ⟨z1, hz_⟩ : ∃ z1, (wc.setCell ⟨C, 8, none⟩ (.int .u8 (q : Int))).setCell ⟨C, 9, none⟩ (.bool ret) = z1 := ⟨_, rfl⟩
          rw [hz_] at Q4 ⊢
          clear hz_
          clear Q2 Q3
          clear e0 e1 e2 e3 e4 e5 e6 e7 e8 e9 e10 e11 e12 e13 k0 k1 k2 k3 k4 k5 k6 k7 k8 k9 k10 k11 k12 k13 hcl_
          obtain ⟨⟨e0, e1, e2, e3, e4, e5, e6, e7, e8, e9, e10, e11, e12, e13⟩, ⟨k0, k1, k2, k3, k4, k5, k6, k7, k8, k9, k10, k11, k12, k13⟩, hcl_⟩ := (Q4.out.facts)
          go_wp2_with fail
          refine (intwo_any _ _ _ Q4.out.s.i (by omega)).mono ?_
          rintro _ x5 ⟨rfl, i5, g5⟩
          rw [HK.out] at i5 ⊢
          dsimp only at i5 ⊢
          have Q5 := Q4.out.read i5 g5
          clear e0 e1 e2 e3 e4 e5 e6 e7 e8 e9 e10 e11 e12 e13 k0 k1 k2 k3 k4 k5 k6 k7 k8 k9 k10 k11 k12 k13 hcl_
          obtain ⟨⟨e0, e1, e2, e3, e4, e5, e6, e7, e8, e9, e10, e11, e12, e13⟩, ⟨k0, k1, k2, k3, k4, k5, k6, k7, k8, k9, k10, k11, k12, k13⟩, hcl_⟩ := (Q5.facts)
          have Q6 := Lib.hid (Q5.set 1 (.int .u32 (keep : Int)) ⟨clean, keep, [], [], hw, [], [], [], q, ret, hu, hpw, [], []⟩ rfl rfl rfl)
          clear Q4 i5 g5
          go_upto_region 14 with (fail)
          obtain ⟨z2, hz_⟩ : ∃ z2, x5.setCell ⟨C, 1, none⟩ (.int .u32 (keep : Int)) = z2 := ⟨_, rfl⟩
          rw [hz_] at Q6 ⊢
          clear hz_
          clear Q5
          clear e0 e1 e2 e3 e4 e5 e6 e7 e8 e9 e10 e11 e12 e13 k0 k1 k2 k3 k4 k5 k6 k7 k8 k9 k10 k11 k12 k13 hcl_
          obtain ⟨⟨e0, e1, e2, e3, e4, e5, e6, e7, e8, e9, e10, e11, e12, e13⟩, ⟨k0, k1, k2, k3, k4, k5, k6, k7, k8, k9, k10, k11, k12, k13⟩, hcl_⟩ := (Q6.out.facts)
          have hCz := blk_lt Q6.out.p
          go_wp2_with fail
          refine (take_b _ rb 1 false _ Q6.out.s.i (by omega)).mono ?_
          rintro _ x7 ⟨v', rfl, vv', vk', i7, g7⟩
          rw [HP.out] at vv' i7
          dsimp only at vv' i7
          obtain ⟨AV, cv, rfl⟩ := view_shape vv'
          have Q7 := Q6.out.read i7 g7
          clear e0 e1 e2 e3 e4 e5 e6 e7 e8 e9 e10 e11 e12 e13 k0 k1 k2 k3 k4 k5 k6 k7 k8 k9 k10 k11 k12 k13 hcl_
          obtain ⟨⟨e0, e1, e2, e3, e4, e5, e6, e7, e8, e9, e10, e11, e12, e13⟩, ⟨k0, k1, k2, k3, k4, k5, k6, k7, k8, k9, k10, k11, k12, k13⟩, hcl_⟩ := (Q7.facts)
          have Q8 := Lib.hid (Q7.setv props vv' (fun k hk => Nat.lt_of_lt_of_le hCz (vk' k hk)) ⟨clean, keep, props, [], hw, [], [], [], q, ret, hu, hpw, [], []⟩ rfl rfl rfl)
          clear Q6 i7 g7 vv' vk' hCz
          go_upto_region 15 with (fail)
          obtain ⟨z3, hz_⟩ : ∃ z3, x7.setCell ⟨C, 2, none⟩ (.slice AV props.length cv) = z3 := ⟨_, rfl⟩
          rw [hz_] at Q8 ⊢
          clear hz_
          clear Q7
          clear e0 e1 e2 e3 e4 e5 e6 e7 e8 e9 e10 e11 e12 e13 k0 k1 k2 k3 k4 k5 k6 k7 k8 k9 k10 k11 k12 k13 hcl_
          have hcb := Q8.out.cb
          have HPT : PtS z3 C (w.heap.size + 1) ⟨clean, keep, props, [], hw, [], [], [], q, ret, hu, hpw, [], []⟩ (.slice AV props.length cv) (.slice none 0 0) rc z3 := ⟨Q8.out.p, Q8.out.s.i, Fr.refl _ _, by omega, blk_lt Q8.out.p, blk_lt Q8.out.s.i, View.nil _, by simp [Value.ownBlock]⟩
          go_wp2_with fail
          refine (parts_any C (w.heap.size + 1) z3 clean keep props id hw wp topic pay q ret hu hpw user pass _ (.slice none 0 0) rc s1 s2 s3 s4 s5 s6 HPT (by omega) HT.out.1 HT.out.2.1 HT.out.2.2.1 HT.out.2.2.2.1 HT.out.2.2.2.2.1 HT.out.2.2.2.2.2).mono ?_
          rintro _ x9 ⟨rfl, u', hpt⟩
          have Q9 := Lib.hid (Q8.out.part hpt rfl)
          clear Q8 HPT hpt HT HK HP
          obtain ⟨AU, cu, rfl⟩ := view_shape Q9.out.uv
          go_wp2_with fail
          refine (end_any _ _ _ Q9.out.s.i).mono ?_
          rintro _ _ ⟨rfl, rfl⟩
          generalize s6.ends = E at *
          by_cases hE : E = 0
          · have E0 : (E != 0) = false := by simpa using hE
            rw [if_pos hE] at HR'
            clear hE
            have HZ := Lib.hid (setRow_heap _ _ _ (cnC ⟨clean, keep, props, id, hw, wp, topic, pay, q, ret, hu, hpw, user, pass⟩ (.slice AV props.length cv) (.slice AU wp.length cu)).toArray _ _ Q9.out.s.a)
            have FZ := Lib.hid (fr_row Q9.out.s.f (g := w.heap.size) (Or.inl (Nat.le_refl _)) (cnC ⟨clean, keep, props, id, hw, wp, topic, pay, q, ret, hu, hpw, user, pass⟩ (.slice AV props.length cv) (.slice AU wp.length cu)).toArray)
            have hcb9 := Q9.out.cb
            have VV := Lib.hid (Q9.out.vv.fr (fr_row (Fr.refl [w.heap.size] x9) (g := w.heap.size) (Or.inr (by simp)) (cnC ⟨clean, keep, props, id, hw, wp, topic, pay, q, ret, hu, hpw, user, pass⟩ (.slice AV props.length cv) (.slice AU wp.length cu)).toArray) (fun k hk e => by have := Q9.out.vk k hk; simp at e; omega))
            have VU := Lib.hid (Q9.out.uv.fr (fr_row (Fr.refl [w.heap.size] x9) (g := w.heap.size) (Or.inr (by simp)) (cnC ⟨clean, keep, props, id, hw, wp, topic, pay, q, ret, hu, hpw, user, pass⟩ (.slice AV props.length cv) (.slice AU wp.length cu)).toArray) (fun k hk e => by have := Q9.out.uk k hk; simp at e; omega))
            go_upto_region 19 with (fail)
            refine wp_region_lit ?_
            refine wpList_load_mid rfl 48 _ rfl C 0 (by rfl) (cnC ⟨clean, keep, props, id, hw, wp, topic, pay, q, ret, hu, hpw, user, pass⟩ (.slice AV props.length cv) (.slice AU wp.length cu)) _ (range_blk Q9.out.p rfl) Try.underlying48 rfl (by kernel_rfl) ?_
            refine wpList_store_row rfl 48 _ _ rfl w.heap.size (cnC ⟨clean, keep, props, id, hw, wp, topic, pay, q, ret, hu, hpw, user, pass⟩ (.slice AV props.length cv) (.slice AU wp.length cu)).toArray (by rfl) (by rfl) _ _ Q9.out.s.a (by kernel_rfl) rfl (cn_one _ _ _ rfl rfl) ?_
            go_wp2
            generalize x9.setRow w.heap.size (cnC ⟨clean, keep, props, id, hw, wp, topic, pay, q, ret, hu, hpw, user, pass⟩ (.slice AV props.length cv) (.slice AU wp.length cu)).toArray = W5 at *
            have hz : W5.cell? ⟨w.heap.size, 0, none⟩ = some (.bool clean) ∧ W5.cell? ⟨w.heap.size, 1, none⟩ = some (.int .u32 (keep : Int)) ∧ W5.cell? ⟨w.heap.size, 2, none⟩ = some (.slice AV props.length cv) ∧ W5.cell? ⟨w.heap.size, 3, none⟩ = some (.string ⟨id.toArray⟩) ∧ W5.cell? ⟨w.heap.size, 4, none⟩ = some (.bool hw) ∧ W5.cell? ⟨w.heap.size, 5, none⟩ = some (.slice AU wp.length cu) ∧ W5.cell? ⟨w.heap.size, 6, none⟩ = some (.string ⟨topic.toArray⟩) ∧ W5.cell? ⟨w.heap.size, 7, none⟩ = some (.string ⟨pay.toArray⟩) ∧ W5.cell? ⟨w.heap.size, 8, none⟩ = some (.int .u8 (q : Int)) ∧ W5.cell? ⟨w.heap.size, 9, none⟩ = some (.bool ret) ∧ W5.cell? ⟨w.heap.size, 10, none⟩ = some (.bool hu) ∧ W5.cell? ⟨w.heap.size, 11, none⟩ = some (.bool hpw) ∧ W5.cell? ⟨w.heap.size, 12, none⟩ = some (.string ⟨user.toArray⟩) ∧ W5.cell? ⟨w.heap.size, 13, none⟩ = some (.string ⟨pass.toArray⟩) := (blk14n_facts HZ.out).1
            obtain ⟨e0, e1, e2, e3, e4, e5, e6, e7, e8, e9, e10, e11, e12, e13⟩ := hz
            refine bodyPost_ret (v := .tuple #[.agg #[.bool clean, .int .u32 (keep : Int), .slice AV props.length cv, .string ⟨id.toArray⟩, .bool hw, .slice AU wp.length cu, .string ⟨topic.toArray⟩, .string ⟨pay.toArray⟩, .int .u8 (q : Int), .bool ret, .bool hu, .bool hpw, .string ⟨user.toArray⟩, .string ⟨pass.toArray⟩], .int .i64 0]) (by simp [results, Try.results27, go_sem, e0, e1, e2, e3, e4, e5, e6, e7, e8, e9, e10, e11, e12, e13]) rfl ?_
            rw [HR'.out]
            exact ⟨_, _, rfl, VV.out, VU.out, FZ.out⟩
          · have E0 : (E != 0) = true := by simpa using hE
            rw [if_neg hE] at HR'
            have HZ := Lib.hid (setRow_heap _ _ _ #[.bool false, .int .u32 0, .slice none 0 0, .string ⟨#[]⟩, .bool false, .slice none 0 0, .string ⟨#[]⟩, .string ⟨#[]⟩, .int .u8 0, .bool false, .bool false, .bool false, .string ⟨#[]⟩, .string ⟨#[]⟩] _ _ Q9.out.s.a)
            have FZ := Lib.hid (fr_row Q9.out.s.f (g := w.heap.size) (Or.inl (Nat.le_refl _)) #[.bool false, .int .u32 0, .slice none 0 0, .string ⟨#[]⟩, .bool false, .slice none 0 0, .string ⟨#[]⟩, .string ⟨#[]⟩, .int .u8 0, .bool false, .bool false, .bool false, .string ⟨#[]⟩, .string ⟨#[]⟩])
            go_upto_region 18 with (fail)
            refine wp_region_lit ?_
            refine wpList_build rfl _ _ rfl (by kernel_rfl) ?_
            refine wpList_mv rfl _ rfl ?_
            refine wpList_store_row rfl 48 _ _ rfl w.heap.size #[.bool false, .int .u32 0, .slice none 0 0, .string ⟨#[]⟩, .bool false, .slice none 0 0, .string ⟨#[]⟩, .string ⟨#[]⟩, .int .u8 0, .bool false, .bool false, .bool false, .string ⟨#[]⟩, .string ⟨#[]⟩] (by rfl) (by kernel_rfl) _ _ Q9.out.s.a (by kernel_rfl) rfl (by kernel_rfl) ?_
            go_wp2
            generalize x9.setRow w.heap.size #[.bool false, .int .u32 0, .slice none 0 0, .string ⟨#[]⟩, .bool false, .slice none 0 0, .string ⟨#[]⟩, .string ⟨#[]⟩, .int .u8 0, .bool false, .bool false, .bool false, .string ⟨#[]⟩, .string ⟨#[]⟩] = W5 at *
            obtain ⟨e0, e1, e2, e3, e4, e5, e6, e7, e8, e9, e10, e11, e12, e13⟩ := (blk14n_facts HZ.out).1
            refine bodyPost_ret (v := .tuple #[.agg #[.bool false, .int .u32 0, .slice none 0 0, .string ⟨#[]⟩, .bool false, .slice none 0 0, .string ⟨#[]⟩, .string ⟨#[]⟩, .int .u8 0, .bool false, .bool false, .bool false, .string ⟨#[]⟩, .string ⟨#[]⟩], .int .i64 (E)]) (by simp [results, Try.results27, go_sem, e0, e1, e2, e3, e4, e5, e6, e7, e8, e9, e10, e11, e12, e13]) rfl ?_
            rw [HR'.out]
            exact ⟨.slice none 0 0, .slice none 0 0, rfl, View.nil _, View.nil _, FZ.out⟩
end Go.Proofs.Ytlhkgalmiajinaa
