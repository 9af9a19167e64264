/- What the reference of layer 6 reads as a connect: the same words as the program's. Conditions: strings that may be. -/
import Derived.Test.YtlhkgalmiajinaaConD
import Derived.Test.YtlhkgalmiajinaaPlainE
import Derived.Test.YtlhkgalmiajinaaPubT
import Derived.Test.YtlhkgalmiajinaaDrawn
import Derived.Test.YtlhkgalmiajinaaStep
import Derived.Test.YtlhkgalmiajinaaRes
namespace Go.Proofs.Ytlhkgalmiajinaa
open Go.RowKit
set_option linter.unusedVariables false
set_option linter.unusedSimpArgs false

theorem wanting_any (e : Int) (w : World) : Calls Try.prog 79 #[.int .i64 e] w fun e' w' => e' = .returned (.int .i64 (wantE e)) ∧ w = w' := by
  have HB : Hid (wantE e = if e = 1 then 2 else e) := Lib.hid rfl
  by_cases h : e = 1
  · have h0 : (e == 1) = true := by simpa using h
    rw [if_pos h] at HB
    clear h
    go_enter Try.func79, Try.ntmps79
    go_wp2
    go_ret
    rw [HB.out]
    exact ⟨rfl, rfl⟩
  · have h0 : (e == 1) = false := by simpa using h
    rw [if_neg h] at HB
    clear h
    go_enter Try.func79, Try.ntmps79
    go_wp2
    go_ret
    rw [HB.out]
    exact ⟨rfl, rfl⟩
/-- While the reference reads: its result's cells behind w, its connect behind these, the cursor in block D. -/
structure RcS (w : World) (D : Nat) (c : Cn) (v u : Value) (r : Rd) (y : World) : Prop where
  a : y.heap[w.heap.size]? = some (.cells #[.bool false, .int .u32 0, .slice none 0 0, .string ⟨#[]⟩, .bool false, .slice none 0 0, .string ⟨#[]⟩, .string ⟨#[]⟩, .int .u8 0, .bool false, .bool false, .bool false, .string ⟨#[]⟩, .string ⟨#[]⟩] 57 (0, 0))
  p : y.heap[w.heap.size + 1]? = some (.cells (cnC c v u).toArray 57 (0, 0))
  d : y.heap[D]? = some (.cells #[.string ⟨r.s.toArray⟩, .int .i64 r.e] 125 (0, 0))
  f : Fr [] w y
  db : w.heap.size + 1 < D
  vv : View y v c.props.length (c.props.flatMap prE)
  vk : ∀ k, v.ownBlock = some k → D < k
  uv : View y u c.wp.length (c.wp.flatMap prE)
  uk : ∀ k, u.ownBlock = some k → D < k
theorem RcS.go {w y y' : World} {D : Nat} {c : Cn} {v u : Value} {r : Rd} (h : RcS w D c v u r y) (g : Fr [] y y') : RcS w D c v u r y' :=
  ⟨g.blk h.a (by simp), g.blk h.p (by simp), g.blk h.d (by simp), h.f.trans g (by simp), h.db, h.vv.old g (by simp), h.vk, h.uv.old g (by simp), h.uk⟩
theorem RcS.setd {w y : World} {D : Nat} {c : Cn} {v u : Value} {r : Rd} (h : RcS w D c v u r y) (r' : Rd) : RcS w D c v u r' ((y.setCell ⟨D, 0, none⟩ (.string ⟨r'.s.toArray⟩)).setCell ⟨D, 1, none⟩ (.int .i64 r'.e)) := by
  have hd := h.db
  have g : Fr [D] y ((y.setCell ⟨D, 0, none⟩ (.string ⟨r'.s.toArray⟩)).setCell ⟨D, 1, none⟩ (.int .i64 r'.e)) := ((Fr.refl [D] y).setCell (Or.inr (by simp)) _).setCell (Or.inr (by simp)) _
  exact ⟨g.blk h.a (by simp; omega), g.blk h.p (by simp; omega), blk2_set h.d _ _, h.f.trans g (by intro x hx e; simp at e; omega), hd, h.vv.fr g (fun k hk e => by have := h.vk k hk; simp at e; omega), h.vk, h.uv.fr g (fun k hk e => by have := h.uk k hk; simp at e; omega), h.uk⟩
theorem RcS.set {w y : World} {D : Nat} {c : Cn} {v u : Value} {r : Rd} (h : RcS w D c v u r y) (i : Nat) (x : Value) (c' : Cn) (hc : (cnC c v u).toArray.setIfInBounds i x = (cnC c' v u).toArray) (hp : c'.props = c.props) (hw : c'.wp = c.wp) : RcS w D c' v u r (y.setCell ⟨w.heap.size + 1, i, none⟩ x) := by
  have hd := h.db
  have g : Fr [w.heap.size + 1] y (y.setCell ⟨w.heap.size + 1, i, none⟩ x) := (Fr.refl _ _).setCell (Or.inr (by simp)) x
  refine ⟨g.blk h.a (by simp), by rw [← hc]; exact blk_set h.p i x, g.blk h.d (by simp; omega), h.f.trans g (by intro x hx e; simp at e; omega), hd, ?_, h.vk, ?_, h.uk⟩
  · rw [hp]; exact h.vv.fr g (fun k hk e => by have := h.vk k hk; simp at e; omega)
  · rw [hw]; exact h.uv.fr g (fun k hk e => by have := h.uk k hk; simp at e; omega)
theorem RcS.setv {w y : World} {D : Nat} {c : Cn} {v v' u : Value} {r : Rd} (h : RcS w D c v u r y) (l : List Pr) (hv : View y v' l.length (l.flatMap prE)) (hk : ∀ k, v'.ownBlock = some k → D < k) (c' : Cn) (hc : (cnC c v u).toArray.setIfInBounds 2 v' = (cnC c' v' u).toArray) (hp : c'.props = l) (hw : c'.wp = c.wp) : RcS w D c' v' u r (y.setCell ⟨w.heap.size + 1, 2, none⟩ v') := by
  have hd := h.db
  have g : Fr [w.heap.size + 1] y (y.setCell ⟨w.heap.size + 1, 2, none⟩ v') := (Fr.refl _ _).setCell (Or.inr (by simp)) v'
  refine ⟨g.blk h.a (by simp), by rw [← hc]; exact blk_set h.p 2 v', g.blk h.d (by simp; omega), h.f.trans g (by intro x hx e; simp at e; omega), hd, ?_, hk, ?_, h.uk⟩
  · rw [hp]; exact hv.fr g (fun k hk' e => by have := hk k hk'; simp at e; omega)
  · rw [hw]; exact h.uv.fr g (fun k hk e => by have := h.uk k hk; simp at e; omega)
theorem RcS.setu {w y : World} {D : Nat} {c : Cn} {v u u' : Value} {r : Rd} (h : RcS w D c v u r y) (l : List Pr) (hu : View y u' l.length (l.flatMap prE)) (hk : ∀ k, u'.ownBlock = some k → D < k) (c' : Cn) (hc : (cnC c v u).toArray.setIfInBounds 5 u' = (cnC c' v u').toArray) (hp : c'.props = c.props) (hw : c'.wp = l) : RcS w D c' v u' r (y.setCell ⟨w.heap.size + 1, 5, none⟩ u') := by
  have hd := h.db
  have g : Fr [w.heap.size + 1] y (y.setCell ⟨w.heap.size + 1, 5, none⟩ u') := (Fr.refl _ _).setCell (Or.inr (by simp)) u'
  refine ⟨g.blk h.a (by simp), by rw [← hc]; exact blk_set h.p 5 u', g.blk h.d (by simp; omega), h.f.trans g (by intro x hx e; simp at e; omega), hd, ?_, h.vk, ?_, hk⟩
  · rw [hp]; exact h.vv.fr g (fun k hk e => by have := h.vk k hk; simp at e; omega)
  · rw [hw]; exact hu.fr g (fun k hk' e => by have := hk k hk'; simp at e; omega)
theorem RcS.facts {w y : World} {D : Nat} {clean : Bool} {keep : Nat} {props : List Pr} {id : List UInt8} {hasWill : Bool} {wp : List Pr} {topic pay : List UInt8} {qos : Nat} {ret hasUser hasPass : Bool} {user pass : List UInt8} {v u : Value} {r : Rd} (h : RcS w D ⟨clean, keep, props, id, hasWill, wp, topic, pay, qos, ret, hasUser, hasPass, user, pass⟩ v u r y) : ((fun w' => w'.cell? ⟨w.heap.size + 1, 0, none⟩ = some (.bool clean) ∧ w'.cell? ⟨w.heap.size + 1, 1, none⟩ = some (.int .u32 (keep : Int)) ∧ w'.cell? ⟨w.heap.size + 1, 2, none⟩ = some (v) ∧ w'.cell? ⟨w.heap.size + 1, 3, none⟩ = some (.string ⟨id.toArray⟩) ∧ w'.cell? ⟨w.heap.size + 1, 4, none⟩ = some (.bool hasWill) ∧ w'.cell? ⟨w.heap.size + 1, 5, none⟩ = some (u) ∧ w'.cell? ⟨w.heap.size + 1, 6, none⟩ = some (.string ⟨topic.toArray⟩) ∧ w'.cell? ⟨w.heap.size + 1, 7, none⟩ = some (.string ⟨pay.toArray⟩) ∧ w'.cell? ⟨w.heap.size + 1, 8, none⟩ = some (.int .u8 (qos : Int)) ∧ w'.cell? ⟨w.heap.size + 1, 9, none⟩ = some (.bool ret) ∧ w'.cell? ⟨w.heap.size + 1, 10, none⟩ = some (.bool hasUser) ∧ w'.cell? ⟨w.heap.size + 1, 11, none⟩ = some (.bool hasPass) ∧ w'.cell? ⟨w.heap.size + 1, 12, none⟩ = some (.string ⟨user.toArray⟩) ∧ w'.cell? ⟨w.heap.size + 1, 13, none⟩ = some (.string ⟨pass.toArray⟩)) y) ∧ (y.frozen? ⟨w.heap.size + 1, 0, none⟩ = false ∧ y.frozen? ⟨w.heap.size + 1, 1, none⟩ = false ∧ y.frozen? ⟨w.heap.size + 1, 2, none⟩ = false ∧ y.frozen? ⟨w.heap.size + 1, 3, none⟩ = false ∧ y.frozen? ⟨w.heap.size + 1, 4, none⟩ = false ∧ y.frozen? ⟨w.heap.size + 1, 5, none⟩ = false ∧ y.frozen? ⟨w.heap.size + 1, 6, none⟩ = false ∧ y.frozen? ⟨w.heap.size + 1, 7, none⟩ = false ∧ y.frozen? ⟨w.heap.size + 1, 8, none⟩ = false ∧ y.frozen? ⟨w.heap.size + 1, 9, none⟩ = false ∧ y.frozen? ⟨w.heap.size + 1, 10, none⟩ = false ∧ y.frozen? ⟨w.heap.size + 1, 11, none⟩ = false ∧ y.frozen? ⟨w.heap.size + 1, 12, none⟩ = false ∧ y.frozen? ⟨w.heap.size + 1, 13, none⟩ = false) ∧ w.heap.size + 1 < y.heap.size := blk14n_facts h.p
def RcU (w : World) (D : Nat) (c : Cn) (v : Value) (r : Rd) (y : World) : Prop := ∃ u, RcS w D c v u r y
theorem RcS.zero {w y : World} {D : Nat} {r : Rd} (h : RcS w D noCn (.slice none 0 0) (.slice none 0 0) r y) : y.heap[w.heap.size + 1]? = some (.cells #[.bool false, .int .u32 0, .slice none 0 0, .string ⟨#[]⟩, .bool false, .slice none 0 0, .string ⟨#[]⟩, .string ⟨#[]⟩, .int .u8 0, .bool false, .bool false, .bool false, .string ⟨#[]⟩, .string ⟨#[]⟩] 57 (0, 0)) := by
  have := h.p
  simpa [cnC, noCn] using this
theorem rtakep6_any (r : Rd) (kind : Int) (isWill : Bool) (w : World) (hs : r.s.length ≤ 1000000) :
    Calls Try.prog 81 #[.agg #[.string ⟨r.s.toArray⟩, .int .i64 r.e], .int .i64 kind, .bool isWill] w fun e w' => ∃ v', e = .returned (.tuple #[.agg #[.string ⟨(takeP r kind isWill).2.s.toArray⟩, .int .i64 (takeP r kind isWill).2.e], v']) ∧ View w' v' (takeP r kind isWill).1.length ((takeP r kind isWill).1.flatMap prE) ∧ (∀ k, v'.ownBlock = some k → w.heap.size ≤ k) ∧ Fr [] w w' := by
  refine (rprops_any r kind isWill w hs).mono ?_
  rintro _ w' ⟨v', rfl, own, g⟩
  exact ⟨v', rfl, own_view own, own_low own, g⟩
/-- The same, of the reference. -/
theorem cnrbits : ∀ f : Fin 256, (((f.val : Int) / 2 % 2 == 1) = decide (f.val / 2 % 2 = 1)) ∧ (((f.val : Int) / 4 % 2 == 1) = decide (f.val / 4 % 2 = 1)) ∧ (((f.val : Int) / 64 % 2 == 1) = decide (f.val / 64 % 2 = 1)) ∧ (((f.val : Int) / 128 % 2 == 1) = decide (f.val / 128 % 2 = 1)) ∧ (((f.val : Int) / 32 % 2 == 1) = decide (f.val / 32 % 2 = 1)) ∧
    (f.val : Int) / 8 % 4 = ((f.val / 8 % 4 : Nat) : Int) ∧
    cnBad f.val = (((f.val : Int) % 2 == 1) || ((f.val / 8 % 4 : Nat) : Int) == 3 || (!(decide (f.val / 4 % 2 = 1)) && decide (0 < (f.val : Int) / 8 % 8))) := by decide +kernel
set_option maxRecDepth 100000 in
set_option maxHeartbeats 8000000 in
theorem rcnparse_any (s : List UInt8) (w : World) (hs : s.length ≤ 1000000) :
    Calls Try.prog 42 #[.string ⟨s.toArray⟩] w (CnTo (cnParse s) w) := by
  have HR : Hid (cnParse s = if (Rd.str ⟨s, 0⟩).2.e = 0 ∧ (Rd.str ⟨s, 0⟩).1 ≠ mqtt then (noCn, 14) else if ((Rd.str ⟨s, 0⟩).2.num 1).2.e = 0 ∧ ((Rd.str ⟨s, 0⟩).2.num 1).1 ≠ 5 then (noCn, 14) else cnFrom ((Rd.str ⟨s, 0⟩).2.num 1).2) := Lib.hid rfl
  have q2 : (Rd.str ⟨s, 0⟩).2.s.length ≤ s.length := Rd.str_left ⟨s, 0⟩
  have hA0 := blk_old (blk_new w (.cells #[.bool false, .int .u32 0, .slice none 0 0, .string ⟨#[]⟩, .bool false, .slice none 0 0, .string ⟨#[]⟩, .string ⟨#[]⟩, .int .u8 0, .bool false, .bool false, .bool false, .string ⟨#[]⟩, .string ⟨#[]⟩] 57)) (.cells #[.bool false, .int .u32 0, .slice none 0 0, .string ⟨#[]⟩, .bool false, .slice none 0 0, .string ⟨#[]⟩, .string ⟨#[]⟩, .int .u8 0, .bool false, .bool false, .bool false, .string ⟨#[]⟩, .string ⟨#[]⟩] 57)
  have hX0 := blk_at1 w (.cells #[.bool false, .int .u32 0, .slice none 0 0, .string ⟨#[]⟩, .bool false, .slice none 0 0, .string ⟨#[]⟩, .string ⟨#[]⟩, .int .u8 0, .bool false, .bool false, .bool false, .string ⟨#[]⟩, .string ⟨#[]⟩] 57) (.cells #[.bool false, .int .u32 0, .slice none 0 0, .string ⟨#[]⟩, .bool false, .slice none 0 0, .string ⟨#[]⟩, .string ⟨#[]⟩, .int .u8 0, .bool false, .bool false, .bool false, .string ⟨#[]⟩, .string ⟨#[]⟩] 57)
  have F0 : Fr [] w ((w.alloc (.cells #[.bool false, .int .u32 0, .slice none 0 0, .string ⟨#[]⟩, .bool false, .slice none 0 0, .string ⟨#[]⟩, .string ⟨#[]⟩, .int .u8 0, .bool false, .bool false, .bool false, .string ⟨#[]⟩, .string ⟨#[]⟩] 57)).alloc (.cells #[.bool false, .int .u32 0, .slice none 0 0, .string ⟨#[]⟩, .bool false, .slice none 0 0, .string ⟨#[]⟩, .string ⟨#[]⟩, .int .u8 0, .bool false, .bool false, .bool false, .string ⟨#[]⟩, .string ⟨#[]⟩] 57)) := ((Fr.refl _ _).alloc _).alloc _
  go_enter Try.func42, Try.ntmps42
  go_wp2_with fail
  refine (rtake_any ⟨s, 0⟩ _ (by show s.length ≤ _; omega)).mono ?_
  rintro _ w2 ⟨rfl, g2⟩
  generalize Rd.str ⟨s, 0⟩ = N at *
  obtain ⟨name, r1⟩ := N
  dsimp only at HR q2 ⊢
  have hl2 : w.heap.size + 1 < w2.heap.size := by have := g2.size; simp at this; omega
  have Q0 : RcS w w2.heap.size noCn (.slice none 0 0) (.slice none 0 0) r1 (w2.alloc (.cells #[.string ⟨r1.s.toArray⟩, .int .i64 r1.e] 125)) :=
    ⟨blk_old (g2.blk hA0 (by simp)) _, blk_old (g2.blk hX0 (by simp)) _, blk_new _ _, (F0.trans g2 (by simp)).alloc _, hl2, View.nil _, by simp [Value.ownBlock], View.nil _, by simp [Value.ownBlock]⟩
  clear hA0 hX0 F0 g2
  go_upto_region 3 with (fail)
  obtain ⟨D, hD⟩ : ∃ D, w2.heap.size = D := ⟨_, rfl⟩
  obtain ⟨y, hy⟩ : ∃ y, w2.alloc (.cells #[.string ⟨r1.s.toArray⟩, .int .i64 r1.e] 125) = y := ⟨_, rfl⟩
  rw [hD]
  rw [hy]
  have Q1 := Lib.hid (show RcS w D noCn (.slice none 0 0) (.slice none 0 0) r1 y by rw [← hD, ← hy]; exact Q0)
  clear Q0 hy hD hl2
  obtain ⟨c0, c1, f0_, f1_, hdl_⟩ := blk2_facts (Q1.out.d)
  by_cases he1 : r1.e = 0
  case neg =>
    have e0 : (r1.e != 0) = true := by simpa using he1
    have HR1 := Lib.hid (show cnParse s = (noCn, wantE r1.e) by
      rw [HR.out, if_neg (fun q => he1 q.1), num_bad r1 1 he1]
      dsimp only
      rw [if_neg (fun q => he1 q.1), cnFrom_bad r1 he1])
    clear HR he1
    go_upto_region 4 with (fail)
    obtain ⟨⟨e0, e1, e2, e3, e4, e5, e6, e7, e8, e9, e10, e11, e12, e13⟩, _, _⟩ := blk14n_facts (RcS.zero Q1.out)
    have HD := Lib.hid (Q1.out.go ((Fr.refl [] y).drew))
    refine wp_region_late [] (S := (fun w' => (w'.cell? ⟨w.heap.size + 1, 0, none⟩ = some (.bool false) ∧ w'.cell? ⟨w.heap.size + 1, 1, none⟩ = some (.int .u32 0) ∧ w'.cell? ⟨w.heap.size + 1, 2, none⟩ = some (.slice none 0 0) ∧ w'.cell? ⟨w.heap.size + 1, 3, none⟩ = some (.string ⟨#[]⟩) ∧ w'.cell? ⟨w.heap.size + 1, 4, none⟩ = some (.bool false) ∧ w'.cell? ⟨w.heap.size + 1, 5, none⟩ = some (.slice none 0 0) ∧ w'.cell? ⟨w.heap.size + 1, 6, none⟩ = some (.string ⟨#[]⟩) ∧ w'.cell? ⟨w.heap.size + 1, 7, none⟩ = some (.string ⟨#[]⟩) ∧ w'.cell? ⟨w.heap.size + 1, 8, none⟩ = some (.int .u8 0) ∧ w'.cell? ⟨w.heap.size + 1, 9, none⟩ = some (.bool false) ∧ w'.cell? ⟨w.heap.size + 1, 10, none⟩ = some (.bool false) ∧ w'.cell? ⟨w.heap.size + 1, 11, none⟩ = some (.bool false) ∧ w'.cell? ⟨w.heap.size + 1, 12, none⟩ = some (.string ⟨#[]⟩) ∧ w'.cell? ⟨w.heap.size + 1, 13, none⟩ = some (.string ⟨#[]⟩)) ∧ w'.cell? ⟨D, 1, none⟩ = some (.int .i64 r1.e))) (by kernel_rfl) ⟨⟨e0, e1, e2, e3, e4, e5, e6, e7, e8, e9, e10, e11, e12, e13⟩, c1⟩ (fun hHeld => ?_)
    clear e0 e1 e2 e3 e4 e5 e6 e7 e8 e9 e10 e11 e12 e13
    refine wpLate_take (i := 0) (oi := _) (v := ?_) rfl (by kernel_rfl) (by kernel_rfl) (by kernel_rfl) (by kernel_rfl) (fun _ _ _ h => h) (Gives.load (by rfl) ?_) hHeld ?_
    rotate_left
    · intro w hSw
      (try dsimp only at hSw)
      go_simp
      try with_reducible rfl
    try simp only [Act.put, List.getElem_toArray, List.getElem_cons_succ, List.getElem_cons_zero, List.setIfInBounds_toArray, List.set_cons_zero, List.set_cons_succ]
    refine wpLate_take (i := 1) (oi := _) (v := ?_) rfl (by kernel_rfl) (by kernel_rfl) (by kernel_rfl) (by kernel_rfl) (fun _ _ _ h => h) (Gives.load (by rfl) ?_) hHeld ?_
    rotate_left
    · intro w hSw
      (try dsimp only at hSw)
      go_simp
      try with_reducible rfl
    try simp only [Act.put, List.getElem_toArray, List.getElem_cons_succ, List.getElem_cons_zero, List.setIfInBounds_toArray, List.set_cons_zero, List.set_cons_succ]
    refine wpLate_take (i := 2) (oi := _) (v := ?_) rfl (by kernel_rfl) (by kernel_rfl) (by kernel_rfl) (by kernel_rfl) (fun _ _ _ h => h) (Gives.load (by rfl) ?_) hHeld ?_
    rotate_left
    · intro w hSw
      (try dsimp only at hSw)
      go_simp
      try with_reducible rfl
    try simp only [Act.put, List.getElem_toArray, List.getElem_cons_succ, List.getElem_cons_zero, List.setIfInBounds_toArray, List.set_cons_zero, List.set_cons_succ]
    refine wpLate_pure (i := 3) (oi := _) (v := .int .i64 (wantE r1.e)) rfl (by kernel_rfl) (by kernel_rfl) (by kernel_rfl) (by kernel_rfl) (fun _ _ _ h => h) (Gives.quiet 79 #[.int .i64 r1.e] (by rfl) ?_ (fun w => wanting_any r1.e w)) (fun _ => hHeld) ?_
    · intro w
      go_simp
    try simp only [Act.put, List.getElem_toArray, List.getElem_cons_succ, List.getElem_cons_zero, List.setIfInBounds_toArray, List.set_cons_zero, List.set_cons_succ]
    refine wpLate_ready (rs := [4]) (by kernel_rfl) (by simp) ?_
    refine AllLate.cons (o := _) rfl (fun K hK => ?_) ?_
    · refine step_store_row rfl 57 _ _ rfl w.heap.size #[.bool false, .int .u32 0, .slice none 0 0, .string ⟨#[]⟩, .bool false, .slice none 0 0, .string ⟨#[]⟩, .string ⟨#[]⟩, .int .u8 0, .bool false, .bool false, .bool false, .string ⟨#[]⟩, .string ⟨#[]⟩] (by rfl) (by rfl) _ _ HD.out.a (by kernel_rfl) rfl (by kernel_rfl) ?_
      have hx4 : (y.drew.setRow w.heap.size #[.bool false, .int .u32 0, .slice none 0 0, .string ⟨#[]⟩, .bool false, .slice none 0 0, .string ⟨#[]⟩, .string ⟨#[]⟩, .int .u8 0, .bool false, .bool false, .bool false, .string ⟨#[]⟩, .string ⟨#[]⟩]).heap[w.heap.size + 1]? = some (.cells #[.bool false, .int .u32 0, .slice none 0 0, .string ⟨#[]⟩, .bool false, .slice none 0 0, .string ⟨#[]⟩, .string ⟨#[]⟩, .int .u8 0, .bool false, .bool false, .bool false, .string ⟨#[]⟩, .string ⟨#[]⟩] 57 (0, 0)) := by rw [setRow_other _ _ _ _ (by omega)]; exact RcS.zero HD.out
      have hd4 : (y.drew.setRow w.heap.size #[.bool false, .int .u32 0, .slice none 0 0, .string ⟨#[]⟩, .bool false, .slice none 0 0, .string ⟨#[]⟩, .string ⟨#[]⟩, .int .u8 0, .bool false, .bool false, .bool false, .string ⟨#[]⟩, .string ⟨#[]⟩]).heap[D]? = some (.cells #[.string ⟨r1.s.toArray⟩, .int .i64 r1.e] 125 (0, 0)) := by rw [setRow_other _ _ _ _ (by have := HD.out.db; omega)]; exact HD.out.d
      refine hK.out _ _ (fun _ => ⟨(blk14n_facts hx4).1, (blk2_facts hd4).2.1⟩) (fun hHeld => ?_)
      replace hHeld := hHeld (by kernel_rfl)
      clear hK K hx4 hd4
      try simp only [Act.put, List.getElem_toArray, List.getElem_cons_succ, List.getElem_cons_zero, List.setIfInBounds_toArray, List.set_cons_zero, List.set_cons_succ]
      refine wpLate_pure (i := 5) (oi := _) (v := ?_) rfl (by kernel_rfl) (by kernel_rfl) (by kernel_rfl) (by kernel_rfl) (fun _ _ _ h => h) (Gives.load (by rfl) ?_) (fun _ => hHeld) ?_
      rotate_left
      · intro w hSw
        clear hSw
        go_simp
        try with_reducible rfl
      try simp only [Act.put, List.getElem_toArray, List.getElem_cons_succ, List.getElem_cons_zero, List.setIfInBounds_toArray, List.set_cons_zero, List.set_cons_succ]
      refine wpLate_done (by kernel_rfl) ?_ _
      clear c0 c1 f0_ f1_ hdl_
      have HZ := Lib.hid (setRow_heap _ _ _ #[.bool false, .int .u32 0, .slice none 0 0, .string ⟨#[]⟩, .bool false, .slice none 0 0, .string ⟨#[]⟩, .string ⟨#[]⟩, .int .u8 0, .bool false, .bool false, .bool false, .string ⟨#[]⟩, .string ⟨#[]⟩] _ _ HD.out.a)
      have FZ := Lib.hid (fr_row HD.out.f (g := w.heap.size) (Or.inl (Nat.le_refl _)) #[.bool false, .int .u32 0, .slice none 0 0, .string ⟨#[]⟩, .bool false, .slice none 0 0, .string ⟨#[]⟩, .string ⟨#[]⟩, .int .u8 0, .bool false, .bool false, .bool false, .string ⟨#[]⟩, .string ⟨#[]⟩])
      go_wp2
      generalize y.drew.setRow w.heap.size #[.bool false, .int .u32 0, .slice none 0 0, .string ⟨#[]⟩, .bool false, .slice none 0 0, .string ⟨#[]⟩, .string ⟨#[]⟩, .int .u8 0, .bool false, .bool false, .bool false, .string ⟨#[]⟩, .string ⟨#[]⟩] = W5 at *
      refine bodyPost_ret (res_cell2 Try.results42 _ _ w.heap.size [.bool false, .int .u32 0, .slice none 0 0, .string ⟨#[]⟩, .bool false, .slice none 0 0, .string ⟨#[]⟩, .string ⟨#[]⟩, .int .u8 0, .bool false, .bool false, .bool false, .string ⟨#[]⟩, .string ⟨#[]⟩] _ (.int .i64 (wantE r1.e)) (by first | kernel_rfl | rfl) (by first | kernel_rfl | rfl) (range_blk HZ.out rfl) Try.underlying57 rfl (by kernel_rfl)) rfl ?_
      rw [HR1.out]
      exact ⟨.slice none 0 0, .slice none 0 0, rfl, View.nil _, View.nil _, FZ.out⟩
    exact AllLate.nil
  case pos =>
    have e0 : (r1.e != 0) = false := by simpa using he1
    by_cases hn : name = mqtt
    case neg =>
      have n0 : (name == [77, 81, 84, 84]) = false := by simpa [mqtt] using hn
      have HR1 := Lib.hid (show cnParse s = (noCn, 14) by rw [HR.out, if_pos ⟨he1, hn⟩])
      clear HR hn he1
      go_upto_region 6 with (fail)
      refine wp_region_lit ?_
      refine wpList_load_mid rfl 57 _ rfl (w.heap.size + 1) 0 (by rfl) [.bool false, .int .u32 0, .slice none 0 0, .string ⟨#[]⟩, .bool false, .slice none 0 0, .string ⟨#[]⟩, .string ⟨#[]⟩, .int .u8 0, .bool false, .bool false, .bool false, .string ⟨#[]⟩, .string ⟨#[]⟩] _ (range_blk (RcS.zero Q1.out) rfl) Try.underlying57 rfl (by kernel_rfl) ?_
      refine wpList_store_row rfl 57 _ _ rfl w.heap.size #[.bool false, .int .u32 0, .slice none 0 0, .string ⟨#[]⟩, .bool false, .slice none 0 0, .string ⟨#[]⟩, .string ⟨#[]⟩, .int .u8 0, .bool false, .bool false, .bool false, .string ⟨#[]⟩, .string ⟨#[]⟩] (by rfl) (by rfl) _ _ (Q1.out).a (by kernel_rfl) rfl (by kernel_rfl) ?_
      have HZ := Lib.hid (setRow_heap _ _ _ #[.bool false, .int .u32 0, .slice none 0 0, .string ⟨#[]⟩, .bool false, .slice none 0 0, .string ⟨#[]⟩, .string ⟨#[]⟩, .int .u8 0, .bool false, .bool false, .bool false, .string ⟨#[]⟩, .string ⟨#[]⟩] _ _ Q1.out.a)
      have FZ := Lib.hid (fr_row Q1.out.f (g := w.heap.size) (Or.inl (Nat.le_refl _)) #[.bool false, .int .u32 0, .slice none 0 0, .string ⟨#[]⟩, .bool false, .slice none 0 0, .string ⟨#[]⟩, .string ⟨#[]⟩, .int .u8 0, .bool false, .bool false, .bool false, .string ⟨#[]⟩, .string ⟨#[]⟩])
      go_wp2
      generalize y.setRow w.heap.size #[.bool false, .int .u32 0, .slice none 0 0, .string ⟨#[]⟩, .bool false, .slice none 0 0, .string ⟨#[]⟩, .string ⟨#[]⟩, .int .u8 0, .bool false, .bool false, .bool false, .string ⟨#[]⟩, .string ⟨#[]⟩] = W5 at *
      refine bodyPost_ret (res_cell2 Try.results42 _ _ w.heap.size [.bool false, .int .u32 0, .slice none 0 0, .string ⟨#[]⟩, .bool false, .slice none 0 0, .string ⟨#[]⟩, .string ⟨#[]⟩, .int .u8 0, .bool false, .bool false, .bool false, .string ⟨#[]⟩, .string ⟨#[]⟩] _ (.int .i64 (14)) (by first | kernel_rfl | rfl) (by first | kernel_rfl | rfl) (range_blk HZ.out rfl) Try.underlying57 rfl (by kernel_rfl)) rfl ?_
      rw [HR1.out]
      exact ⟨.slice none 0 0, .slice none 0 0, rfl, View.nil _, View.nil _, FZ.out⟩
    case pos =>
      have n0 : (name == [77, 81, 84, 84]) = true := by simp [hn, mqtt]
      rw [if_neg (show ¬ (r1.e = 0 ∧ name ≠ mqtt) from fun q => q.2 hn)] at HR
      have HE1 := Lib.hid he1
      clear hn he1
      have q3 := num_left' r1 1
      go_wp2_with fail
      refine (rnum_any r1 1 _ (by omega) (by decide) (by decide)).mono ?_
      rintro _ w3 ⟨rfl, g3⟩
      rw [show (1 : Int).toNat = 1 from rfl]
      have HE2 := Lib.hid (num_e1 r1 1 HE1.out)
      generalize r1.num 1 = N at *
      obtain ⟨vv, r2⟩ := N
      dsimp only at HR q3 HE2 ⊢
      clear HE1
      have Q2 := Q1.out.go g3
      clear c0 c1 f0_ f1_ hdl_
      obtain ⟨c0, c1, f0_, f1_, hdl_⟩ := blk2_facts (Q2.d)
      have Q3 := Lib.hid (Q2.setd r2)
      go_upto_region 8 with (fail)
      obtain ⟨z1, hz_⟩ : ∃ z1, (w3.setCell ⟨D, 0, none⟩ (.string ⟨r2.s.toArray⟩)).setCell ⟨D, 1, none⟩ (.int .i64 r2.e) = z1 := ⟨_, rfl⟩
      rw [hz_] at Q3 ⊢
      clear hz_
      clear Q1 Q2 g3
      clear c0 c1 f0_ f1_ hdl_
      obtain ⟨c0, c1, f0_, f1_, hdl_⟩ := blk2_facts (Q3.out.d)
      by_cases hr2 : r2.e = 0
      case neg =>
        have e1 : (r2.e != 0) = true := by simpa using hr2
        have HR1 := Lib.hid (show cnParse s = (noCn, 2) by
          rw [HR.out, if_neg (show ¬ (r2.e = 0 ∧ vv ≠ 5) from fun q => hr2 q.1), cnFrom_bad r2 hr2, HE2.out hr2]; rfl)
        clear HR hr2 HE2
        go_upto_region 9 with (fail)
        refine wp_region_lit ?_
        refine wpList_load_mid rfl 57 _ rfl (w.heap.size + 1) 0 (by rfl) [.bool false, .int .u32 0, .slice none 0 0, .string ⟨#[]⟩, .bool false, .slice none 0 0, .string ⟨#[]⟩, .string ⟨#[]⟩, .int .u8 0, .bool false, .bool false, .bool false, .string ⟨#[]⟩, .string ⟨#[]⟩] _ (range_blk (RcS.zero Q3.out) rfl) Try.underlying57 rfl (by kernel_rfl) ?_
        refine wpList_store_row rfl 57 _ _ rfl w.heap.size #[.bool false, .int .u32 0, .slice none 0 0, .string ⟨#[]⟩, .bool false, .slice none 0 0, .string ⟨#[]⟩, .string ⟨#[]⟩, .int .u8 0, .bool false, .bool false, .bool false, .string ⟨#[]⟩, .string ⟨#[]⟩] (by rfl) (by rfl) _ _ (Q3.out).a (by kernel_rfl) rfl (by kernel_rfl) ?_
        have HZ := Lib.hid (setRow_heap _ _ _ #[.bool false, .int .u32 0, .slice none 0 0, .string ⟨#[]⟩, .bool false, .slice none 0 0, .string ⟨#[]⟩, .string ⟨#[]⟩, .int .u8 0, .bool false, .bool false, .bool false, .string ⟨#[]⟩, .string ⟨#[]⟩] _ _ Q3.out.a)
        have FZ := Lib.hid (fr_row Q3.out.f (g := w.heap.size) (Or.inl (Nat.le_refl _)) #[.bool false, .int .u32 0, .slice none 0 0, .string ⟨#[]⟩, .bool false, .slice none 0 0, .string ⟨#[]⟩, .string ⟨#[]⟩, .int .u8 0, .bool false, .bool false, .bool false, .string ⟨#[]⟩, .string ⟨#[]⟩])
        go_wp2
        generalize z1.setRow w.heap.size #[.bool false, .int .u32 0, .slice none 0 0, .string ⟨#[]⟩, .bool false, .slice none 0 0, .string ⟨#[]⟩, .string ⟨#[]⟩, .int .u8 0, .bool false, .bool false, .bool false, .string ⟨#[]⟩, .string ⟨#[]⟩] = W5 at *
        refine bodyPost_ret (res_cell2 Try.results42 _ _ w.heap.size [.bool false, .int .u32 0, .slice none 0 0, .string ⟨#[]⟩, .bool false, .slice none 0 0, .string ⟨#[]⟩, .string ⟨#[]⟩, .int .u8 0, .bool false, .bool false, .bool false, .string ⟨#[]⟩, .string ⟨#[]⟩] _ (.int .i64 (2)) (by first | kernel_rfl | rfl) (by first | kernel_rfl | rfl) (range_blk HZ.out rfl) Try.underlying57 rfl (by kernel_rfl)) rfl ?_
        rw [HR1.out]
        exact ⟨.slice none 0 0, .slice none 0 0, rfl, View.nil _, View.nil _, FZ.out⟩
      case pos =>
        have e1 : (r2.e != 0) = false := by simpa using hr2
        by_cases hv : vv = 5
        case neg =>
          have n1 : ((vv : Int) != 5) = true := by simp; omega
          have HR1 := Lib.hid (show cnParse s = (noCn, 14) by rw [HR.out, if_pos ⟨hr2, hv⟩])
          clear HR hv hr2 HE2
          go_upto_region 11 with (fail)
          refine wp_region_lit ?_
          refine wpList_load_mid rfl 57 _ rfl (w.heap.size + 1) 0 (by rfl) [.bool false, .int .u32 0, .slice none 0 0, .string ⟨#[]⟩, .bool false, .slice none 0 0, .string ⟨#[]⟩, .string ⟨#[]⟩, .int .u8 0, .bool false, .bool false, .bool false, .string ⟨#[]⟩, .string ⟨#[]⟩] _ (range_blk (RcS.zero Q3.out) rfl) Try.underlying57 rfl (by kernel_rfl) ?_
          refine wpList_store_row rfl 57 _ _ rfl w.heap.size #[.bool false, .int .u32 0, .slice none 0 0, .string ⟨#[]⟩, .bool false, .slice none 0 0, .string ⟨#[]⟩, .string ⟨#[]⟩, .int .u8 0, .bool false, .bool false, .bool false, .string ⟨#[]⟩, .string ⟨#[]⟩] (by rfl) (by rfl) _ _ (Q3.out).a (by kernel_rfl) rfl (by kernel_rfl) ?_
          have HZ := Lib.hid (setRow_heap _ _ _ #[.bool false, .int .u32 0, .slice none 0 0, .string ⟨#[]⟩, .bool false, .slice none 0 0, .string ⟨#[]⟩, .string ⟨#[]⟩, .int .u8 0, .bool false, .bool false, .bool false, .string ⟨#[]⟩, .string ⟨#[]⟩] _ _ Q3.out.a)
          have FZ := Lib.hid (fr_row Q3.out.f (g := w.heap.size) (Or.inl (Nat.le_refl _)) #[.bool false, .int .u32 0, .slice none 0 0, .string ⟨#[]⟩, .bool false, .slice none 0 0, .string ⟨#[]⟩, .string ⟨#[]⟩, .int .u8 0, .bool false, .bool false, .bool false, .string ⟨#[]⟩, .string ⟨#[]⟩])
          go_wp2
          generalize z1.setRow w.heap.size #[.bool false, .int .u32 0, .slice none 0 0, .string ⟨#[]⟩, .bool false, .slice none 0 0, .string ⟨#[]⟩, .string ⟨#[]⟩, .int .u8 0, .bool false, .bool false, .bool false, .string ⟨#[]⟩, .string ⟨#[]⟩] = W5 at *
          refine bodyPost_ret (res_cell2 Try.results42 _ _ w.heap.size [.bool false, .int .u32 0, .slice none 0 0, .string ⟨#[]⟩, .bool false, .slice none 0 0, .string ⟨#[]⟩, .string ⟨#[]⟩, .int .u8 0, .bool false, .bool false, .bool false, .string ⟨#[]⟩, .string ⟨#[]⟩] _ (.int .i64 (14)) (by first | kernel_rfl | rfl) (by first | kernel_rfl | rfl) (range_blk HZ.out rfl) Try.underlying57 rfl (by kernel_rfl)) rfl ?_
          rw [HR1.out]
          exact ⟨.slice none 0 0, .slice none 0 0, rfl, View.nil _, View.nil _, FZ.out⟩
        case pos =>
          have n1 : ((vv : Int) != 5) = false := by simp; omega
          rw [if_neg (show ¬ (r2.e = 0 ∧ vv ≠ 5) from fun q => q.2 hv)] at HR
          have HE3 := Lib.hid hr2
          clear hv HE2 hr2
          have q4 := num_left' r2 1
          have hf := num_lt1 r2
          go_wp2_with fail
          refine (rnum_any r2 1 _ (by omega) (by decide) (by decide)).mono ?_
          rintro _ w4 ⟨rfl, g4⟩
          rw [show (1 : Int).toNat = 1 from rfl]
          have HBad := Lib.hid (cnFrom_flags r2 HE3.out)
          have HGood := Lib.hid (cnFrom_good r2)
          generalize r2.num 1 = N at *
          obtain ⟨f, r3⟩ := N
          dsimp only at HBad HGood q4 hf ⊢
          clear HE3
          have Q4 := Q3.out.go g4
          clear c0 c1 f0_ f1_ hdl_
          obtain ⟨c0, c1, f0_, f1_, hdl_⟩ := blk2_facts (Q4.d)
          have Q5 := Lib.hid (Q4.setd r3)
          go_upto_region 13 with (fail)
          obtain ⟨z2, hz_⟩ : ∃ z2, (w4.setCell ⟨D, 0, none⟩ (.string ⟨r3.s.toArray⟩)).setCell ⟨D, 1, none⟩ (.int .i64 r3.e) = z2 := ⟨_, rfl⟩
          rw [hz_] at Q5 ⊢
          clear hz_
          clear Q3 Q4 g4
          clear c0 c1 f0_ f1_ hdl_
          obtain ⟨c0, c1, f0_, f1_, hdl_⟩ := blk2_facts (Q5.out.d)
          obtain ⟨⟨e0, e1, e2, e3, e4, e5, e6, e7, e8, e9, e10, e11, e12, e13⟩, ⟨k0, k1, k2, k3, k4, k5, k6, k7, k8, k9, k10, k11, k12, k13⟩, _⟩ := blk14n_facts (RcS.zero Q5.out)
          have hbits := cnrbits ⟨f, hf⟩
          dsimp only at hbits
          obtain ⟨f2, f4, f64, f128, f32, f8, HBad0⟩ := hbits
          unfold cnTail at HGood
          generalize decide (f / 2 % 2 = 1) = clean at *
          generalize decide (f / 4 % 2 = 1) = hw at *
          generalize decide (f / 64 % 2 = 1) = hpw at *
          generalize decide (f / 128 % 2 = 1) = hu at *
          generalize decide (f / 32 % 2 = 1) = ret at *
          generalize f / 8 % 4 = q at *
          obtain ⟨b1, f1⟩ : ∃ b, ((f : Int) % 2 == 1) = b := ⟨_, rfl⟩
          obtain ⟨b4, f56⟩ : ∃ b4, decide (0 < (f : Int) / 8 % 8) = b4 := ⟨_, rfl⟩
          obtain ⟨b2, fq⟩ : ∃ b2, ((q : Int) == 3) = b2 := ⟨_, rfl⟩
          rw [f1, f56, fq] at HBad0
          obtain ⟨be, fe⟩ : ∃ b, (r3.e != 0) = b := ⟨_, rfl⟩
          obtain ⟨bad, hbad⟩ : ∃ b, (be || (b1 || b2 || !hw && b4)) = b := ⟨_, rfl⟩
          have HBB := Lib.hid hbad
          have HBX := Lib.hid (show (bad = true → cnFrom r2 = (noCn, 2)) ∧ (bad = false → r3.e = 0 ∧ cnBad f = false) by
            rw [← hbad, ← HBad0]
            refine ⟨fun h => HBad.out ?_, fun h => ?_⟩
            · rw [Bool.or_eq_true] at h
              rcases h with h | h
              · exact Or.inl (by rw [← fe] at h; simpa using h)
              · exact Or.inr h
            · have h1 := Bool.or_eq_false_iff.1 h
              exact ⟨by have := h1.1; rw [← fe] at this; simpa using this, h1.2⟩)
          clear HBad0 hbad HBad
          have P1 := Q5.out.set 0 (.bool clean) ⟨clean, 0, [], [], false, [], [], [], 0, false, false, false, [], []⟩ rfl rfl rfl
          have P2 := P1.set 4 (.bool hw) ⟨clean, 0, [], [], hw, [], [], [], 0, false, false, false, [], []⟩ rfl rfl rfl
          have P3 := P2.set 8 (.int .u8 (q : Int)) ⟨clean, 0, [], [], hw, [], [], [], q, false, false, false, [], []⟩ rfl rfl rfl
          have P4 := P3.set 9 (.bool ret) ⟨clean, 0, [], [], hw, [], [], [], q, ret, false, false, [], []⟩ rfl rfl rfl
          have P5 := P4.set 11 (.bool hpw) ⟨clean, 0, [], [], hw, [], [], [], q, ret, false, hpw, [], []⟩ rfl rfl rfl
          have P6 := Lib.hid (P5.set 10 (.bool hu) ⟨clean, 0, [], [], hw, [], [], [], q, ret, hu, hpw, [], []⟩ rfl rfl rfl)
          clear P1 P2 P3 P4 P5
          go_upto_region 20 with (fail)
          obtain ⟨z3, hz_⟩ : ∃ z3, (((((z2.setCell ⟨w.heap.size + 1, 0, none⟩ (.bool clean)).setCell ⟨w.heap.size + 1, 4, none⟩ (.bool hw)).setCell ⟨w.heap.size + 1, 8, none⟩ (.int .u8 (q : Int))).setCell ⟨w.heap.size + 1, 9, none⟩ (.bool ret)).setCell ⟨w.heap.size + 1, 11, none⟩ (.bool hpw)).setCell ⟨w.heap.size + 1, 10, none⟩ (.bool hu) = z3 := ⟨_, rfl⟩
          rw [hz_] at P6 ⊢
          clear hz_
          clear Q5 f2 f4 f64 f128 f32 f8
          clear e0 e1 e2 e3 e4 e5 e6 e7 e8 e9 e10 e11 e12 e13 k0 k1 k2 k3 k4 k5 k6 k7 k8 k9 k10 k11 k12 k13
          clear c0 c1 f0_ f1_ hdl_
          obtain ⟨c0, c1, f0_, f1_, hdl_⟩ := blk2_facts (P6.out.d)
          obtain ⟨⟨e0, e1, e2, e3, e4, e5, e6, e7, e8, e9, e10, e11, e12, e13⟩, ⟨k0, k1, k2, k3, k4, k5, k6, k7, k8, k9, k10, k11, k12, k13⟩, hcl_⟩ := (P6.out.facts)
          go_cut [113] (fun v113 wx => v113 = .bool bad ∧ z3 = wx)
          case first =>
            cases be <;> cases b1 <;> cases b2 <;> cases hw <;> cases b4
            all_goals
              go_wp2
              go_meet
              rw [← HBB.out]
              exact ⟨rfl, rfl⟩
          case rest =>
            obtain ⟨rfl, rfl⟩ := hcut
            clear f1 f56 fq fe HBB
            cases bad
            case true =>
              have HR1 := Lib.hid (show cnParse s = (noCn, 2) by rw [HR.out, HBX.out.1 rfl])
              clear e0 e1 e2 e3 e4 e5 e6 e7 e8 e9 e10 e11 e12 e13 k0 k1 k2 k3 k4 k5 k6 k7 k8 k9 k10 k11 k12 k13 hcl_
              clear c0 c1 f0_ f1_ hdl_
              clear HR HBX HGood
              go_upto_region 21 with (fail)
              refine wp_region_lit ?_
              refine wpList_build rfl _ _ rfl (by kernel_rfl) ?_
              refine wpList_store_row rfl 57 _ _ rfl w.heap.size #[.bool false, .int .u32 0, .slice none 0 0, .string ⟨#[]⟩, .bool false, .slice none 0 0, .string ⟨#[]⟩, .string ⟨#[]⟩, .int .u8 0, .bool false, .bool false, .bool false, .string ⟨#[]⟩, .string ⟨#[]⟩] (by rfl) (by kernel_rfl) _ _ P6.out.a (by kernel_rfl) rfl (by kernel_rfl) ?_
              have HZ := Lib.hid (setRow_heap _ _ _ #[.bool false, .int .u32 0, .slice none 0 0, .string ⟨#[]⟩, .bool false, .slice none 0 0, .string ⟨#[]⟩, .string ⟨#[]⟩, .int .u8 0, .bool false, .bool false, .bool false, .string ⟨#[]⟩, .string ⟨#[]⟩] _ _ P6.out.a)
              have FZ := Lib.hid (fr_row P6.out.f (g := w.heap.size) (Or.inl (Nat.le_refl _)) #[.bool false, .int .u32 0, .slice none 0 0, .string ⟨#[]⟩, .bool false, .slice none 0 0, .string ⟨#[]⟩, .string ⟨#[]⟩, .int .u8 0, .bool false, .bool false, .bool false, .string ⟨#[]⟩, .string ⟨#[]⟩])
              go_wp2
              generalize z3.setRow w.heap.size #[.bool false, .int .u32 0, .slice none 0 0, .string ⟨#[]⟩, .bool false, .slice none 0 0, .string ⟨#[]⟩, .string ⟨#[]⟩, .int .u8 0, .bool false, .bool false, .bool false, .string ⟨#[]⟩, .string ⟨#[]⟩] = W5 at *
              refine bodyPost_ret (res_cell2 Try.results42 _ _ w.heap.size [.bool false, .int .u32 0, .slice none 0 0, .string ⟨#[]⟩, .bool false, .slice none 0 0, .string ⟨#[]⟩, .string ⟨#[]⟩, .int .u8 0, .bool false, .bool false, .bool false, .string ⟨#[]⟩, .string ⟨#[]⟩] _ (.int .i64 (2)) (by first | kernel_rfl | rfl) (by first | kernel_rfl | rfl) (range_blk HZ.out rfl) Try.underlying57 rfl (by kernel_rfl)) rfl ?_
              rw [HR1.out]
              exact ⟨.slice none 0 0, .slice none 0 0, rfl, View.nil _, View.nil _, FZ.out⟩
            case false =>
              have hDx : ¬ (w.heap.size + 1 = D) := by have := P6.out.db; omega
              have hxD : ¬ (D = w.heap.size + 1) := by have := P6.out.db; omega
              obtain ⟨⟨keep, rb⟩, hk⟩ : ∃ x, r3.num 2 = x := ⟨_, rfl⟩
              obtain ⟨⟨props, rc⟩, hp⟩ : ∃ x, takeP rb 1 false = x := ⟨_, rfl⟩
              obtain ⟨⟨id, s1⟩, t1⟩ : ∃ x, rc.str = x := ⟨_, rfl⟩
              obtain ⟨⟨wp, s2⟩, t2⟩ : ∃ x, willP hw s1 = x := ⟨_, rfl⟩
              obtain ⟨⟨topic, s3⟩, t3⟩ : ∃ x, willT hw s2 = x := ⟨_, rfl⟩
              obtain ⟨⟨pay, s4⟩, t4⟩ : ∃ x, dataT hw s3 = x := ⟨_, rfl⟩
              obtain ⟨⟨user, s5⟩, t5⟩ : ∃ x, willT hu s4 = x := ⟨_, rfl⟩
              obtain ⟨⟨pass, s6⟩, t6⟩ : ∃ x, dataT hpw s5 = x := ⟨_, rfl⟩
              have HR' : Hid (cnParse s = if s6.ends = 0 then (⟨clean, keep, props, id, hw, wp, topic, pay, q, ret, hu, hpw, user, pass⟩, 0) else (noCn, s6.ends)) := Lib.hid (by
                have h1 := HGood.out (HBX.out.2 rfl).1 (HBX.out.2 rfl).2
                rw [HR.out, h1]; simp only [hk, hp, t1, t2, t3, t4, t5, t6])
              clear HR HGood HBX
              have q5 := num_left' r3 2
              have q6 := takeP_left rb 1 false
              have q7 := Rd.str_left rc
              have q8 := willP_left hw s1
              have q9 := willT_left hw s2
              have q10 := dataT_left hw s3
              have q11 := willT_left hu s4
              rw [hk] at q5
              rw [hp] at q6
              rw [t1] at q7
              rw [t2] at q8
              rw [t3] at q9
              rw [t4] at q10
              rw [t5] at q11
              dsimp only at q5 q6 q7 q8 q9 q10 q11
              have HK := Lib.hid hk
              have HP := Lib.hid hp
              have H1 := Lib.hid t1
              have H2 := Lib.hid t2
              have H3 := Lib.hid t3
              have H4 := Lib.hid t4
              have H5 := Lib.hid t5
              have H6 := Lib.hid t6
              clear hk hp t1 t2 t3 t4 t5 t6
              go_wp2_with fail
              refine (rnum_any r3 2 _ (by omega) (by decide) (by decide)).mono ?_
              rintro _ x1 ⟨rfl, g1⟩
              rw [show (2 : Int).toNat = 2 from rfl, HK.out]
              dsimp only
              have Q1 := P6.out.go g1
              clear e0 e1 e2 e3 e4 e5 e6 e7 e8 e9 e10 e11 e12 e13 k0 k1 k2 k3 k4 k5 k6 k7 k8 k9 k10 k11 k12 k13 hcl_
              clear c0 c1 f0_ f1_ hdl_
              obtain ⟨c0, c1, f0_, f1_, hdl_⟩ := blk2_facts (Q1.d)
              obtain ⟨⟨e0, e1, e2, e3, e4, e5, e6, e7, e8, e9, e10, e11, e12, e13⟩, ⟨k0, k1, k2, k3, k4, k5, k6, k7, k8, k9, k10, k11, k12, k13⟩, hcl_⟩ := (Q1.facts)
              have Q2 := Lib.hid ((Q1.setd rb).set 1 (.int .u32 (keep : Int)) ⟨clean, keep, [], [], hw, [], [], [], q, ret, hu, hpw, [], []⟩ rfl rfl rfl)
              clear P6 g1
              go_upto_region 24 with (fail)
              obtain ⟨y1, hz_⟩ : ∃ y1, ((x1.setCell ⟨D, 0, none⟩ (.string ⟨rb.s.toArray⟩)).setCell ⟨D, 1, none⟩ (.int .i64 rb.e)).setCell ⟨w.heap.size + 1, 1, none⟩ (.int .u32 (keep : Int)) = y1 := ⟨_, rfl⟩
              rw [hz_] at Q2 ⊢
              clear hz_
              clear Q1
              clear e0 e1 e2 e3 e4 e5 e6 e7 e8 e9 e10 e11 e12 e13 k0 k1 k2 k3 k4 k5 k6 k7 k8 k9 k10 k11 k12 k13 hcl_
              clear c0 c1 f0_ f1_ hdl_
              obtain ⟨c0, c1, f0_, f1_, hdl_⟩ := blk2_facts (Q2.out.d)
              have hDz := blk_lt Q2.out.d
              go_wp2_with fail
              refine (rtakep6_any rb 1 false _ (by omega)).mono ?_
              rintro _ x2 ⟨v', rfl, vv', vk', g2⟩
              rw [HP.out] at vv' ⊢
              dsimp only at vv' ⊢
              obtain ⟨AV, cv, rfl⟩ := view_shape vv'
              have Q3 := Q2.out.go g2
              clear c0 c1 f0_ f1_ hdl_
              obtain ⟨c0, c1, f0_, f1_, hdl_⟩ := blk2_facts (Q3.d)
              obtain ⟨⟨e0, e1, e2, e3, e4, e5, e6, e7, e8, e9, e10, e11, e12, e13⟩, ⟨k0, k1, k2, k3, k4, k5, k6, k7, k8, k9, k10, k11, k12, k13⟩, hcl_⟩ := (Q3.facts)
              have Q4 := Q3.setd rc
              have Q5 := Lib.hid (Q4.setv props (vv'.fr (S := [D]) (((Fr.refl _ _).setCell (Or.inr (by simp)) _).setCell (Or.inr (by simp)) _) (fun k hk e => by have := vk' k hk; simp at e; omega)) (fun k hk => Nat.lt_of_lt_of_le hDz (vk' k hk)) ⟨clean, keep, props, [], hw, [], [], [], q, ret, hu, hpw, [], []⟩ rfl rfl rfl)
              clear Q2 g2 vv' vk' hDz Q4
              go_upto_region 26 with (fail)
              obtain ⟨y2, hz_⟩ : ∃ y2, ((x2.setCell ⟨D, 0, none⟩ (.string ⟨rc.s.toArray⟩)).setCell ⟨D, 1, none⟩ (.int .i64 rc.e)).setCell ⟨w.heap.size + 1, 2, none⟩ (.slice AV props.length cv) = y2 := ⟨_, rfl⟩
              rw [hz_] at Q5 ⊢
              clear hz_
              clear Q3
              clear e0 e1 e2 e3 e4 e5 e6 e7 e8 e9 e10 e11 e12 e13 k0 k1 k2 k3 k4 k5 k6 k7 k8 k9 k10 k11 k12 k13 hcl_
              clear c0 c1 f0_ f1_ hdl_
              obtain ⟨c0, c1, f0_, f1_, hdl_⟩ := blk2_facts (Q5.out.d)
              go_wp2_with fail
              refine (rtake_any rc _ (by omega)).mono ?_
              rintro _ x3 ⟨rfl, g3⟩
              rw [H1.out]
              dsimp only
              have Q6 := Q5.out.go g3
              clear c0 c1 f0_ f1_ hdl_
              obtain ⟨c0, c1, f0_, f1_, hdl_⟩ := blk2_facts (Q6.d)
              obtain ⟨⟨e0, e1, e2, e3, e4, e5, e6, e7, e8, e9, e10, e11, e12, e13⟩, ⟨k0, k1, k2, k3, k4, k5, k6, k7, k8, k9, k10, k11, k12, k13⟩, hcl_⟩ := (Q6.facts)
              have Q7 := Lib.hid ((Q6.setd s1).set 3 (.string ⟨id.toArray⟩) ⟨clean, keep, props, id, hw, [], [], [], q, ret, hu, hpw, [], []⟩ rfl rfl rfl)
              clear Q5 g3
              go_upto_region 28 with (fail)
              obtain ⟨y3, hz_⟩ : ∃ y3, ((x3.setCell ⟨D, 0, none⟩ (.string ⟨s1.s.toArray⟩)).setCell ⟨D, 1, none⟩ (.int .i64 s1.e)).setCell ⟨w.heap.size + 1, 3, none⟩ (.string ⟨id.toArray⟩) = y3 := ⟨_, rfl⟩
              rw [hz_] at Q7 ⊢
              clear hz_
              clear Q6
              clear e0 e1 e2 e3 e4 e5 e6 e7 e8 e9 e10 e11 e12 e13 k0 k1 k2 k3 k4 k5 k6 k7 k8 k9 k10 k11 k12 k13 hcl_
              clear c0 c1 f0_ f1_ hdl_
              obtain ⟨c0, c1, f0_, f1_, hdl_⟩ := blk2_facts (Q7.out.d)
              obtain ⟨⟨e0, e1, e2, e3, e4, e5, e6, e7, e8, e9, e10, e11, e12, e13⟩, ⟨k0, k1, k2, k3, k4, k5, k6, k7, k8, k9, k10, k11, k12, k13⟩, hcl_⟩ := (Q7.out.facts)
              go_upto_if 137 with (fail)
              go_cut [] (fun wx => RcU w D ⟨clean, keep, props, id, hw, wp, topic, pay, q, ret, hu, hpw, [], []⟩ (.slice AV props.length cv) s4 wx)
              case first =>
                cases hw
                · obtain ⟨rfl, rfl⟩ : [] = wp ∧ s1 = s2 := by simpa [willP] using H2.out
                  obtain ⟨rfl, rfl⟩ : [] = topic ∧ s1 = s3 := by simpa [willT] using H3.out
                  obtain ⟨rfl, rfl⟩ : [] = pay ∧ s1 = s4 := by simpa [dataT] using H4.out
                  go_wp2
                  go_meet
                  exact ⟨_, Q7.out⟩
                · have K2 := Lib.hid (show takeP s1 1 true = (wp, s2) by simpa [willP] using H2.out)
                  have K3 := Lib.hid (show s2.str = (topic, s3) by simpa [willT] using H3.out)
                  have K4 := Lib.hid (show s3.data = (pay, s4) by simpa [dataT] using H4.out)
                  clear H2 H3 H4
                  have hDz := blk_lt Q7.out.d
                  go_wp2_with fail
                  refine (rtakep6_any s1 1 true _ (by omega)).mono ?_
                  rintro _ x4 ⟨u', rfl, uv', uk', g4⟩
                  rw [K2.out] at uv' ⊢
                  dsimp only at uv' ⊢
                  obtain ⟨AU, cu, rfl⟩ := view_shape uv'
                  have Q8 := Lib.hid (Q7.out.go g4)
                  have hDE0 : D < x4.heap.size := Nat.lt_of_lt_of_le hDz g4.size
                  have hDu := Lib.hid (fun k hk => Nat.lt_of_lt_of_le hDz (uk' k hk))
                  have UV := Lib.hid uv'
                  have G0 : Fr [] x4 (x4.alloc (.cells #[.string ⟨s2.s.toArray⟩, .int .i64 s2.e] 125)) := (Fr.refl _ _).alloc _
                  have hd0 := blk_new x4 (.cells #[.string ⟨s2.s.toArray⟩, .int .i64 s2.e] 125)
                  clear e0 e1 e2 e3 e4 e5 e6 e7 e8 e9 e10 e11 e12 e13 k0 k1 k2 k3 k4 k5 k6 k7 k8 k9 k10 k11 k12 k13 hcl_
                  clear c0 c1 f0_ f1_ hdl_
                  clear g4 uv' uk' Q7
                  go_upto_region 30 with (fail)
                  obtain ⟨E, hE⟩ : ∃ E, x4.heap.size = E := ⟨_, rfl⟩
                  obtain ⟨y4, hy4⟩ : ∃ y4, x4.alloc (.cells #[.string ⟨s2.s.toArray⟩, .int .i64 s2.e] 125) = y4 := ⟨_, rfl⟩
                  rw [hE] at hd0 ⊢
                  rw [hy4] at hd0 G0 ⊢
                  have hEz : x4.heap.size ≤ E := by omega
                  have hDE : ¬ (D = E) := by omega
                  have hED : ¬ (E = D) := by omega
                  clear hy4 hE
                  obtain ⟨c0, c1, f0_, f1_, hdl_⟩ := blk2_facts (hd0)
                  go_wp2_with fail
                  refine (rtake_any s2 _ (by omega)).mono ?_
                  rintro _ x5 ⟨rfl, g5⟩
                  rw [K3.out]
                  dsimp only
                  have hd1 := g5.blk hd0 (by simp)
                  have G1 := G0.trans g5 (by simp)
                  clear c0 c1 f0_ f1_ hdl_
                  obtain ⟨c0, c1, f0_, f1_, hdl_⟩ := blk2_facts (hd1)
                  have hd2 := Lib.hid (blk2_set hd1 (.string ⟨s3.s.toArray⟩) (.int .i64 s3.e))
                  have G2 := Lib.hid ((G1.setCell (p := ⟨E, 0, none⟩) (Or.inl hEz) (.string ⟨s3.s.toArray⟩)).setCell (p := ⟨E, 1, none⟩) (Or.inl hEz) (.int .i64 s3.e))
                  clear hd0 hd1 G0 G1 g5
                  go_upto_region 31 with (fail)
                  obtain ⟨y5, hy5⟩ : ∃ y5, (x5.setCell ⟨E, 0, none⟩ (.string ⟨s3.s.toArray⟩)).setCell ⟨E, 1, none⟩ (.int .i64 s3.e) = y5 := ⟨_, rfl⟩
                  rw [hy5] at hd2 G2 ⊢
                  clear hy5
                  clear c0 c1 f0_ f1_ hdl_
                  obtain ⟨c0, c1, f0_, f1_, hdl_⟩ := blk2_facts (hd2.out)
                  go_wp2_with fail
                  refine (rtakedata_any s3 _ (by omega)).mono ?_
                  rintro _ x6 ⟨rfl, g6⟩
                  rw [K4.out]
                  dsimp only
                  have hd3 := g6.blk hd2.out (by simp)
                  have G3 := G2.out.trans g6 (by simp)
                  clear c0 c1 f0_ f1_ hdl_
                  obtain ⟨c0, c1, f0_, f1_, hdl_⟩ := blk2_facts (hd3)
                  have hd4 := Lib.hid (blk2_set hd3 (.string ⟨s4.s.toArray⟩) (.int .i64 s4.e))
                  have G4 := Lib.hid ((G3.setCell (p := ⟨E, 0, none⟩) (Or.inl hEz) (.string ⟨s4.s.toArray⟩)).setCell (p := ⟨E, 1, none⟩) (Or.inl hEz) (.int .i64 s4.e))
                  clear hd2 hd3 G2 G3 g6
                  go_upto_region 32 with (fail)
                  obtain ⟨y6, hy6⟩ : ∃ y6, (x6.setCell ⟨E, 0, none⟩ (.string ⟨s4.s.toArray⟩)).setCell ⟨E, 1, none⟩ (.int .i64 s4.e) = y6 := ⟨_, rfl⟩
                  rw [hy6] at hd4 G4 ⊢
                  clear hy6
                  clear c0 c1 f0_ f1_ hdl_
                  obtain ⟨m0, m1, _, _, _⟩ := blk2_facts hd4.out
                  have Q9 := Q8.out.go G4.out
                  obtain ⟨c0, c1, f0_, f1_, hdl_⟩ := blk2_facts (Q9.d)
                  obtain ⟨⟨e0, e1, e2, e3, e4, e5, e6, e7, e8, e9, e10, e11, e12, e13⟩, ⟨k0, k1, k2, k3, k4, k5, k6, k7, k8, k9, k10, k11, k12, k13⟩, hcl_⟩ := (Q9.facts)
                  have Q10 := Q9.setd s4
                  have Q11 := Q10.setu wp ((UV.out.old G4.out (by simp)).fr (S := [D]) (((Fr.refl _ _).setCell (Or.inr (by simp)) _).setCell (Or.inr (by simp)) _) (fun k hk e => by have := hDu.out k hk; simp at e; omega)) hDu.out ⟨clean, keep, props, id, true, wp, [], [], q, ret, hu, hpw, [], []⟩ rfl rfl rfl
                  have Q12 := Q11.set 6 (.string ⟨topic.toArray⟩) ⟨clean, keep, props, id, true, wp, topic, [], q, ret, hu, hpw, [], []⟩ rfl rfl rfl
                  have Q13 := Lib.hid (Q12.set 7 (.string ⟨pay.toArray⟩) ⟨clean, keep, props, id, true, wp, topic, pay, q, ret, hu, hpw, [], []⟩ rfl rfl rfl)
                  clear Q8 Q9 Q10 Q11 Q12 UV hDu G4 hd4
                  go_wp2_with fail
                  go_meet
                  exact ⟨_, Q13.out⟩
              case rest =>
                obtain ⟨u1, hc1⟩ := hcut
                obtain ⟨AU, cu, rfl⟩ := view_shape hc1.uv
                have Q8 := Lib.hid hc1
                clear hc1 Q7 H2 H3 H4
                clear e0 e1 e2 e3 e4 e5 e6 e7 e8 e9 e10 e11 e12 e13 k0 k1 k2 k3 k4 k5 k6 k7 k8 k9 k10 k11 k12 k13 hcl_
                clear c0 c1 f0_ f1_ hdl_
                obtain ⟨c0, c1, f0_, f1_, hdl_⟩ := blk2_facts (Q8.out.d)
                obtain ⟨⟨e0, e1, e2, e3, e4, e5, e6, e7, e8, e9, e10, e11, e12, e13⟩, ⟨k0, k1, k2, k3, k4, k5, k6, k7, k8, k9, k10, k11, k12, k13⟩, hcl_⟩ := (Q8.out.facts)
                go_upto_if 164 with (fail)
                go_cut [] (fun wx => RcS w D ⟨clean, keep, props, id, hw, wp, topic, pay, q, ret, hu, hpw, user, []⟩ (.slice AV props.length cv) (.slice AU wp.length cu) s5 wx)
                case first =>
                  cases hu
                  · obtain ⟨rfl, rfl⟩ : [] = user ∧ s4 = s5 := by simpa [willT] using H5.out
                    go_wp2
                    go_meet
                    exact Q8.out
                  · have K5 := Lib.hid (show s4.str = (user, s5) by simpa [willT] using H5.out)
                    clear H5
                    have hDz := blk_lt Q8.out.d
                    go_wp2_with fail
                    refine (rtake_any s4 _ (by omega)).mono ?_
                    rintro _ x4 ⟨rfl, g4⟩
                    rw [K5.out]
                    dsimp only
                    have hDE0 : D < x4.heap.size := Nat.lt_of_lt_of_le hDz g4.size
                    have G0 := g4.alloc (.cells #[.string ⟨s5.s.toArray⟩, .int .i64 s5.e] 125)
                    have hd0 := blk_new x4 (.cells #[.string ⟨s5.s.toArray⟩, .int .i64 s5.e] 125)
                    clear e0 e1 e2 e3 e4 e5 e6 e7 e8 e9 e10 e11 e12 e13 k0 k1 k2 k3 k4 k5 k6 k7 k8 k9 k10 k11 k12 k13 hcl_
                    clear c0 c1 f0_ f1_ hdl_
                    clear g4
                    go_upto_region 38 with (fail)
                    obtain ⟨E, hE⟩ : ∃ E, x4.heap.size = E := ⟨_, rfl⟩
                    obtain ⟨y4, hy4⟩ : ∃ y4, x4.alloc (.cells #[.string ⟨s5.s.toArray⟩, .int .i64 s5.e] 125) = y4 := ⟨_, rfl⟩
                    rw [hE] at hd0 ⊢
                    rw [hy4] at hd0 G0 ⊢
                    have hDE : ¬ (D = E) := by omega
                    have hED : ¬ (E = D) := by omega
                    clear hy4 hE
                    have Q9 := Q8.out.go G0
                    obtain ⟨m0, m1, _, _, _⟩ := blk2_facts hd0
                    obtain ⟨c0, c1, f0_, f1_, hdl_⟩ := blk2_facts (Q9.d)
                    obtain ⟨⟨e0, e1, e2, e3, e4, e5, e6, e7, e8, e9, e10, e11, e12, e13⟩, ⟨k0, k1, k2, k3, k4, k5, k6, k7, k8, k9, k10, k11, k12, k13⟩, hcl_⟩ := (Q9.facts)
                    have Q10 := Lib.hid ((Q9.setd s5).set 12 (.string ⟨user.toArray⟩) ⟨clean, keep, props, id, hw, wp, topic, pay, q, ret, true, hpw, user, []⟩ rfl rfl rfl)
                    clear Q8 Q9 G0 hd0
                    go_wp2_with fail
                    go_meet
                    exact Q10.out
                case rest =>
                  have Q9 := Lib.hid hcut
                  clear hcut Q8 H5
                  clear e0 e1 e2 e3 e4 e5 e6 e7 e8 e9 e10 e11 e12 e13 k0 k1 k2 k3 k4 k5 k6 k7 k8 k9 k10 k11 k12 k13 hcl_
                  clear c0 c1 f0_ f1_ hdl_
                  obtain ⟨c0, c1, f0_, f1_, hdl_⟩ := blk2_facts (Q9.out.d)
                  obtain ⟨⟨e0, e1, e2, e3, e4, e5, e6, e7, e8, e9, e10, e11, e12, e13⟩, ⟨k0, k1, k2, k3, k4, k5, k6, k7, k8, k9, k10, k11, k12, k13⟩, hcl_⟩ := (Q9.out.facts)
                  go_upto_if 174 with (fail)
                  go_cut [] (fun wx => RcS w D ⟨clean, keep, props, id, hw, wp, topic, pay, q, ret, hu, hpw, user, pass⟩ (.slice AV props.length cv) (.slice AU wp.length cu) s6 wx)
                  case first =>
                    cases hpw
                    · obtain ⟨rfl, rfl⟩ : [] = pass ∧ s5 = s6 := by simpa [dataT] using H6.out
                      go_wp2
                      go_meet
                      exact Q9.out
                    · have K6 := Lib.hid (show s5.data = (pass, s6) by simpa [dataT] using H6.out)
                      clear H6
                      have hDz := blk_lt Q9.out.d
                      go_wp2_with fail
                      refine (rtakedata_any s5 _ (by omega)).mono ?_
                      rintro _ x4 ⟨rfl, g4⟩
                      rw [K6.out]
                      dsimp only
                      have hDE0 : D < x4.heap.size := Nat.lt_of_lt_of_le hDz g4.size
                      have G0 := g4.alloc (.cells #[.string ⟨s6.s.toArray⟩, .int .i64 s6.e] 125)
                      have hd0 := blk_new x4 (.cells #[.string ⟨s6.s.toArray⟩, .int .i64 s6.e] 125)
                      clear e0 e1 e2 e3 e4 e5 e6 e7 e8 e9 e10 e11 e12 e13 k0 k1 k2 k3 k4 k5 k6 k7 k8 k9 k10 k11 k12 k13 hcl_
                      clear c0 c1 f0_ f1_ hdl_
                      clear g4
                      go_upto_region 42 with (fail)
                      obtain ⟨E, hE⟩ : ∃ E, x4.heap.size = E := ⟨_, rfl⟩
                      obtain ⟨y4, hy4⟩ : ∃ y4, x4.alloc (.cells #[.string ⟨s6.s.toArray⟩, .int .i64 s6.e] 125) = y4 := ⟨_, rfl⟩
                      rw [hE] at hd0 ⊢
                      rw [hy4] at hd0 G0 ⊢
                      have hDE : ¬ (D = E) := by omega
                      have hED : ¬ (E = D) := by omega
                      clear hy4 hE
                      have Q10 := Q9.out.go G0
                      obtain ⟨m0, m1, _, _, _⟩ := blk2_facts hd0
                      obtain ⟨c0, c1, f0_, f1_, hdl_⟩ := blk2_facts (Q10.d)
                      obtain ⟨⟨e0, e1, e2, e3, e4, e5, e6, e7, e8, e9, e10, e11, e12, e13⟩, ⟨k0, k1, k2, k3, k4, k5, k6, k7, k8, k9, k10, k11, k12, k13⟩, hcl_⟩ := (Q10.facts)
                      have Q11 := Lib.hid ((Q10.setd s6).set 13 (.string ⟨pass.toArray⟩) ⟨clean, keep, props, id, hw, wp, topic, pay, q, ret, hu, true, user, pass⟩ rfl rfl rfl)
                      clear Q9 Q10 G0 hd0
                      go_wp2_with fail
                      go_meet
                      exact Q11.out
                  case rest =>
                    have Q10 := Lib.hid hcut
                    clear hcut Q9 H6
                    clear e0 e1 e2 e3 e4 e5 e6 e7 e8 e9 e10 e11 e12 e13 k0 k1 k2 k3 k4 k5 k6 k7 k8 k9 k10 k11 k12 k13 hcl_
                    clear c0 c1 f0_ f1_ hdl_
                    obtain ⟨c0, c1, f0_, f1_, hdl_⟩ := blk2_facts (Q10.out.d)
                    go_wp2_with fail
                    refine (end6_any s6.s s6.e _).mono ?_
                    rintro _ x9 ⟨rfl, g9⟩
                    have Q11 := Lib.hid (Q10.out.go g9)
                    clear Q10 g9
                    clear c0 c1 f0_ f1_ hdl_
                    rw [show Rd.ends ⟨s6.s, s6.e⟩ = s6.ends from rfl]
                    obtain ⟨EE, hEE⟩ : ∃ EE, s6.ends = EE := ⟨_, rfl⟩
                    rw [hEE] at HR' ⊢
                    by_cases hE : EE = 0
                    · have E0 : (EE != 0) = false := by simpa using hE
                      rw [if_pos hE] at HR'
                      clear hE hEE
                      have HZ := Lib.hid (setRow_heap _ _ _ (cnC ⟨clean, keep, props, id, hw, wp, topic, pay, q, ret, hu, hpw, user, pass⟩ (.slice AV props.length cv) (.slice AU wp.length cu)).toArray _ _ Q11.out.a)
                      have FZ := Lib.hid (fr_row Q11.out.f (g := w.heap.size) (Or.inl (Nat.le_refl _)) (cnC ⟨clean, keep, props, id, hw, wp, topic, pay, q, ret, hu, hpw, user, pass⟩ (.slice AV props.length cv) (.slice AU wp.length cu)).toArray)
                      have hdb9 := Q11.out.db
                      have VV := Lib.hid (Q11.out.vv.fr (fr_row (Fr.refl [w.heap.size] x9) (g := w.heap.size) (Or.inr (by simp)) (cnC ⟨clean, keep, props, id, hw, wp, topic, pay, q, ret, hu, hpw, user, pass⟩ (.slice AV props.length cv) (.slice AU wp.length cu)).toArray) (fun k hk e => by have := Q11.out.vk k hk; simp at e; omega))
                      have VU := Lib.hid (Q11.out.uv.fr (fr_row (Fr.refl [w.heap.size] x9) (g := w.heap.size) (Or.inr (by simp)) (cnC ⟨clean, keep, props, id, hw, wp, topic, pay, q, ret, hu, hpw, user, pass⟩ (.slice AV props.length cv) (.slice AU wp.length cu)).toArray) (fun k hk e => by have := Q11.out.uk k hk; simp at e; omega))
                      go_upto_region 46 with (fail)
                      refine wp_region_lit ?_
                      refine wpList_load_mid rfl 57 _ rfl (w.heap.size + 1) 0 (by first | kernel_rfl | rfl) (cnC ⟨clean, keep, props, id, hw, wp, topic, pay, q, ret, hu, hpw, user, pass⟩ (.slice AV props.length cv) (.slice AU wp.length cu)) _ (range_blk Q11.out.p rfl) Try.underlying57 rfl (by kernel_rfl) ?_
                      refine wpList_store_row rfl 57 _ _ rfl w.heap.size (cnC ⟨clean, keep, props, id, hw, wp, topic, pay, q, ret, hu, hpw, user, pass⟩ (.slice AV props.length cv) (.slice AU wp.length cu)).toArray (by first | kernel_rfl | rfl) (by first | kernel_rfl | rfl) _ _ Q11.out.a (by kernel_rfl) rfl (cn_one _ _ _ rfl rfl) ?_
                      refine wpList_asg rfl _ rfl ?_
                      refine wpList_seal 2 3 (.pointer (some ⟨w.heap.size, 0, none⟩)) (.int .i64 (0)) (by first | kernel_rfl | rfl) (by first | kernel_rfl | rfl) (by rfl) (fun A hA2 hA3 hAd => ?_)
                      go_wp2
                      generalize x9.setRow w.heap.size (cnC ⟨clean, keep, props, id, hw, wp, topic, pay, q, ret, hu, hpw, user, pass⟩ (.slice AV props.length cv) (.slice AU wp.length cu)).toArray = W5 at *
                      refine bodyPost_ret (res_cell2 Try.results42 _ _ w.heap.size (cnC ⟨clean, keep, props, id, hw, wp, topic, pay, q, ret, hu, hpw, user, pass⟩ (.slice AV props.length cv) (.slice AU wp.length cu)) _ (.int .i64 0) hA2 hA3 (range_blk HZ.out rfl) Try.underlying57 rfl (by kernel_rfl)) hAd ?_
                      rw [HR'.out]
                      exact ⟨_, _, rfl, VV.out, VU.out, FZ.out⟩
                    · have E0 : (EE != 0) = true := by simpa using hE
                      rw [if_neg hE] at HR'
                      clear hE
                      obtain ⟨c0, c1, f0_, f1_, hdl_⟩ := blk2_facts (Q11.out.d)
                      go_upto_region 45 with (fail)
                      refine wp_region_lit ?_
                      refine wpList_build rfl _ _ rfl (by kernel_rfl) ?_
                      refine wpList_load_mid rfl 125 _ rfl D 0 (by first | kernel_rfl | rfl) [.string ⟨s6.s.toArray⟩, .int .i64 s6.e] _ (range_blk Q11.out.d rfl) Try.underlying125 rfl (by kernel_rfl) ?_
                      refine wpList_plain rfl fun K hK => ?_
                      go_wp2_with fail
                      refine (end6_any s6.s s6.e _).mono ?_
                      rintro _ x10 ⟨rfl, g10⟩
                      rw [show Rd.ends ⟨s6.s, s6.e⟩ = s6.ends from rfl, hEE]
                      have Q12 := Lib.hid (Q11.out.go g10)
                      clear Q11 g10 hEE
                      clear c0 c1 f0_ f1_ hdl_
                      refine hK _ _ ?_
                      refine wpList_store_row rfl 57 _ _ rfl w.heap.size #[.bool false, .int .u32 0, .slice none 0 0, .string ⟨#[]⟩, .bool false, .slice none 0 0, .string ⟨#[]⟩, .string ⟨#[]⟩, .int .u8 0, .bool false, .bool false, .bool false, .string ⟨#[]⟩, .string ⟨#[]⟩] (by first | kernel_rfl | rfl) (by first | kernel_rfl | rfl) _ _ Q12.out.a (by kernel_rfl) rfl (by kernel_rfl) ?_
                      have HZ := Lib.hid (setRow_heap _ _ _ #[.bool false, .int .u32 0, .slice none 0 0, .string ⟨#[]⟩, .bool false, .slice none 0 0, .string ⟨#[]⟩, .string ⟨#[]⟩, .int .u8 0, .bool false, .bool false, .bool false, .string ⟨#[]⟩, .string ⟨#[]⟩] _ _ Q12.out.a)
                      have FZ := Lib.hid (fr_row Q12.out.f (g := w.heap.size) (Or.inl (Nat.le_refl _)) #[.bool false, .int .u32 0, .slice none 0 0, .string ⟨#[]⟩, .bool false, .slice none 0 0, .string ⟨#[]⟩, .string ⟨#[]⟩, .int .u8 0, .bool false, .bool false, .bool false, .string ⟨#[]⟩, .string ⟨#[]⟩])
                      refine wpList_asg rfl _ rfl ?_
                      refine wpList_seal 2 3 (.pointer (some ⟨w.heap.size, 0, none⟩)) (.int .i64 (EE)) (by first | kernel_rfl | rfl) (by first | kernel_rfl | rfl) (by rfl) (fun A hA2 hA3 hAd => ?_)
                      go_wp2
                      generalize x10.setRow w.heap.size #[.bool false, .int .u32 0, .slice none 0 0, .string ⟨#[]⟩, .bool false, .slice none 0 0, .string ⟨#[]⟩, .string ⟨#[]⟩, .int .u8 0, .bool false, .bool false, .bool false, .string ⟨#[]⟩, .string ⟨#[]⟩] = W5 at *
                      refine bodyPost_ret (res_cell2 Try.results42 _ _ w.heap.size [.bool false, .int .u32 0, .slice none 0 0, .string ⟨#[]⟩, .bool false, .slice none 0 0, .string ⟨#[]⟩, .string ⟨#[]⟩, .int .u8 0, .bool false, .bool false, .bool false, .string ⟨#[]⟩, .string ⟨#[]⟩] _ (.int .i64 EE) hA2 hA3 (range_blk HZ.out rfl) Try.underlying57 rfl (by kernel_rfl)) hAd ?_
                      rw [HR'.out]
                      exact ⟨.slice none 0 0, .slice none 0 0, rfl, View.nil _, View.nil _, FZ.out⟩
end Go.Proofs.Ytlhkgalmiajinaa
