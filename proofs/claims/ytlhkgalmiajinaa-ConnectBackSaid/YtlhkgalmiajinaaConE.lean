/- What connect.ParseAck reads. Conditions: strings that may be. -/
import Derived.Test.YtlhkgalmiajinaaConC
namespace Go.Proofs.Ytlhkgalmiajinaa
open Go.RowKit
set_option linter.unusedVariables false
set_option linter.unusedSimpArgs false

/-- While a connack is read: its result's cells in the block behind w, the reader behind it. -/
structure KaS (w : World) (r : Rd) (y : World) : Prop where
  i : InAt y (w.heap.size + 1) r
  a : y.heap[w.heap.size]? = some (.cells #[.bool false, .int .u8 0, .slice none 0 0] 64 (0, 0))
  f : Fr [] w y
theorem KaS.read {w y y' : World} {r r' : Rd} (h : KaS w r y) (i : InAt y' (w.heap.size + 1) r') (g : Fr [w.heap.size + 1] y y') : KaS w r' y' :=
  ⟨i, g.blk h.a (by simp), h.f.trans g (by intro x hx e; simp at e; omega)⟩
structure KbS (w : World) (C : Nat) (p : Bool) (c : Nat) (v : Value) (l : List Pr) (r : Rd) (y : World) : Prop where
  s : KaS w r y
  p : y.heap[C]? = some (.cells #[.bool p, .int .u8 (c : Int), v] 64 (0, 0))
  cb : w.heap.size + 1 < C
  vv : View y v l.length (l.flatMap prE)
  vk : ∀ k, v.ownBlock = some k → C < k
theorem KbS.read {w y y' : World} {C : Nat} {p : Bool} {c : Nat} {v : Value} {l : List Pr} {r r' : Rd} (h : KbS w C p c v l r y) (i : InAt y' (w.heap.size + 1) r') (g : Fr [w.heap.size + 1] y y') : KbS w C p c v l r' y' := by
  have hc := h.cb
  refine ⟨h.s.read i g, g.blk h.p (by simp; omega), hc, h.vv.fr g (fun k hk e => ?_), h.vk⟩
  have := h.vk k hk; simp at e; omega
theorem KbS.setv {w y : World} {C : Nat} {p : Bool} {c : Nat} {v v' : Value} {l : List Pr} {r : Rd} (h : KbS w C p c v l r y) (l' : List Pr) (hv : View y v' l'.length (l'.flatMap prE)) (hk : ∀ k, v'.ownBlock = some k → C < k) : KbS w C p c v' l' r (y.setCell ⟨C, 2, none⟩ v') := by
  have hcb := h.cb
  have hg : Fr [C] y (y.setCell ⟨C, 2, none⟩ v') := (Fr.refl _ _).setCell (Or.inr (by simp)) v'
  exact ⟨⟨blk_far h.s.i (by simp; omega) v', blk_far h.s.a (by simp; omega) v', h.s.f.setCell (Or.inl (by simp; omega)) v'⟩, blk_set h.p 2 v', hcb, hv.fr hg (fun k hk' e => by have := hk k hk'; simp at e; omega), hk⟩
/-- Behind ParseAck: the connack, the error. -/
def CkTo (R : Ck × Int) (w : World) (e : Ending) (w' : World) : Prop :=
  ∃ v, e = .returned (.tuple #[.agg (ckC R.1 v).toArray, .int .i64 R.2]) ∧ View w' v R.1.props.length (R.1.props.flatMap prE) ∧ Fr [] w w'
def failIf (b : Bool) (x : Int) (r : Rd) : Rd := if b = true then r.fail x else r
theorem failIf_left (b : Bool) (x : Int) (r : Rd) : (failIf b x r).s = r.s := by
  unfold failIf
  split
  · unfold Rd.fail; split <;> rfl
  · rfl
set_option maxRecDepth 100000 in
set_option maxHeartbeats 4000000 in
theorem ckparse_any (s : List UInt8) (w : World) (hs : s.length ≤ 1000000) :
    Calls Try.prog 43 #[.string ⟨s.toArray⟩] w (CkTo (ckParse s) w) := by
  have HR : ckParse s = ckFrom (Rd.num ⟨s, 0⟩ 1).1 ((Rd.num ⟨s, 0⟩ 1).2.num 1).1 ((Rd.num ⟨s, 0⟩ 1).2.num 1).2 := rfl
  have F0 : Fr [] w (w.alloc (.cells #[.bool false, .int .u8 0, .slice none 0 0] 64)) := (Fr.refl _ _).alloc _
  have hb0 := blk_new w (.cells #[.bool false, .int .u8 0, .slice none 0 0] 64)
  go_enter Try.func43, Try.ntmps43
  go_wp2_with fail
  refine (over_any s _).mono ?_
  rintro _ w1 ⟨rfl, h1, g1⟩
  rw [World.size_alloc] at h1
  have P1 : KaS w ⟨s, 0⟩ w1 := ⟨h1, g1.blk hb0 (by simp), F0.trans g1 (by simp)⟩
  clear h1 g1 F0 hb0
  go_wp2_with fail
  refine (byte_any _ _ _ P1.i (by show s.length ≤ _; omega)).mono ?_
  rintro _ w2 ⟨rfl, h2, g2⟩
  have q2 : (Rd.num ⟨s, 0⟩ 1).2.s.length ≤ s.length := num_left' ⟨s, 0⟩ 1
  have hf := num_lt1 ⟨s, 0⟩
  have P2 := P1.read h2 g2
  generalize Rd.num ⟨s, 0⟩ 1 = N at *
  obtain ⟨f, r1⟩ := N
  dsimp only at P2 HR q2 hf ⊢
  clear P1 h2 g2
  go_wp2_with fail
  refine (byte_any _ _ _ P2.i (by omega)).mono ?_
  rintro _ w3 ⟨rfl, h3, g3⟩
  have q3 := num_left' r1 1
  have hc := num_lt1 r1
  have P3 := P2.read h3 g3
  generalize r1.num 1 = N at *
  obtain ⟨c, r2⟩ := N
  dsimp only at P3 HR q3 hc ⊢
  clear P2 h3 g3
  obtain ⟨b1, f1⟩ : ∃ b, decide (1 < (f : Int)) = b := ⟨_, rfl⟩
  obtain ⟨p, fp⟩ : ∃ b, ((f : Int) == 1) = b := ⟨_, rfl⟩
  obtain ⟨cz, fc⟩ : ∃ b, ((c : Int) != 0) = b := ⟨_, rfl⟩
  obtain ⟨m, fm⟩ : ∃ b, mayC 2 c = b := ⟨_, rfl⟩
  obtain ⟨be, fe⟩ : ∃ b, (r2.e == 0) = b := ⟨_, rfl⟩
  obtain ⟨bad, hbad⟩ : ∃ b, (b1 || be && !m) = b := ⟨_, rfl⟩
  have HFa : ckFail f c r2 = failIf bad 2 r2 := by
    rw [ckFail, failIf, ← hbad, ← f1, ← fe, fm]
    have hn : (1 : Int) < f ↔ 1 < f := by omega
    cases m <;> simp [hn]
  obtain ⟨ra, hra⟩ : ∃ ra, failIf bad 2 r2 = ra := ⟨_, rfl⟩
  have qa : ra.s.length ≤ r2.s.length := by rw [← hra, failIf_left]; exact Nat.le_refl _
  rw [ckFrom, HFa, hra] at HR
  obtain ⟨⟨l, rb⟩, hp⟩ : ∃ x, takeP ra 2 false = x := ⟨_, rfl⟩
  rw [hp] at HR
  dsimp only at HR
  obtain ⟨be2, fe2⟩ : ∃ b, (rb.e == 0) = b := ⟨_, rfl⟩
  obtain ⟨bad2, hbad2⟩ : ∃ b, ((be2 && p) && cz) = b := ⟨_, rfl⟩
  have HFb : ckProto f c rb = failIf bad2 3 rb := by
    rw [ckProto, failIf, ← hbad2, ← fp, ← fe2, ← fc]
    have h1 : (f : Int) = 1 ↔ f = 1 := by omega
    simp only [Bool.and_eq_true, beq_iff_eq, bne_iff_ne, ne_eq, h1, Int.natCast_eq_zero, and_assoc]
  obtain ⟨rc, hrc⟩ : ∃ rc, failIf bad2 3 rb = rc := ⟨_, rfl⟩
  have hpf : decide (f = 1) = p := by
    rw [← fp]
    by_cases h : f = 1
    · subst h; rfl
    · have : ¬ (f : Int) = 1 := by omega
      simp [h, this]
  rw [HFb, hrc, hpf] at HR
  replace HR := Lib.hid HR
  have HRA := Lib.hid hra
  have HRC := Lib.hid hrc
  have HB := Lib.hid hbad
  have HB2 := Lib.hid hbad2
  have HP := Lib.hid hp
  clear hra hrc hbad hbad2 hp HFa HFb hpf
  have Q0 : KbS w w3.heap.size p c (.slice none 0 0) [] r2 (w3.alloc (.cells #[.bool p, .int .u8 (c : Int), .slice none 0 0] 64)) :=
    ⟨⟨blk_old P3.i _, blk_old P3.a _, P3.f.alloc _⟩, blk_new _ _, blk_lt P3.i, View.nil _, by simp [Value.ownBlock]⟩
  go_upto_region 4 with (fail)
  obtain ⟨C, hC⟩ : ∃ C, w3.heap.size = C := ⟨_, rfl⟩
  obtain ⟨y, hy⟩ : ∃ y, w3.alloc (.cells #[.bool p, .int .u8 (c : Int), .slice none 0 0] 64) = y := ⟨_, rfl⟩
  rw [hC]
  rw [hy]
  have Q1 : Hid (KbS w C p c (.slice none 0 0) [] r2 y) := Lib.hid (by rw [← hC, ← hy]; exact Q0)
  clear Q0 hy hC P3
  obtain ⟨⟨e0, e1, e2⟩, ⟨k0, k1, k2⟩, hcl_⟩ := blk3_facts (Q1.out.p)
  go_cut [29] (fun v29 wx => v29 = .bool bad ∧ y = wx)
  case first =>
    cases b1
    · go_wp2_with fail
      refine (err_any _ _ _ Q1.out.s.i).mono ?_
      rintro _ _ ⟨rfl, rfl⟩
      cases be
      · go_wp2_with fail
        go_meet
        exact ⟨by rw [← HB.out]; rfl, rfl⟩
      · go_wp2_with fail
        refine (pmayr_any 2 c _).mono ?_
        rintro _ _ ⟨rfl, rfl⟩
        rw [fm]
        go_wp2_with fail
        go_meet
        exact ⟨by rw [← HB.out]; simp, rfl⟩
    · go_wp2_with fail
      go_meet
      exact ⟨by rw [← HB.out]; rfl, rfl⟩
  case rest =>
    obtain ⟨rfl, rfl⟩ := hcut
    clear f1 fe fm HB
    go_upto_if 29 with (fail)
    go_cut [] (fun wx => KbS w C p c (.slice none 0 0) [] ra wx)
    case first =>
      cases bad
      · go_wp2_with fail
        go_meet
        rw [← HRA.out]
        exact Q1.out
      · go_wp2_with fail
        refine (fail_any _ _ 2 _ Q1.out.s.i).mono ?_
        rintro _ x5 ⟨rfl, i5, g5⟩
        go_wp2_with fail
        go_meet
        rw [← HRA.out]
        exact Q1.out.read i5 g5
    case rest =>
      have Q2 := Lib.hid hcut
      clear hcut Q1 HRA
      clear e0 e1 e2 k0 k1 k2 hcl_
      obtain ⟨⟨e0, e1, e2⟩, ⟨k0, k1, k2⟩, hcl_⟩ := blk3_facts (Q2.out.p)
      have hCz := blk_lt Q2.out.p
      go_wp2_with fail
      refine (take_b _ ra 2 false _ Q2.out.s.i (by omega)).mono ?_
      rintro _ x7 ⟨v', rfl, vv', vk', i7, g7⟩
      rw [HP.out] at vv' i7
      dsimp only at vv' i7
      obtain ⟨AV, cv, rfl⟩ := view_shape vv'
      have Q7 := Q2.out.read i7 g7
      clear e0 e1 e2 k0 k1 k2 hcl_
      obtain ⟨⟨e0, e1, e2⟩, ⟨k0, k1, k2⟩, hcl_⟩ := blk3_facts (Q7.p)
      have Q8 := Lib.hid (Q7.setv l vv' (fun k hk => Nat.lt_of_lt_of_le hCz (vk' k hk)))
      clear Q2 i7 g7 vv' vk' hCz
      go_upto_region 7 with (fail)
      obtain ⟨z3, hz_⟩ : ∃ z3, x7.setCell ⟨C, 2, none⟩ (.slice AV l.length cv) = z3 := ⟨_, rfl⟩
      rw [hz_] at Q8 ⊢
      clear hz_
      clear Q7
      clear e0 e1 e2 k0 k1 k2 hcl_
      obtain ⟨⟨e0, e1, e2⟩, ⟨k0, k1, k2⟩, hcl_⟩ := blk3_facts (Q8.out.p)
      go_cut [46] (fun v46 wx => v46 = .bool bad2 ∧ z3 = wx)
      case first =>
        go_wp2_with fail
        refine (err_any _ _ _ Q8.out.s.i).mono ?_
        rintro _ _ ⟨rfl, rfl⟩
        cases be2
        · go_wp2_with fail
          go_meet
          exact ⟨by rw [← HB2.out]; rfl, rfl⟩
        · cases p
          · go_wp2_with fail
            go_meet
            exact ⟨by rw [← HB2.out]; rfl, rfl⟩
          · go_wp2_with fail
            go_meet
            exact ⟨by rw [← HB2.out]; simp, rfl⟩
      case rest =>
        obtain ⟨rfl, rfl⟩ := hcut
        clear fe2 HB2
        go_upto_if 46 with (fail)
        go_cut [] (fun wx => KbS w C p c (.slice AV l.length cv) l rc wx)
        case first =>
          cases bad2
          · go_wp2_with fail
            go_meet
            rw [← HRC.out]
            exact Q8.out
          · go_wp2_with fail
            refine (fail_any _ _ 3 _ Q8.out.s.i).mono ?_
            rintro _ x5 ⟨rfl, i5, g5⟩
            go_wp2_with fail
            go_meet
            rw [← HRC.out]
            exact Q8.out.read i5 g5
        case rest =>
          have Q9 := Lib.hid hcut
          clear hcut Q8 HRC
          clear e0 e1 e2 k0 k1 k2 hcl_
          obtain ⟨⟨e0, e1, e2⟩, ⟨k0, k1, k2⟩, hcl_⟩ := blk3_facts (Q9.out.p)
          obtain ⟨d0, d1, d2⟩ := (blk3_facts Q9.out.s.a).1
          obtain ⟨g0, g1, g2⟩ := (blk3_facts Q9.out.s.a).2.1
          have hcb9 := Q9.out.cb
          go_wp2_with fail
          refine (end_any _ _ _ Q9.out.s.i).mono ?_
          rintro _ _ ⟨rfl, rfl⟩
          generalize rc.ends = E at *
          by_cases hE : E = 0
          · have E0 : (E != 0) = false := by simpa using hE
            rw [if_pos hE] at HR
            clear hE
            have HZ := Lib.hid (setRow_heap _ _ _ #[.bool p, .int .u8 (c : Int), .slice AV l.length cv] _ _ Q9.out.s.a)
            have FZ := Lib.hid (fr_row Q9.out.s.f (g := w.heap.size) (Or.inl (Nat.le_refl _)) #[.bool p, .int .u8 (c : Int), .slice AV l.length cv])
            have VV := Lib.hid (Q9.out.vv.fr (fr_row (Fr.refl [w.heap.size] wc) (g := w.heap.size) (Or.inr (by simp)) #[.bool p, .int .u8 (c : Int), .slice AV l.length cv]) (fun k hk e => by have := Q9.out.vk k hk; simp at e; omega))
            go_upto_region 12 with (fail)
            refine wp_region_lit ?_
            refine wpList_load_mid rfl 64 _ rfl C 0 (by rfl) [.bool p, .int .u8 (c : Int), .slice AV l.length cv] _ (range_blk Q9.out.p rfl) Try.underlying64 rfl (by kernel_rfl) ?_
            refine wpList_store_row rfl 64 _ _ rfl w.heap.size #[.bool p, .int .u8 (c : Int), .slice AV l.length cv] (by rfl) (by rfl) _ _ Q9.out.s.a (by kernel_rfl) rfl (by simp; exact ⟨rfl, rfl, rfl⟩) ?_
            clear e0 e1 e2 k0 k1 k2 hcl_
            clear d0 d1 d2 g0 g1 g2
            go_wp2
            generalize wc.setRow w.heap.size #[.bool p, .int .u8 (c : Int), .slice AV l.length cv] = W5 at *
            obtain ⟨e0, e1, e2⟩ := (blk3_facts HZ.out).1
            refine bodyPost_ret (v := .tuple #[.agg #[.bool p, .int .u8 (c : Int), .slice AV l.length cv], .int .i64 0]) (by simp [results, Try.results43, go_sem, e0, e1, e2]) rfl ?_
            rw [HR.out]
            exact ⟨_, rfl, VV.out, FZ.out⟩
          · have E0 : (E != 0) = true := by simpa using hE
            rw [if_neg hE] at HR
            have HZ := Lib.hid (setRow_heap _ _ _ #[.bool false, .int .u8 0, .slice none 0 0] _ _ Q9.out.s.a)
            have FZ := Lib.hid (fr_row Q9.out.s.f (g := w.heap.size) (Or.inl (Nat.le_refl _)) #[.bool false, .int .u8 0, .slice none 0 0])
            go_upto_region 11 with (fail)
            refine wp_region_lit ?_
            refine wpList_build rfl _ _ rfl (by kernel_rfl) ?_
            refine wpList_mv rfl _ rfl ?_
            refine wpList_store_row rfl 64 _ _ rfl w.heap.size #[.bool false, .int .u8 0, .slice none 0 0] (by rfl) (by kernel_rfl) _ _ Q9.out.s.a (by kernel_rfl) rfl (by kernel_rfl) ?_
            clear e0 e1 e2 k0 k1 k2 hcl_
            clear d0 d1 d2 g0 g1 g2
            go_wp2
            generalize wc.setRow w.heap.size #[.bool false, .int .u8 0, .slice none 0 0] = W5 at *
            obtain ⟨e0, e1, e2⟩ := (blk3_facts HZ.out).1
            refine bodyPost_ret (v := .tuple #[.agg #[.bool false, .int .u8 0, .slice none 0 0], .int .i64 E]) (by simp [results, Try.results43, go_sem, e0, e1, e2]) rfl ?_
            rw [HR.out]
            exact ⟨.slice none 0 0, rfl, View.nil _, FZ.out⟩
end Go.Proofs.Ytlhkgalmiajinaa
