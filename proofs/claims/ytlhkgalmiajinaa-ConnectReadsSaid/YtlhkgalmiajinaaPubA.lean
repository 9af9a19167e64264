/- What the answers of package publish come to. Conditions: numbers within their kinds, strings that may be. -/
import Derived.Test.YtlhkgalmiajinaaPubP
namespace Go.Proofs.Ytlhkgalmiajinaa
open Go.RowKit

/-- An answer as a value; v: its properties. -/
def akC (a : Ak) (v : Value) : List Value := [.int .i64 a.kind, .int .u32 (a.id : Int), .int .u8 (a.code : Int), v]
set_option maxRecDepth 100000 in
set_option maxHeartbeats 2000000 in
theorem packtext_any (a : Ak) (v : Value) (w : World) (hc : a.code < 256) (hid : a.id < 4294967296) (hv : View w v a.props.length (a.props.flatMap prE)) (hl : a.props.length ≤ 1000) (hok : ∀ x ∈ a.props, x.n < 4294967296 ∧ x.s.length ≤ 9223372036854775807 ∧ x.t.length ≤ 9223372036854775807) :
    Calls Try.prog 22 #[.agg (akC a v).toArray] w fun e w' => e = .returned (.string ⟨(akText a).toArray⟩) ∧ Fr [] w w' := by
  obtain ⟨k, id, c, l⟩ := a
  dsimp only at hc hid hv hl hok
  have HV := Lib.hid hv
  obtain ⟨A, cp, rfl, _⟩ := hv
  have HT : Hid (akText ⟨k, id, c, l⟩ = two id ++ ((if c ≠ 0 ∨ l ≠ [] then [b8 c] else []) ++ (if l ≠ [] then propsB l else []))) := Lib.hid rfl
  have hno := OutAt.new (w.alloc (.cells (akC ⟨k, id, c, l⟩ (.slice A l.length cp)).toArray 28))
  have hb0 := blk_old (blk_new w (.cells (akC ⟨k, id, c, l⟩ (.slice A l.length cp)).toArray 28)) (.cells #[.slice none 0 0] 101)
  have F0 : Fr [] w ((w.alloc (.cells (akC ⟨k, id, c, l⟩ (.slice A l.length cp)).toArray 28)).alloc (.cells #[.slice none 0 0] 101)) := ((Fr.refl _ _).alloc _).alloc _
  unfold akC at hno hb0 F0 ⊢
  rw [World.size_alloc] at hno
  go_enter Try.func22, Try.ntmps22
  go_wp2_with fail
  refine (outtwo_any (w.heap.size + 1) (w.heap.size + 1) [] id _ hno (by omega) (by omega) (by simp)).mono ?_
  rintro _ w1 ⟨rfl, o1, h1, ho1, g1⟩
  rw [List.nil_append, Int.toNat_natCast] at h1
  have F1 := F0.trans g1 (by intro x hx h; simp at h; omega)
  have hb1 := g1.blk hb0 (by simp)
  have z1 := g1.size
  rw [World.size_alloc, World.size_alloc] at z1 ho1
  have h2l : (two id).length = 2 := rfl
  clear hno hb0 F0 g1
  obtain ⟨⟨e0, e1, e2, e3⟩, ⟨k0, k1, k2, k3⟩, _⟩ := blk4_facts (hb1)
  by_cases hl0 : l = []
  · subst hl0
    by_cases hc0 : c = 0
    · have c0 : ((c : Int) != 0) = false := by simp [hc0]
      rw [if_neg (by simp [hc0]), if_neg (by simp), List.nil_append, List.append_nil] at HT
      clear hc0
      go_wp2_with fail
      refine (outtext_any _ _ _ _ h1).mono ?_
      rintro _ _ ⟨rfl, rfl⟩
      go_wp2
      go_ret
      rw [HT.out]
      exact ⟨rfl, F1⟩
    · have c0 : ((c : Int) != 0) = true := by simp [hc0]
      rw [if_pos (Or.inl hc0), if_neg (by simp), List.append_nil] at HT
      clear hc0
      go_wp2_with fail
      refine (outbyte_any (w.heap.size + 1) o1 _ c _ h1 (by omega) (by omega) (by omega)).mono ?_
      rintro _ w2 ⟨rfl, o2, h2, ho2, g2⟩
      rw [Int.toNat_natCast] at h2
      have F2 := F1.trans g2 (by intro x hx h; simp at h; omega)
      have hb2 := g2.blk hb1 (by simp; omega)
      clear h1 F1 hb1 g2
      clear e0 e1 e2 e3 k0 k1 k2 k3
      obtain ⟨⟨e0, e1, e2, e3⟩, ⟨k0, k1, k2, k3⟩, _⟩ := blk4_facts (hb2)
      go_wp2_with fail
      refine (outtext_any _ _ _ _ h2).mono ?_
      rintro _ _ ⟨rfl, rfl⟩
      go_wp2
      go_ret
      rw [HT.out]
      exact ⟨rfl, F2⟩
  · have HT2 : Hid (akText ⟨k, id, c, l⟩ = two id ++ [b8 c] ++ propsB l) := Lib.hid (by rw [HT.out, if_pos (Or.inr hl0), if_pos hl0, List.append_assoc])
    have hlen : 0 < l.length := List.length_pos_iff.2 hl0
    clear HT hl0
    have hpl := putsB_len l
    by_cases hc0 : c = 0
    all_goals
      first | have c0 : ((c : Int) != 0) = false := by simp [hc0]
            | have c0 : ((c : Int) != 0) = true := by simp [hc0]
      clear hc0
      go_wp2_with fail
      refine (outbyte_any (w.heap.size + 1) o1 _ c _ h1 (by omega) (by omega) (by omega)).mono ?_
      rintro _ w2 ⟨rfl, o2, h2, ho2, g2⟩
      rw [Int.toNat_natCast] at h2
      have F2 := F1.trans g2 (by intro x hx h; simp at h; omega)
      have hb2 := g2.blk hb1 (by simp; omega)
      have z2 := g2.size
      clear h1 F1 hb1 g2
      clear e0 e1 e2 e3 k0 k1 k2 k3
      obtain ⟨⟨e0, e1, e2, e3⟩, ⟨k0, k1, k2, k3⟩, _⟩ := blk4_facts (hb2)
      go_wp2_with fail
      refine (puts_any (w.heap.size + 1) o2 _ _ l _ h2 (HV.out.old F2 (by simp)) hl hok (by rw [List.length_append]; simp; omega)).mono ?_
      rintro _ w3 ⟨rfl, o3, h3, ho3, g3⟩
      have F3 := F2.trans g3 (by intro x hx h; simp at h; omega)
      clear h2 F2 hb2 g3
      clear e0 e1 e2 e3 k0 k1 k2 k3
      go_wp2_with fail
      refine (outtext_any _ _ _ _ h3).mono ?_
      rintro _ _ ⟨rfl, rfl⟩
      go_wp2
      go_ret
      rw [HT2.out]
      exact ⟨ret_str (by simp [propsB]), F3⟩
theorem own_set4 {w : World} {base : Nat} {e : TypeId} {size n : Nat} {v : Value} {xs : List Value} (h : w.ownsRow base e size v n xs) {b : Nat} (hne : some b ≠ v.ownBlock) (x0 x1 x2 x3 : Value) : (set4 w b x0 x1 x2 x3).ownsRow base e size v n xs :=
  have a0 := own_set h (p := ⟨b, 0, none⟩) hne x0
  have a1 := own_set a0 (p := ⟨b, 1, none⟩) hne x1
  have a2 := own_set a1 (p := ⟨b, 2, none⟩) hne x2
  own_set a2 (p := ⟨b, 3, none⟩) hne x3
/-- Behind ParseAck: the answer, the error. -/
def AckTo (T : TypeId) (R : Ak × Int) (w : World) (e : Ending) (w' : World) : Prop :=
  ∃ v, e = .returned (.tuple #[.agg (akC R.1 v).toArray, .int .i64 R.2]) ∧ w'.ownsRow w.heap.size T 4 v R.1.props.length (R.1.props.flatMap prE) ∧ Fr [] w w'
set_option maxRecDepth 100000 in
set_option maxHeartbeats 4000000 in
theorem packparse_any (k : Int) (s : List UInt8) (w : World) (hs : s.length ≤ 1000000) :
    Calls Try.prog 39 #[.int .i64 k, .string ⟨s.toArray⟩] w (AckTo 97 (akParse k s) w) := by
  have F0 : Fr [] w (w.alloc (.cells (akC noAk (.slice none 0 0)).toArray 28)) := (Fr.refl _ _).alloc _
  have hb0 := blk_new w (.cells (akC noAk (.slice none 0 0)).toArray 28)
  unfold akC noAk at F0 hb0
  dsimp only at F0 hb0
  rw [Int.natCast_zero] at F0 hb0
  by_cases hk4 : k < 4
  · have HR : Hid (akParse k s = (noAk, 5)) := Lib.hid (by rw [akParse, if_pos (Or.inl hk4)])
    clear hb0
    go_enter Try.func39, Try.ntmps39
    go_wp2
    refine bodyPost_ret (v := .tuple #[.agg #[.int .i64 0, .int .u32 0, .int .u8 0, .slice none 0 0], .int .i64 5]) (by simp [results, Try.results39, go_sem]) rfl ?_
    rw [HR.out]
    exact ⟨.slice none 0 0, rfl, World.ownsRow_nil _ _ _ _, F0⟩
  by_cases hk7 : 7 < k
  · have HR : Hid (akParse k s = (noAk, 5)) := Lib.hid (by rw [akParse, if_pos (Or.inr hk7)])
    clear hb0
    go_enter Try.func39, Try.ntmps39
    go_wp2
    refine bodyPost_ret (v := .tuple #[.agg #[.int .i64 0, .int .u32 0, .int .u8 0, .slice none 0 0], .int .i64 5]) (by simp [results, Try.results39, go_sem]) rfl ?_
    rw [HR.out]
    exact ⟨.slice none 0 0, rfl, World.ownsRow_nil _ _ _ _, F0⟩
  have HR : Hid (akParse k s = if akE k s = 0 then (⟨k, (Rd.ident ⟨s, 0⟩).1, (akCode (Rd.ident ⟨s, 0⟩).2).1, (akProps k (akMay k (akCode (Rd.ident ⟨s, 0⟩).2))).1⟩, 0) else (noAk, akE k s)) := Lib.hid (by rw [akParse, if_neg (by omega)])
  unfold akE at HR
  have k4 : decide (k < 4) = false := by simpa using hk4
  have k7 : decide (7 < k) = false := by simpa using hk7
  go_enter Try.func39, Try.ntmps39
  go_wp2_with fail
  refine (over_any s _).mono ?_
  rintro _ w1 ⟨rfl, h1, g1⟩
  rw [World.size_alloc] at h1
  have z1 := g1.size
  rw [World.size_alloc] at z1
  have hbi := blk_lt h1
  have hA1 := g1.blk hb0 (by simp)
  have F1 := F0.trans g1 (by simp)
  clear F0 hb0 g1
  go_wp2_with fail
  refine (pident_any (w.heap.size + 1) ⟨s, 0⟩ _ h1 (by show s.length ≤ _; omega)).mono ?_
  rintro _ w2 ⟨rfl, h2, g2⟩
  have hs2 : (Rd.ident ⟨s, 0⟩).2.s.length ≤ s.length := ident_left ⟨s, 0⟩
  generalize Rd.ident ⟨s, 0⟩ = T at *
  obtain ⟨id, r1⟩ := T
  dsimp only at h2 hs2 HR ⊢
  have HA := Lib.hid (blk_old (g2.blk hA1 (by simp)) (.cells #[.int .i64 k, .int .u32 (id : Int), .int .u8 0, .slice none 0 0] 28))
  have HP := Lib.hid (blk_new w2 (.cells #[.int .i64 k, .int .u32 (id : Int), .int .u8 0, .slice none 0 0] 28))
  have FY := Lib.hid ((F1.trans g2 (by intro x hx h; simp at h; omega)).alloc (.cells #[.int .i64 k, .int .u32 (id : Int), .int .u8 0, .slice none 0 0] 28))
  have IN := Lib.hid (h2.fr (S := []) (w' := w2.alloc (.cells #[.int .i64 k, .int .u32 (id : Int), .int .u8 0, .slice none 0 0] 28)) (by repeat (first | exact Fr.refl _ _ | (with_reducible apply Fr.alloc) | (with_reducible apply Fr.drew) | (with_reducible apply Fr.drewN) | (with_reducible refine Fr.setCell ?_ (by simp) _))) (by simp))
  have z2 := g2.size
  clear h1 hA1 F1 h2 g2
  go_wp2_with fail
  refine (left_any _ _ _ IN.out).mono ?_
  rintro _ y ⟨rfl, hy⟩
  rw [hy] at HA HP FY IN
  have hP2 : w.heap.size + 1 < w2.heap.size := by omega
  have hyw : w2.heap.size < y.heap.size := by rw [← hy]; simp
  generalize hC : w2.heap.size = C at *
  clear hy hC
  go_upto_if 24 with (fail)
  have hs3 : (akCode r1).2.s.length ≤ s.length ∧ (akCode r1).1 < 256 := by
    unfold akCode
    split
    · exact ⟨hs2, (by decide : (0 : Nat) < 256)⟩
    · have := r1.raw_left 1
      have h2 := r1.num_lt 1
      exact ⟨Nat.le_trans this hs2, by omega⟩
  go_cut [] (fun wx => wx.heap[C]? = some (.cells #[.int .i64 k, .int .u32 (id : Int), .int .u8 ((akCode r1).1 : Int), .slice none 0 0] 28 (0, 0)) ∧ InAt wx (w.heap.size + 1) (akCode r1).2 ∧ wx.heap[w.heap.size]? = some (.cells #[.int .i64 0, .int .u32 0, .int .u8 0, .slice none 0 0] 28 (0, 0)) ∧ Fr [] w wx)
  case first =>
    by_cases hr : r1.s = []
    · have hl0 : r1.s.length = 0 := by rw [hr]; rfl
      have hac : akCode r1 = (0, r1) := if_pos hr
      go_wp2
      go_meet
      rw [hac]
      exact ⟨HP.out, IN.out, HA.out, FY.out⟩
    · have hl0 : 0 < r1.s.length := List.length_pos_iff.2 hr
      have hac : akCode r1 = r1.num 1 := if_neg hr
      have HAC := Lib.hid hac
      clear hr hac
      obtain ⟨⟨e0, e1, e2, e3⟩, ⟨k0, k1, k2, k3⟩, _⟩ := blk4_facts HP.out
      clear e0 e1 e2 e3 k0 k1 k2 k3
      go_wp2_with fail
      refine (byte_any _ _ _ IN.out (by omega)).mono ?_
      rintro _ y2 ⟨rfl, i2, g2⟩
      obtain ⟨⟨e0, e1, e2, e3⟩, ⟨k0, k1, k2, k3⟩, _⟩ := blk4_facts (g2.blk HP.out (by simp; omega))
      go_wp2
      go_meet
      rw [HAC.out]
      exact ⟨blk_set (g2.blk HP.out (by simp; omega)) 2 _, i2.fr (S := [C]) (by repeat (first | exact Fr.refl _ _ | (with_reducible apply Fr.alloc) | (with_reducible apply Fr.drew) | (with_reducible apply Fr.drewN) | (with_reducible refine Fr.setCell ?_ (by simp) _))) (by simp; omega), blk_far (g2.blk HA.out (by simp)) (by simp; omega) _, (FY.out.trans g2 (by intro x hx h; simp at h; omega)).setCell (Or.inl (by simp; omega)) _⟩
  case rest =>
    obtain ⟨hp3, i3, ha3, f3⟩ := hcut
    clear HP IN HA FY hs2
    generalize hAC : akCode r1 = T at *
    clear hAC
    obtain ⟨c, r2⟩ := T
    dsimp only at hs3 hp3 i3 HR
    obtain ⟨hs3, hc⟩ := hs3
    have HP := Lib.hid hp3
    have HA := Lib.hid ha3
    have FY := Lib.hid f3
    clear ha3 f3
    generalize wc = x3 at *
    obtain ⟨⟨e0, e1, e2, e3⟩, ⟨k0, k1, k2, k3⟩, hlC⟩ := blk4_facts hp3
    go_upto_region 7 with (fail)
    go_cut [37] (fun v37 wx => v37 = .bool (decide (r2.e = 0) && !mayC k c) ∧ x3 = wx)
    case first =>
      by_cases he : r2.e = 0
      · have e5 : (r2.e == 0) = true := by simpa using he
        have d5 : decide (r2.e = 0) = true := by simpa using he
        clear he
        go_wp2_with fail
        refine (err_any _ _ _ i3).mono ?_
        rintro _ _ ⟨rfl, rfl⟩
        go_wp2_with fail
        refine (pmayr_any k c _).mono ?_
        rintro _ _ ⟨rfl, rfl⟩
        go_wp2
        go_meet
        rw [d5]
        exact ⟨by rw [Bool.true_and], rfl⟩
      · have e5 : (r2.e == 0) = false := by simpa using he
        have d5 : decide (r2.e = 0) = false := by simpa using he
        clear he
        go_wp2_with fail
        refine (err_any _ _ _ i3).mono ?_
        rintro _ _ ⟨rfl, rfl⟩
        go_wp2
        go_meet
        rw [d5]
        exact ⟨by rw [Bool.false_and], rfl⟩
    case rest =>
      obtain ⟨rfl, hwc⟩ := hcut
      rw [← hwc]
      clear hwc
      clear wc
      have hm4 : (akMay k (c, r2)).s.length ≤ s.length := by
        unfold akMay Rd.fail
        split
        · exact hs3
        · split <;> exact hs3
      have HM : Hid (akMay k (c, r2) = if (decide (r2.e = 0) && !mayC k c) = true then r2.fail 2 else r2) := Lib.hid (by
        unfold akMay
        dsimp only
        by_cases he : r2.e = 0
        · cases mayC k c <;> simp [he]
        · rw [fail_bad r2 2 he]; simp)
      generalize akMay k (c, r2) = r3 at *
      generalize (decide (r2.e = 0) && !mayC k c) = b at *
      clear e0 e1 e2 e3 k0 k1 k2 k3
      go_upto_if 37 with (fail)
      go_cut [] (fun wx => wx.heap[C]? = some (.cells #[.int .i64 k, .int .u32 (id : Int), .int .u8 (c : Int), .slice none 0 0] 28 (0, 0)) ∧ InAt wx (w.heap.size + 1) r3 ∧ wx.heap[w.heap.size]? = some (.cells #[.int .i64 0, .int .u32 0, .int .u8 0, .slice none 0 0] 28 (0, 0)) ∧ Fr [] w wx)
      case first =>
        cases b
        · rw [if_neg (by decide)] at HM
          go_wp2
          go_meet
          rw [HM.out]
          exact ⟨HP.out, i3, HA.out, FY.out⟩
        · rw [if_pos rfl] at HM
          go_wp2_with fail
          refine (fail_any _ _ 2 _ i3).mono ?_
          rintro _ y4 ⟨rfl, i4, g4⟩
          go_wp2
          go_meet
          rw [HM.out]
          exact ⟨g4.blk HP.out (by simp; omega), i4, g4.blk HA.out (by simp), FY.out.trans g4 (by intro x hx h; simp at h; omega)⟩
      case rest =>
        obtain ⟨hp4, i4, ha4, f4⟩ := hcut
        clear HM HP HA FY i3 hp3 hlC
        generalize wc = y4 at *
        obtain ⟨⟨e0, e1, e2, e3⟩, ⟨k0, k1, k2, k3⟩, hlC⟩ := blk4_facts hp4
        have HA := Lib.hid ha4
        have FY := Lib.hid f4
        have HP := Lib.hid hp4
        clear ha4 f4 hp4
        have HK : Hid (akProps k r3 = if r3.s = [] then ([], r3) else takeP r3 k false) := Lib.hid rfl
        have hs5 : (akProps k r3).2.s.length ≤ s.length := by
          rw [HK.out]
          split
          · exact hm4
          · exact Nat.le_trans (takeP_left r3 k false) hm4
        generalize akProps k r3 = R at *
        obtain ⟨l, r4⟩ := R
        dsimp only at HR hs5
        go_wp2_with fail
        refine (left_any _ _ _ i4).mono ?_
        rintro _ _ ⟨rfl, rfl⟩
        go_upto_if 42 with (fail)
        go_cut [] (fun wx => ∃ A4 c4, wx.heap[C]? = some (.cells #[.int .i64 k, .int .u32 (id : Int), .int .u8 (c : Int), .slice A4 l.length c4] 28 (0, 0)) ∧ InAt wx (w.heap.size + 1) r4 ∧ wx.heap[w.heap.size]? = some (.cells #[.int .i64 0, .int .u32 0, .int .u8 0, .slice none 0 0] 28 (0, 0)) ∧ wx.ownsRow y4.heap.size 97 4 (.slice A4 l.length c4) l.length (l.flatMap prE) ∧ Fr [] w wx)
        case first =>
          by_cases hr : r3.s = []
          · rw [if_pos hr] at HK
            have hl0 : r3.s.length = 0 := by rw [hr]; rfl
            go_wp2
            go_meet
            have := HK.out
            cases this
            exact ⟨none, 0, HP.out, i4, HA.out, World.ownsRow_nil _ _ _ _, FY.out⟩
          · rw [if_neg hr] at HK
            have hl0 : 0 < r3.s.length := List.length_pos_iff.2 hr
            clear hr
            go_wp2_with fail
            refine (ptake_any _ _ k false _ i4 (by omega)).mono ?_
            rw [← HK.out]
            rintro _ y5 ⟨v, rfl, own5, _, i5, g5⟩
            dsimp only at own5 i5
            obtain ⟨A4, c4, rfl⟩ := own_shape own5
            have hlow := Lib.hid (fun k hk => (own5.lt k hk).1)
            clear e0 e1 e2 e3 k0 k1 k2 k3
            obtain ⟨⟨e0, e1, e2, e3⟩, ⟨k0, k1, k2, k3⟩, _⟩ := blk4_facts (g5.blk HP.out (by simp; omega))
            go_wp2
            go_meet
            exact ⟨A4, c4, blk_set (g5.blk HP.out (by simp; omega)) 3 _, i5.fr (S := [C]) (by repeat (first | exact Fr.refl _ _ | (with_reducible apply Fr.alloc) | (with_reducible apply Fr.drew) | (with_reducible apply Fr.drewN) | (with_reducible refine Fr.setCell ?_ (by simp) _))) (by simp; omega), blk_far (g5.blk HA.out (by simp)) (by simp; omega) _, own_set own5 (by intro e; have := hlow.out _ e.symm; simp at this; omega) _, (FY.out.trans g5 (by intro x hx h; simp at h; omega)).setCell (Or.inl (by simp; omega)) _⟩
        case rest =>
          obtain ⟨A4, c4, hp6, i6, ha6, own6, f6⟩ := hcut
          clear HK HP HA FY i4
          clear e0 e1 e2 e3 k0 k1 k2 k3
          generalize wc = y6 at *
          obtain ⟨⟨e0, e1, e2, e3⟩, ⟨k0, k1, k2, k3⟩, _⟩ := blk4_facts hp6
          obtain ⟨⟨d0, d1, d2, d3⟩, ⟨g0, g1, g2, g3⟩, _⟩ := blk4_facts ha6
          have hlow := Lib.hid (fun k hk => (own6.lt k hk).1)
          go_wp2_with fail
          refine (end_any _ _ _ i6).mono ?_
          rintro _ _ ⟨rfl, rfl⟩
          clear i6 hp6
          generalize r4.ends = E at *
          by_cases hE : E = 0
          · have E0 : (E != 0) = false := by simpa using hE
            rw [if_pos hE] at HR
            clear hE
            have HZ := Lib.hid (blk4_set ha6 (.int .i64 k) (.int .u32 (id : Int)) (.int .u8 (c : Int)) (.slice A4 l.length c4))
            have FZ := Lib.hid (fr4_set f6 (b := w.heap.size) (Nat.le_refl _) (.int .i64 k) (.int .u32 (id : Int)) (.int .u8 (c : Int)) (.slice A4 l.length c4))
            have OZ := Lib.hid (own_base (own_set4 own6 (b := w.heap.size) (by intro e; have := hlow.out _ e.symm; omega) (.int .i64 k) (.int .u32 (id : Int)) (.int .u8 (c : Int)) (.slice A4 l.length c4)) (base' := w.heap.size) (fun k hk => by have := hlow.out k hk; omega))
            go_wp2
            change bodyPost _ _ _ _ _ (set4 y6 w.heap.size (.int .i64 k) (.int .u32 (id : Int)) (.int .u8 (c : Int)) (.slice A4 l.length c4))
            generalize set4 y6 w.heap.size (.int .i64 k) (.int .u32 (id : Int)) (.int .u8 (c : Int)) (.slice A4 l.length c4) = W5 at *
            clear d0 d1 d2 d3 g0 g1 g2 g3
            clear e0 e1 e2 e3 k0 k1 k2 k3
            obtain ⟨e0, e1, e2, e3⟩ := (blk4_facts HZ.out).1
            refine bodyPost_ret (v := .tuple #[.agg #[.int .i64 k, .int .u32 (id : Int), .int .u8 (c : Int), .slice A4 l.length c4], .int .i64 0]) (by simp [results, Try.results39, go_sem, e0, e1, e2, e3]) rfl ?_
            rw [HR.out]
            exact ⟨.slice A4 l.length c4, rfl, OZ.out, FZ.out⟩
          · have E0 : (E != 0) = true := by simpa using hE
            rw [if_neg hE] at HR
            clear hE
            have HZ := Lib.hid (blk4_set ha6 (.int .i64 0) (.int .u32 0) (.int .u8 0) (.slice none 0 0))
            have FZ := Lib.hid (fr4_set f6 (b := w.heap.size) (Nat.le_refl _) (.int .i64 0) (.int .u32 0) (.int .u8 0) (.slice none 0 0))
            go_wp2
            change bodyPost _ _ _ _ _ (set4 y6 w.heap.size (.int .i64 0) (.int .u32 0) (.int .u8 0) (.slice none 0 0))
            generalize set4 y6 w.heap.size (.int .i64 0) (.int .u32 0) (.int .u8 0) (.slice none 0 0) = W5 at *
            clear d0 d1 d2 d3 g0 g1 g2 g3
            clear e0 e1 e2 e3 k0 k1 k2 k3
            obtain ⟨e0, e1, e2, e3⟩ := (blk4_facts HZ.out).1
            refine bodyPost_ret (v := .tuple #[.agg #[.int .i64 0, .int .u32 0, .int .u8 0, .slice none 0 0], .int .i64 E]) (by simp [results, Try.results39, go_sem, e0, e1, e2, e3]) rfl ?_
            rw [HR.out]
            exact ⟨.slice none 0 0, rfl, World.ownsRow_nil _ _ _ _, FZ.out⟩
end Go.Proofs.Ytlhkgalmiajinaa
