/- What package publish comes to. Conditions: numbers within their kinds, strings that may be. -/
import Derived.Test.YtlhkgalmiajinaaPub
import Derived.Test.YtlhkgalmiajinaaLens
import Derived.Test.YtlhkgalmiajinaaBlk7
import Derived.Test.YtlhkgalmiajinaaPropG
import Derived.Test.YtlhkgalmiajinaaPropOpen
import Derived.Test.YtlhkgalmiajinaaBase
namespace Go.Proofs.Ytlhkgalmiajinaa
open Go.RowKit

/-- A publish as a value; v: its properties. -/
def pbC (p : Pb) (v : Value) : List Value := [.bool p.dup, .bool p.ret, .int .u8 (p.qos : Int), .int .u32 (p.id : Int), v, .string ⟨p.topic.toArray⟩, .string ⟨p.pay.toArray⟩]
theorem flags_fin : ∀ q : Fin 256, bits .and .u8 (q.val : Int) 3 = ((q.val % 4 : Nat) : Int) := by decide +kernel
theorem flags_or : ∀ (q : Fin 4), bits .or .i64 ((q.val : Int) * 2) 8 = (q.val : Int) * 2 + 8 ∧ bits .or .i64 ((q.val : Int) * 2) 1 = (q.val : Int) * 2 + 1 ∧ bits .or .i64 ((q.val : Int) * 2 + 8) 1 = (q.val : Int) * 2 + 8 + 1 := by decide +kernel
set_option maxRecDepth 100000 in
theorem pflags_any (p : Pb) (v : Value) (w : World) (hq : p.qos < 256) :
    Calls Try.prog 17 #[.agg (pbC p v).toArray] w fun e w' => e = .returned (.int .i64 (pbFlags p : Nat)) ∧ Fr [] w w' := by
  obtain ⟨dup, ret, q, id, l, t, s⟩ := p
  dsimp only at hq
  have h1 := flags_fin ⟨q, hq⟩
  have h2 := flags_or ⟨q % 4, Nat.mod_lt _ (by decide)⟩
  dsimp only at h1 h2
  obtain ⟨h2, h3, h4⟩ := h2
  obtain ⟨m, hm⟩ : ∃ m, q % 4 = m := ⟨_, rfl⟩
  have hm4 : m < 4 := by rw [← hm]; exact Nat.mod_lt _ (by decide)
  have HF : Hid (pbFlags ⟨dup, ret, q, id, l, t, s⟩ = m * 2 + (if dup = true then 8 else 0) + (if ret = true then 1 else 0)) := Lib.hid (by rw [← hm]; rfl)
  rw [hm] at h1 h2 h3 h4
  clear hm
  cases dup <;> cases ret
  all_goals
    unfold pbC
    go_enter Try.func17, Try.ntmps17
    go_wp2
    go_ret
    rw [HF.out]
    exact ⟨ret_int (by first | (simp; done) | (simp; omega)), (Fr.refl _ _).alloc _⟩
set_option maxRecDepth 100000 in
set_option maxHeartbeats 2000000 in
theorem ptext_any (p : Pb) (v : Value) (w : World) (hq : p.qos < 256) (hid : p.id < 4294967296) (hv : View w v p.props.length (p.props.flatMap prE)) (hl : p.props.length ≤ 1000) (hok : ∀ x ∈ p.props, x.n < 4294967296 ∧ x.s.length ≤ 9223372036854775807 ∧ x.t.length ≤ 9223372036854775807) (ht : p.topic.length ≤ 9223372036854775807) (hs : p.pay.length ≤ 1000000) :
    Calls Try.prog 20 #[.agg (pbC p v).toArray] w fun e w' => e = .returned (.string ⟨(pbText p).toArray⟩) ∧ Fr [] w w' := by
  obtain ⟨dup, ret, q, id, l, t, s⟩ := p
  dsimp only at hq hid hv hl hok ht hs
  have HT : Hid (pbText ⟨dup, ret, q, id, l, t, s⟩ = dataB t ++ ((if 0 < q then two id else []) ++ (propsB l ++ s))) := Lib.hid rfl
  have hno := OutAt.new (w.alloc (.cells (pbC ⟨dup, ret, q, id, l, t, s⟩ v).toArray 26))
  have hb0 := blk_old (blk_new w (.cells (pbC ⟨dup, ret, q, id, l, t, s⟩ v).toArray 26)) (.cells #[.slice none 0 0] 101)
  have F0 : Fr [] w ((w.alloc (.cells (pbC ⟨dup, ret, q, id, l, t, s⟩ v).toArray 26)).alloc (.cells #[.slice none 0 0] 101)) := ((Fr.refl _ _).alloc _).alloc _
  have hd := dataB_len t
  have hpl := putsB_len l
  have hvl := varB_len' (putsB l).length
  unfold pbC at hno hb0 F0 ⊢
  rw [World.size_alloc] at hno
  go_enter Try.func20, Try.ntmps20
  go_wp2_with fail
  refine (outdata_any (w.heap.size + 1) (w.heap.size + 1) [] t _ hno ht (by simp)).mono ?_
  rintro _ w1 ⟨rfl, o1, h1, ho1, g1⟩
  rw [List.nil_append] at h1
  have F1 := F0.trans g1 (by intro x hx h; simp at h; omega)
  have hb1 := g1.blk hb0 (by simp)
  have z1 := g1.size
  rw [World.size_alloc, World.size_alloc] at z1 ho1
  clear hno hb0 F0 g1
  obtain ⟨⟨e0, e1, e2, e3, e4, e5, e6⟩, ⟨z0, z1', z2', z3', z4, z5, z6⟩, _⟩ := blk7_facts hb1
  by_cases hq0 : 0 < (q : Int)
  · go_wp2_with fail
    refine (outtwo_any (w.heap.size + 1) o1 _ id _ h1 (by omega) (by omega) (by omega)).mono ?_
    rintro _ w2 ⟨rfl, o2, h2, ho2, g2⟩
    have F2 := Lib.hid (F1.trans g2 (by intro x hx h; simp at h; omega))
    have hb2 := g2.blk hb1 (by simp; omega)
    have z2 := g2.size
    rw [if_pos (by omega)] at HT
    rw [Int.toNat_natCast] at h2
    clear h1 g2 hb1 F1 e0 e1 e2 e3 e4 e5 e6 z0 z1' z2' z3' z4 z5 z6
    obtain ⟨⟨e0, e1, e2, e3, e4, e5, e6⟩, ⟨z0, z1', z2', z3', z4, z5, z6⟩, _⟩ := blk7_facts hb2
    have hlen : (dataB t ++ two id).length ≤ 65539 := by rw [List.length_append, two_len]; omega
    have h2l : (two id).length = 2 := rfl
    go_wp2_with fail
    refine (puts_any (w.heap.size + 1) o2 (dataB t ++ two id) v l _ h2 (hv.old (F2.out) (by simp)) hl hok (by omega)).mono ?_
    rintro _ w3 ⟨rfl, o3, h3, ho3, g3⟩
    have F3 := F2.out.trans g3 (by intro x hx h; simp at h; omega)
    have hb3 := g3.blk hb2 (by simp; omega)
    have z3 := g3.size
    clear h2 g3 hb2 F2 e0 e1 e2 e3 e4 e5 e6 z0 z1' z2' z3' z4 z5 z6
    obtain ⟨⟨e0, e1, e2, e3, e4, e5, e6⟩, ⟨z0, z1', z2', z3', z4, z5, z6⟩, _⟩ := blk7_facts hb3
    go_wp2_with fail
    refine (outraw_any (w.heap.size + 1) o3 _ s _ h3 (by simp only [List.length_append]; omega)).mono ?_
    rintro _ w4 ⟨rfl, o4, h4, ho4, g4⟩
    have F4 := F3.trans g4 (by intro x hx h; simp at h; omega)
    clear h3 g4 hb3 F3
    go_wp2_with fail
    refine (outtext_any _ _ _ _ h4).mono ?_
    rintro _ _ ⟨rfl, rfl⟩
    go_wp2
    go_ret
    rw [HT.out]
    exact ⟨ret_str (by simp [propsB]), F4⟩
  · have h2 := h1
    have F2 := Lib.hid F1
    have hb2 := hb1
    have ho2 := ho1
    rw [if_neg (by omega), List.nil_append] at HT
    clear h1 F1 hb1
    go_wp2_with fail
    refine (puts_any (w.heap.size + 1) o1 (dataB t) v l _ h2 (hv.old (F2.out) (by simp)) hl hok (by omega)).mono ?_
    rintro _ w3 ⟨rfl, o3, h3, ho3, g3⟩
    have F3 := F2.out.trans g3 (by intro x hx h; simp at h; omega)
    have hb3 := g3.blk hb2 (by simp; omega)
    have z3 := g3.size
    clear h2 g3 hb2 F2 e0 e1 e2 e3 e4 e5 e6 z0 z1' z2' z3' z4 z5 z6
    obtain ⟨⟨e0, e1, e2, e3, e4, e5, e6⟩, ⟨z0, z1', z2', z3', z4, z5, z6⟩, _⟩ := blk7_facts hb3
    go_wp2_with fail
    refine (outraw_any (w.heap.size + 1) o3 _ s _ h3 (by simp only [List.length_append]; omega)).mono ?_
    rintro _ w4 ⟨rfl, o4, h4, ho4, g4⟩
    have F4 := F3.trans g4 (by intro x hx h; simp at h; omega)
    clear h3 g4 hb3 F3
    go_wp2_with fail
    refine (outtext_any _ _ _ _ h4).mono ?_
    rintro _ _ ⟨rfl, rfl⟩
    go_wp2
    go_ret
    rw [HT.out]
    exact ⟨ret_str (by simp [propsB]), F4⟩
set_option maxRecDepth 100000 in
theorem pident_any (b : Nat) (r : Rd) (w : World) (h : InAt w b r) (hs : r.s.length ≤ 9223372036854775807) :
    Calls Try.prog 74 #[.pointer (some ⟨b, 0, none⟩)] w fun e w' => e = .returned (.int .u32 r.ident.1) ∧ InAt w' b r.ident.2 ∧ Fr [b] w w' := by
  have HI : Hid (r.ident = ((r.num 2).1, if (r.num 2).1 = 0 then (r.num 2).2.fail 3 else (r.num 2).2)) := Lib.hid rfl
  go_enter Try.func74, Try.ntmps74
  go_wp2_with fail
  refine (intwo_any b r w h hs).mono ?_
  rintro _ w1 ⟨rfl, h1, g1⟩
  generalize r.num 2 = q at *
  obtain ⟨n, q⟩ := q
  dsimp only at h1 HI ⊢
  go_wp2_with fail
  refine (err_any _ _ _ h1).mono ?_
  rintro _ _ ⟨rfl, rfl⟩
  by_cases he : q.e = 0
  · have e0 : (q.e == 0) = true := by simpa using he
    by_cases hn : n = 0
    · have n0 : ((n : Int) == 0) = true := by simp [hn]
      rw [if_pos hn] at HI
      clear he hn
      go_wp2_with fail
      refine (fail_any _ _ 3 _ h1).mono ?_
      rintro _ w2 ⟨rfl, h2, g2⟩
      go_wp2
      go_ret
      rw [HI.out]
      exact ⟨rfl, h2, g1.trans g2 (by simp)⟩
    · have n0 : ((n : Int) == 0) = false := by simp [hn]
      rw [if_neg hn] at HI
      clear he hn
      go_wp2
      go_ret
      rw [HI.out]
      exact ⟨rfl, h1, g1⟩
  · have e0 : (q.e == 0) = false := by simpa using he
    have HI2 : Hid (r.ident = (n, q)) := Lib.hid (by rw [HI.out, fail_bad q 3 he]; split <;> rfl)
    clear he HI
    go_wp2
    go_ret
    rw [HI2.out]
    exact ⟨rfl, h1, g1⟩
/-- Behind Parse: the publish, the error. -/
def PubTo (T : TypeId) (R : Pb × Int) (w : World) (e : Ending) (w' : World) : Prop :=
  ∃ v, e = .returned (.tuple #[.agg (pbC R.1 v).toArray, .int .i64 R.2]) ∧ w'.ownsRow w.heap.size T 4 v R.1.props.length (R.1.props.flatMap prE) ∧ Fr [] w w'
theorem flags16 : ∀ f : Fin 16, bits .and .i64 ((f.val : Int) / 2) 3 = ((f.val / 2 % 4 : Nat) : Int) ∧ decide (0 < bits .and .i64 (f.val : Int) 8) = decide (f.val / 8 % 2 = 1) ∧ decide (0 < bits .and .i64 (f.val : Int) 1) = decide (f.val % 2 = 1) := by decide +kernel
theorem pay_ok (r : Rd) (h : (pbEnd r).ends = 0) : (r.raw r.s.length).1 = r.s := by
  by_cases he : r.e = 0
  · rw [Rd.raw_ok r _ he (Nat.le_refl _), List.take_length]
  · exfalso
    rw [pbEnd, Rd.raw_bad r _ he, Rd.ends] at h
    split at h
    · exact absurd h (by decide)
    · exact he h
set_option maxRecDepth 100000 in
set_option maxHeartbeats 4000000 in
theorem pparse_any (f : Nat) (s : List UInt8) (w : World) (hf : f < 16) (hs : s.length ≤ 1000000) :
    Calls Try.prog 38 #[.int .i64 (f : Int), .string ⟨s.toArray⟩] w (PubTo 97 (pbParse f s) w) := by
  have hfl := flags16 ⟨f, hf⟩
  dsimp only at hfl
  obtain ⟨f1, f2, f3⟩ := hfl
  have HR : Hid (pbParse f s = if (pbEnd (takeP (pbId (f / 2 % 4) (Rd.str ⟨s, 0⟩).2).2 3 false).2).ends = 0 then (⟨decide (f / 8 % 2 = 1), decide (f % 2 = 1), f / 2 % 4, (pbId (f / 2 % 4) (Rd.str ⟨s, 0⟩).2).1, (takeP (pbId (f / 2 % 4) (Rd.str ⟨s, 0⟩).2).2 3 false).1, (Rd.str ⟨s, 0⟩).1, (takeP (pbId (f / 2 % 4) (Rd.str ⟨s, 0⟩).2).2 3 false).2.s⟩, 0) else (noPb, (pbEnd (takeP (pbId (f / 2 % 4) (Rd.str ⟨s, 0⟩).2).2 3 false).2).ends)) := Lib.hid rfl
  have hq4 : f / 2 % 4 < 4 := Nat.mod_lt _ (by decide)
  generalize f / 2 % 4 = q at *
  generalize decide (f / 8 % 2 = 1) = dup at *
  generalize decide (f % 2 = 1) = ret at *
  have F0 : Fr [] w (w.alloc (.cells (pbC noPb (.slice none 0 0)).toArray 26)) := (Fr.refl _ _).alloc _
  have hb0 := blk_new w (.cells (pbC noPb (.slice none 0 0)).toArray 26)
  unfold pbC noPb at F0 hb0
  dsimp only at F0 hb0
  rw [Int.natCast_zero] at F0 hb0
  go_enter Try.func38, Try.ntmps38
  go_wp2_with fail
  refine (over_any s _).mono ?_
  rintro _ w1 ⟨rfl, h1, g1⟩
  rw [World.size_alloc] at h1
  have z1 := g1.size
  rw [World.size_alloc] at z1
  have hbi := blk_lt h1
  have hP1 := blk_new w1 (.cells #[.bool dup, .bool ret, .int .u8 (q : Int), .int .u32 0, .slice none 0 0, .string ⟨#[]⟩, .string ⟨#[]⟩] 26)
  have hA1 := blk_old (g1.blk hb0 (by simp)) (.cells #[.bool dup, .bool ret, .int .u8 (q : Int), .int .u32 0, .slice none 0 0, .string ⟨#[]⟩, .string ⟨#[]⟩] 26)
  have F1 := (F0.trans g1 (by simp)).alloc (.cells #[.bool dup, .bool ret, .int .u8 (q : Int), .int .u32 0, .slice none 0 0, .string ⟨#[]⟩, .string ⟨#[]⟩] 26)
  clear F0 hb0 g1
  go_wp2_with fail
  refine (take_any (w.heap.size + 1) ⟨s, 0⟩ _ (h1.fr (S := []) (by repeat (first | exact Fr.refl _ _ | (with_reducible apply Fr.alloc) | (with_reducible apply Fr.drew) | (with_reducible apply Fr.drewN) | (with_reducible refine Fr.setCell ?_ (by simp) _))) (by simp)) (by show s.length ≤ _; omega)).mono ?_
  rintro _ w2 ⟨rfl, h2, g2⟩
  have hs2 : (Rd.str ⟨s, 0⟩).2.s.length ≤ s.length := Rd.str_left ⟨s, 0⟩
  generalize Rd.str ⟨s, 0⟩ = T at *
  obtain ⟨t, r1⟩ := T
  dsimp only at h2 hs2 HR ⊢
  have hP2 := blk_set (g2.blk hP1 (by simp; omega)) 5 (.string ⟨t.toArray⟩)
  have hA2 := blk_far (p := ⟨w1.heap.size, 5, none⟩) (g2.blk hA1 (by simp)) (by simp; omega) (.string ⟨t.toArray⟩)
  have F2 := (F1.trans g2 (by intro x hx h; simp at h; omega)).setCell (p := ⟨w1.heap.size, 5, none⟩) (Or.inl (by simp; omega)) (.string ⟨t.toArray⟩)
  have I2 := h2.fr (S := [w1.heap.size]) (w' := w2.setCell ⟨w1.heap.size, 5, none⟩ (.string ⟨t.toArray⟩)) (by repeat (first | exact Fr.refl _ _ | (with_reducible apply Fr.alloc) | (with_reducible apply Fr.drew) | (with_reducible apply Fr.drewN) | (with_reducible refine Fr.setCell ?_ (by simp) _))) (by simp; omega)
  obtain ⟨⟨e0, e1, e2, e3, e4, e5, e6⟩, ⟨k0, k1, k2, k3, k4, k5, k6⟩, _⟩ := blk7_facts (g2.blk hP1 (by simp; omega))
  have z2 := g2.size
  rw [World.size_alloc] at z2
  clear h1 hP1 hA1 F1 h2 g2
  by_cases hq0 : 0 < (q : Int)
  · go_wp2_with fail
    refine (pident_any (w.heap.size + 1) r1 _ I2 (by omega)).mono ?_
    rintro _ w3 ⟨rfl, h3, g3⟩
    have hs3 := ident_left r1
    rw [show pbId q r1 = r1.ident from if_pos (by omega)] at HR
    generalize r1.ident = R at *
    obtain ⟨id, r2⟩ := R
    dsimp only at h3 hs3 HR ⊢
    have HY := Lib.hid (blk_set (g3.blk hP2 (by simp; omega)) 3 (.int .u32 (id : Int)))
    have HA := Lib.hid (blk_far (p := ⟨w1.heap.size, 3, none⟩) (g3.blk hA2 (by simp)) (by simp; omega) (.int .u32 (id : Int)))
    have FY := Lib.hid ((F2.trans g3 (by intro x hx h; simp at h; omega)).setCell (p := ⟨w1.heap.size, 3, none⟩) (Or.inl (by simp; omega)) (.int .u32 (id : Int)))
    have IN := Lib.hid (h3.fr (S := [w1.heap.size]) (w' := w3.setCell ⟨w1.heap.size, 3, none⟩ (.int .u32 (id : Int))) (by repeat (first | exact Fr.refl _ _ | (with_reducible apply Fr.alloc) | (with_reducible apply Fr.drew) | (with_reducible apply Fr.drewN) | (with_reducible refine Fr.setCell ?_ (by simp) _))) (by simp; omega))
    have zy := g3.size
    rw [World.size_setCell] at zy
    clear e0 e1 e2 e3 e4 e5 e6 k0 k1 k2 k3 k4 k5 k6
    obtain ⟨⟨e0, e1, e2, e3, e4, e5, e6⟩, ⟨k0, k1, k2, k3, k4, k5, k6⟩, _⟩ := blk7_facts (g3.blk hP2 (by simp; omega))
    clear hP2 hA2 F2 I2 h3 g3
    go_upto_region 6 with (fail)
    obtain ⟨y, hy⟩ : ∃ y, w3.setCell ⟨w1.heap.size, 3, none⟩ (.int .u32 (id : Int)) = y := ⟨_, rfl⟩
    rw [hy] at HY HA FY IN ⊢
    have zy2 : w1.heap.size < y.heap.size := blk_lt HY.out
    clear e0 e1 e2 e3 e4 e5 e6 k0 k1 k2 k3 k4 k5 k6
    clear hy
    obtain ⟨⟨e0, e1, e2, e3, e4, e5, e6⟩, ⟨k0, k1, k2, k3, k4, k5, k6⟩, _⟩ := blk7_facts (HY.out)
    go_wp2_with fail
    refine (ptake_any (w.heap.size + 1) r2 3 false y IN.out (by omega)).mono ?_
    rintro _ w4 ⟨v, rfl, own4, _, h4, g4⟩
    have hs4 := takeP_left r2 3 false
    generalize takeP r2 3 false = R at *
    obtain ⟨l, r3⟩ := R
    dsimp only at own4 h4 hs4 HR
    obtain ⟨A4, c4, rfl⟩ := own_shape own4
    have hvv : ∃ v, v = Value.slice A4 l.length c4 := ⟨_, rfl⟩
    obtain ⟨v, hvv⟩ := hvv
    rw [← hvv] at own4
    have hP4 := g4.blk HY.out (by simp; omega)
    have hA4 := g4.blk HA.out (by simp)
    have F4 := FY.out.trans g4 (by intro x hx h; simp at h; omega)
    have z4 := g4.size
    have hlow := Lib.hid (fun k hk => (own4.lt k hk).1)
    clear HY IN HA FY g4
    clear e0 e1 e2 e3 e4 e5 e6 k0 k1 k2 k3 k4 k5 k6
    obtain ⟨⟨e0, e1, e2, e3, e4, e5, e6⟩, ⟨k0, k1, k2, k3, k4, k5, k6⟩, _⟩ := blk7_facts (hP4)
    have own4 := own_set own4 (p := ⟨w1.heap.size, 4, none⟩) (by intro e; have := hlow.out _ e.symm; simp at this; omega) v
    go_wp2_with fail
    rw [← hvv]
    refine (rest_any (w.heap.size + 1) r3 _ (h4.fr (S := [w1.heap.size]) (by repeat (first | exact Fr.refl _ _ | (with_reducible apply Fr.alloc) | (with_reducible apply Fr.drew) | (with_reducible apply Fr.drewN) | (with_reducible refine Fr.setCell ?_ (by simp) _))) (by simp; omega)) (by omega)).mono ?_
    rintro _ w5 ⟨rfl, h5, g5⟩
    have hP5 := g5.blk (blk_set hP4 4 v) (by simp; omega)
    have hA5 := g5.blk (blk_far (p := ⟨w1.heap.size, 4, none⟩) hA4 (by simp; omega) v) (by simp)
    have own5 := own_fr g5 own4 (by intro k hk h; have := hlow.out k hk; simp at h; omega)
    have F5 := (F4.setCell (p := ⟨w1.heap.size, 4, none⟩) (Or.inl (by simp; omega)) v).trans g5 (by intro x hx h; simp at h; omega)
    have own5 := own_set own5 (p := ⟨w1.heap.size, 6, none⟩) (by intro e; have := hlow.out _ e.symm; simp at this; omega) (.string ⟨(r3.raw r3.s.length).1.toArray⟩)
    have F6 := F5.setCell (p := ⟨w1.heap.size, 6, none⟩) (Or.inl (by simp; omega)) (.string ⟨(r3.raw r3.s.length).1.toArray⟩)
    have hA6 := blk_far (p := ⟨w1.heap.size, 6, none⟩) hA5 (by simp; omega) (.string ⟨(r3.raw r3.s.length).1.toArray⟩)
    clear hP4 hA4 F4 own4 h4 g5
    clear e0 e1 e2 e3 e4 e5 e6 k0 k1 k2 k3 k4 k5 k6
    obtain ⟨⟨e0, e1, e2, e3, e4, e5, e6⟩, ⟨k0, k1, k2, k3, k4, k5, k6⟩, _⟩ := blk7_facts (hP5)
    go_wp2_with fail
    refine (end_any (w.heap.size + 1) _ _ (h5.fr (S := [w1.heap.size]) (by repeat (first | exact Fr.refl _ _ | (with_reducible apply Fr.alloc) | (with_reducible apply Fr.drew) | (with_reducible apply Fr.drewN) | (with_reducible refine Fr.setCell ?_ (by simp) _))) (by simp; omega))).mono ?_
    rintro _ _ ⟨rfl, rfl⟩
    rw [show (r3.raw r3.s.length).2 = pbEnd r3 from rfl]
    have hpay := Lib.hid (pay_ok r3)
    clear h5 hP5
    subst hvv
    generalize (pbEnd r3).ends = E at *
    generalize (r3.raw r3.s.length).1 = S at *
    by_cases hE : E = 0
    · have E0 : (E != 0) = false := by simpa using hE
      rw [if_pos hE] at HR
      rw [← hpay.out hE] at HR
      clear hpay hE
      have HZ := Lib.hid (blk7_set hA6 (.bool dup) (.bool ret) (.int .u8 (q : Int)) (.int .u32 (id : Int)) (.slice A4 l.length c4) (.string ⟨t.toArray⟩) (.string ⟨S.toArray⟩))
      have FZ := Lib.hid (fr7_set F6 (b := w.heap.size) (Nat.le_refl _) (.bool dup) (.bool ret) (.int .u8 (q : Int)) (.int .u32 (id : Int)) (.slice A4 l.length c4) (.string ⟨t.toArray⟩) (.string ⟨S.toArray⟩))
      have OZ := Lib.hid (own_base (own_set7 own5 (b := w.heap.size) (by intro e; have := hlow.out _ e.symm; omega) (.bool dup) (.bool ret) (.int .u8 (q : Int)) (.int .u32 (id : Int)) (.slice A4 l.length c4) (.string ⟨t.toArray⟩) (.string ⟨S.toArray⟩)) (base' := w.heap.size) (fun k hk => by have := hlow.out k hk; omega))
      obtain ⟨d0, d1, d2, d3, d4, d5, d6⟩ := (blk7_facts hA6).1
      obtain ⟨g0, g1, g2, g3, g4, g5, g6⟩ := (blk7_facts hA6).2.1
      go_wp2
      change bodyPost _ _ _ _ _ (set7 (w5.setCell ⟨w1.heap.size, 6, none⟩ (.string ⟨S.toArray⟩)) w.heap.size (.bool dup) (.bool ret) (.int .u8 (q : Int)) (.int .u32 (id : Int)) (.slice A4 l.length c4) (.string ⟨t.toArray⟩) (.string ⟨S.toArray⟩))
      generalize set7 (w5.setCell ⟨w1.heap.size, 6, none⟩ (.string ⟨S.toArray⟩)) w.heap.size (.bool dup) (.bool ret) (.int .u8 (q : Int)) (.int .u32 (id : Int)) (.slice A4 l.length c4) (.string ⟨t.toArray⟩) (.string ⟨S.toArray⟩) = W5 at *
      clear d0 d1 d2 d3 d4 d5 d6 g0 g1 g2 g3 g4 g5 g6
      clear e0 e1 e2 e3 e4 e5 e6 k0 k1 k2 k3 k4 k5 k6
      obtain ⟨e0, e1, e2, e3, e4, e5, e6⟩ := (blk7_facts HZ.out).1
      refine bodyPost_ret (v := .tuple #[.agg #[.bool dup, .bool ret, .int .u8 (q : Int), .int .u32 (id : Int), .slice A4 l.length c4, .string ⟨t.toArray⟩, .string ⟨S.toArray⟩], .int .i64 0]) (by simp [results, Try.results38, go_sem, e0, e1, e2, e3, e4, e5, e6]) rfl ?_
      rw [HR.out]
      exact ⟨.slice A4 l.length c4, rfl, OZ.out, FZ.out⟩
    · have E0 : (E != 0) = true := by simpa using hE
      rw [if_neg hE] at HR
      clear hpay hE
      have HZ := Lib.hid (blk7_set hA6 (.bool false) (.bool false) (.int .u8 0) (.int .u32 0) (.slice none 0 0) (.string ⟨#[]⟩) (.string ⟨#[]⟩))
      have FZ := Lib.hid (fr7_set F6 (b := w.heap.size) (Nat.le_refl _) (.bool false) (.bool false) (.int .u8 0) (.int .u32 0) (.slice none 0 0) (.string ⟨#[]⟩) (.string ⟨#[]⟩))
      obtain ⟨d0, d1, d2, d3, d4, d5, d6⟩ := (blk7_facts hA6).1
      obtain ⟨g0, g1, g2, g3, g4, g5, g6⟩ := (blk7_facts hA6).2.1
      go_wp2
      change bodyPost _ _ _ _ _ (set7 (w5.setCell ⟨w1.heap.size, 6, none⟩ (.string ⟨S.toArray⟩)) w.heap.size (.bool false) (.bool false) (.int .u8 0) (.int .u32 0) (.slice none 0 0) (.string ⟨#[]⟩) (.string ⟨#[]⟩))
      generalize set7 (w5.setCell ⟨w1.heap.size, 6, none⟩ (.string ⟨S.toArray⟩)) w.heap.size (.bool false) (.bool false) (.int .u8 0) (.int .u32 0) (.slice none 0 0) (.string ⟨#[]⟩) (.string ⟨#[]⟩) = W5 at *
      clear d0 d1 d2 d3 d4 d5 d6 g0 g1 g2 g3 g4 g5 g6
      clear e0 e1 e2 e3 e4 e5 e6 k0 k1 k2 k3 k4 k5 k6
      obtain ⟨e0, e1, e2, e3, e4, e5, e6⟩ := (blk7_facts HZ.out).1
      refine bodyPost_ret (v := .tuple #[.agg #[.bool false, .bool false, .int .u8 0, .int .u32 0, .slice none 0 0, .string ⟨#[]⟩, .string ⟨#[]⟩], .int .i64 E]) (by simp [results, Try.results38, go_sem, e0, e1, e2, e3, e4, e5, e6]) rfl ?_
      rw [HR.out]
      exact ⟨.slice none 0 0, rfl, World.ownsRow_nil _ _ _ _, FZ.out⟩
  · rw [show pbId q r1 = (0, r1) from if_neg (by omega)] at HR
    dsimp only at HR
    have HY := Lib.hid hP2
    have HA := Lib.hid hA2
    have FY := Lib.hid F2
    have IN := Lib.hid I2
    have hs3 : r1.s.length ≤ r1.s.length := Nat.le_refl _
    clear hP2 hA2 F2 I2
    go_upto_region 6 with (fail)
    obtain ⟨y, hy⟩ : ∃ y, w2.setCell ⟨w1.heap.size, 5, none⟩ (.string ⟨t.toArray⟩) = y := ⟨_, rfl⟩
    rw [hy] at HY HA FY IN ⊢
    have zy2 : w1.heap.size < y.heap.size := blk_lt HY.out
    clear e0 e1 e2 e3 e4 e5 e6 k0 k1 k2 k3 k4 k5 k6
    clear hy
    obtain ⟨⟨e0, e1, e2, e3, e4, e5, e6⟩, ⟨k0, k1, k2, k3, k4, k5, k6⟩, _⟩ := blk7_facts (HY.out)
    go_wp2_with fail
    refine (ptake_any (w.heap.size + 1) r1 3 false y IN.out (by omega)).mono ?_
    rintro _ w4 ⟨v, rfl, own4, _, h4, g4⟩
    have hs4 := takeP_left r1 3 false
    generalize takeP r1 3 false = R at *
    obtain ⟨l, r3⟩ := R
    dsimp only at own4 h4 hs4 HR
    obtain ⟨A4, c4, rfl⟩ := own_shape own4
    have hvv : ∃ v, v = Value.slice A4 l.length c4 := ⟨_, rfl⟩
    obtain ⟨v, hvv⟩ := hvv
    rw [← hvv] at own4
    have hP4 := g4.blk HY.out (by simp; omega)
    have hA4 := g4.blk HA.out (by simp)
    have F4 := FY.out.trans g4 (by intro x hx h; simp at h; omega)
    have z4 := g4.size
    have hlow := Lib.hid (fun k hk => (own4.lt k hk).1)
    clear HY IN HA FY g4
    clear e0 e1 e2 e3 e4 e5 e6 k0 k1 k2 k3 k4 k5 k6
    obtain ⟨⟨e0, e1, e2, e3, e4, e5, e6⟩, ⟨k0, k1, k2, k3, k4, k5, k6⟩, _⟩ := blk7_facts (hP4)
    have own4 := own_set own4 (p := ⟨w1.heap.size, 4, none⟩) (by intro e; have := hlow.out _ e.symm; simp at this; omega) v
    go_wp2_with fail
    rw [← hvv]
    refine (rest_any (w.heap.size + 1) r3 _ (h4.fr (S := [w1.heap.size]) (by repeat (first | exact Fr.refl _ _ | (with_reducible apply Fr.alloc) | (with_reducible apply Fr.drew) | (with_reducible apply Fr.drewN) | (with_reducible refine Fr.setCell ?_ (by simp) _))) (by simp; omega)) (by omega)).mono ?_
    rintro _ w5 ⟨rfl, h5, g5⟩
    have hP5 := g5.blk (blk_set hP4 4 v) (by simp; omega)
    have hA5 := g5.blk (blk_far (p := ⟨w1.heap.size, 4, none⟩) hA4 (by simp; omega) v) (by simp)
    have own5 := own_fr g5 own4 (by intro k hk h; have := hlow.out k hk; simp at h; omega)
    have F5 := (F4.setCell (p := ⟨w1.heap.size, 4, none⟩) (Or.inl (by simp; omega)) v).trans g5 (by intro x hx h; simp at h; omega)
    have own5 := own_set own5 (p := ⟨w1.heap.size, 6, none⟩) (by intro e; have := hlow.out _ e.symm; simp at this; omega) (.string ⟨(r3.raw r3.s.length).1.toArray⟩)
    have F6 := F5.setCell (p := ⟨w1.heap.size, 6, none⟩) (Or.inl (by simp; omega)) (.string ⟨(r3.raw r3.s.length).1.toArray⟩)
    have hA6 := blk_far (p := ⟨w1.heap.size, 6, none⟩) hA5 (by simp; omega) (.string ⟨(r3.raw r3.s.length).1.toArray⟩)
    clear hP4 hA4 F4 own4 h4 g5
    clear e0 e1 e2 e3 e4 e5 e6 k0 k1 k2 k3 k4 k5 k6
    obtain ⟨⟨e0, e1, e2, e3, e4, e5, e6⟩, ⟨k0, k1, k2, k3, k4, k5, k6⟩, _⟩ := blk7_facts (hP5)
    go_wp2_with fail
    refine (end_any (w.heap.size + 1) _ _ (h5.fr (S := [w1.heap.size]) (by repeat (first | exact Fr.refl _ _ | (with_reducible apply Fr.alloc) | (with_reducible apply Fr.drew) | (with_reducible apply Fr.drewN) | (with_reducible refine Fr.setCell ?_ (by simp) _))) (by simp; omega))).mono ?_
    rintro _ _ ⟨rfl, rfl⟩
    rw [show (r3.raw r3.s.length).2 = pbEnd r3 from rfl]
    have hpay := Lib.hid (pay_ok r3)
    clear h5 hP5
    subst hvv
    generalize (pbEnd r3).ends = E at *
    generalize (r3.raw r3.s.length).1 = S at *
    by_cases hE : E = 0
    · have E0 : (E != 0) = false := by simpa using hE
      rw [if_pos hE] at HR
      rw [← hpay.out hE] at HR
      clear hpay hE
      have HZ := Lib.hid (blk7_set hA6 (.bool dup) (.bool ret) (.int .u8 (q : Int)) (.int .u32 (0 : Int)) (.slice A4 l.length c4) (.string ⟨t.toArray⟩) (.string ⟨S.toArray⟩))
      have FZ := Lib.hid (fr7_set F6 (b := w.heap.size) (Nat.le_refl _) (.bool dup) (.bool ret) (.int .u8 (q : Int)) (.int .u32 (0 : Int)) (.slice A4 l.length c4) (.string ⟨t.toArray⟩) (.string ⟨S.toArray⟩))
      have OZ := Lib.hid (own_base (own_set7 own5 (b := w.heap.size) (by intro e; have := hlow.out _ e.symm; omega) (.bool dup) (.bool ret) (.int .u8 (q : Int)) (.int .u32 (0 : Int)) (.slice A4 l.length c4) (.string ⟨t.toArray⟩) (.string ⟨S.toArray⟩)) (base' := w.heap.size) (fun k hk => by have := hlow.out k hk; omega))
      obtain ⟨d0, d1, d2, d3, d4, d5, d6⟩ := (blk7_facts hA6).1
      obtain ⟨g0, g1, g2, g3, g4, g5, g6⟩ := (blk7_facts hA6).2.1
      go_wp2
      change bodyPost _ _ _ _ _ (set7 (w5.setCell ⟨w1.heap.size, 6, none⟩ (.string ⟨S.toArray⟩)) w.heap.size (.bool dup) (.bool ret) (.int .u8 (q : Int)) (.int .u32 (0 : Int)) (.slice A4 l.length c4) (.string ⟨t.toArray⟩) (.string ⟨S.toArray⟩))
      generalize set7 (w5.setCell ⟨w1.heap.size, 6, none⟩ (.string ⟨S.toArray⟩)) w.heap.size (.bool dup) (.bool ret) (.int .u8 (q : Int)) (.int .u32 (0 : Int)) (.slice A4 l.length c4) (.string ⟨t.toArray⟩) (.string ⟨S.toArray⟩) = W5 at *
      clear d0 d1 d2 d3 d4 d5 d6 g0 g1 g2 g3 g4 g5 g6
      clear e0 e1 e2 e3 e4 e5 e6 k0 k1 k2 k3 k4 k5 k6
      obtain ⟨e0, e1, e2, e3, e4, e5, e6⟩ := (blk7_facts HZ.out).1
      refine bodyPost_ret (v := .tuple #[.agg #[.bool dup, .bool ret, .int .u8 (q : Int), .int .u32 (0 : Int), .slice A4 l.length c4, .string ⟨t.toArray⟩, .string ⟨S.toArray⟩], .int .i64 0]) (by simp [results, Try.results38, go_sem, e0, e1, e2, e3, e4, e5, e6]) rfl ?_
      rw [HR.out]
      exact ⟨.slice A4 l.length c4, rfl, OZ.out, FZ.out⟩
    · have E0 : (E != 0) = true := by simpa using hE
      rw [if_neg hE] at HR
      clear hpay hE
      have HZ := Lib.hid (blk7_set hA6 (.bool false) (.bool false) (.int .u8 0) (.int .u32 0) (.slice none 0 0) (.string ⟨#[]⟩) (.string ⟨#[]⟩))
      have FZ := Lib.hid (fr7_set F6 (b := w.heap.size) (Nat.le_refl _) (.bool false) (.bool false) (.int .u8 0) (.int .u32 0) (.slice none 0 0) (.string ⟨#[]⟩) (.string ⟨#[]⟩))
      obtain ⟨d0, d1, d2, d3, d4, d5, d6⟩ := (blk7_facts hA6).1
      obtain ⟨g0, g1, g2, g3, g4, g5, g6⟩ := (blk7_facts hA6).2.1
      go_wp2
      change bodyPost _ _ _ _ _ (set7 (w5.setCell ⟨w1.heap.size, 6, none⟩ (.string ⟨S.toArray⟩)) w.heap.size (.bool false) (.bool false) (.int .u8 0) (.int .u32 0) (.slice none 0 0) (.string ⟨#[]⟩) (.string ⟨#[]⟩))
      generalize set7 (w5.setCell ⟨w1.heap.size, 6, none⟩ (.string ⟨S.toArray⟩)) w.heap.size (.bool false) (.bool false) (.int .u8 0) (.int .u32 0) (.slice none 0 0) (.string ⟨#[]⟩) (.string ⟨#[]⟩) = W5 at *
      clear d0 d1 d2 d3 d4 d5 d6 g0 g1 g2 g3 g4 g5 g6
      clear e0 e1 e2 e3 e4 e5 e6 k0 k1 k2 k3 k4 k5 k6
      obtain ⟨e0, e1, e2, e3, e4, e5, e6⟩ := (blk7_facts HZ.out).1
      refine bodyPost_ret (v := .tuple #[.agg #[.bool false, .bool false, .int .u8 0, .int .u32 0, .slice none 0 0, .string ⟨#[]⟩, .string ⟨#[]⟩], .int .i64 E]) (by simp [results, Try.results38, go_sem, e0, e1, e2, e3, e4, e5, e6]) rfl ?_
      rw [HR.out]
      exact ⟨.slice none 0 0, rfl, World.ownsRow_nil _ _ _ _, FZ.out⟩
end Go.Proofs.Ytlhkgalmiajinaa
