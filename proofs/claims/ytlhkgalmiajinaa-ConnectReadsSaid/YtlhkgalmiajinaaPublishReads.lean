/- The walk of the law PublishReads. -/
import Derived.Test.YtlhkgalmiajinaaPubV
import Derived.Test.YtlhkgalmiajinaaFrame
import Derived.Test.YtlhkgalmiajinaaLaw
namespace Go.Proofs.Ytlhkgalmiajinaa
open Go.RowKit

theorem and15 (x : Int) : bits .and .i64 x 15 = x % 16 := by
  simp only [bits, BitVec.toNat_and, BitVec.toNat_ofInt]
  show IntKind.i64.wrap (((x % ((2 : Nat) ^ 64 : Nat)).toNat &&& ((15 : Int) % ((2 : Nat) ^ 64 : Nat)).toNat : Nat) : Int) = _
  rw [show ((15 : Int) % ((2 : Nat) ^ 64 : Nat)).toNat = 2 ^ 4 - 1 from by decide, Nat.and_two_pow_sub_one_eq_mod, IntKind.wrap_i64]
  omega
theorem and3 (x : Int) : bits .and .i64 x 3 = x % 4 := by
  simp only [bits, BitVec.toNat_and, BitVec.toNat_ofInt]
  show IntKind.i64.wrap (((x % ((2 : Nat) ^ 64 : Nat)).toNat &&& ((3 : Int) % ((2 : Nat) ^ 64 : Nat)).toNat : Nat) : Int) = _
  rw [show ((3 : Int) % ((2 : Nat) ^ 64 : Nat)).toNat = 2 ^ 2 - 1 from by decide, Nat.and_two_pow_sub_one_eq_mod, IntKind.wrap_i64]
  omega
theorem propsGo_len (kind : Int) (isWill : Bool) : ∀ (m : Nat) (q : Rd) (l : List Pr), (propsGo kind isWill m q l).1.length ≤ l.length + m
  | 0, q, l => Nat.le_refl _
  | m + 1, q, l => by
    rw [propsGo]
    split
    · dsimp only; omega
    split
    · dsimp only; omega
    split
    · dsimp only; omega
    split
    · dsimp only; omega
    · have := propsGo_len kind isWill m (valR (ruleOf q.var.1) q.var.1 q.var.2).2 (l ++ [(valR (ruleOf q.var.1) q.var.1 q.var.2).1])
      rw [List.length_append, List.length_singleton] at this
      omega
theorem takeP_len (q : Rd) (kind : Int) (isWill : Bool) : (takeP q kind isWill).1.length ≤ q.s.length := by
  have h1 := var_left q
  have h2 := Rd.raw_le q.var.2 q.var.1
  unfold takeP
  split
  · simp
  · split
    · have := propsGo_len kind isWill (q.var.2.raw q.var.1).1.length ⟨(q.var.2.raw q.var.1).1, 0⟩ []
      dsimp only at this ⊢
      rw [List.length_nil] at this
      omega
    · simp
theorem pbParse_len (f : Nat) (s : List UInt8) : (pbParse f s).1.props.length ≤ s.length := by
  unfold pbParse
  split
  · show (pbRest _ s).1.length ≤ _
    unfold pbRest
    refine Nat.le_trans (takeP_len _ _ _) ?_
    have h1 := Rd.str_left ⟨s, 0⟩
    unfold pbId
    split
    · exact Nat.le_trans (ident_left _) h1
    · exact h1
  · simp [noPb]
theorem akParse_len (k : Int) (s : List UInt8) : (akParse k s).1.props.length ≤ s.length := by
  unfold akParse
  split
  · simp [noAk]
  split
  · have h1 : (Rd.ident ⟨s, 0⟩).2.s.length ≤ s.length := ident_left ⟨s, 0⟩
    have h2 : (akCode (Rd.ident ⟨s, 0⟩).2).2.s.length ≤ s.length := by
      unfold akCode
      split
      · exact h1
      · exact Nat.le_trans (Rd.raw_left _ 1) h1
    have h3 : (akMay k (akCode (Rd.ident ⟨s, 0⟩).2)).s.length ≤ s.length := by
      unfold akMay Rd.fail
      split
      · exact h2
      · split <;> exact h2
    show (akProps k _).1.length ≤ _
    unfold akProps
    split
    · simp
    · exact Nat.le_trans (takeP_len _ _ _) h3
  · simp [noAk]
set_option maxRecDepth 100000 in
set_option maxHeartbeats 4000000 in
theorem publishReads_walk (a0 a1 : Int) (a2 : ByteArray) (w0 : (Lit.int .i64 a0).wf = true) (w1 : (Lit.int .i64 a1).wf = true) (w2 : a2.size ≤ maxLen) (w : World) :
    Calls Try.prog 12 #[.int .i64 a0, .int .i64 a1, .string a2] w fun e w' => e = .returned (.bool true) ∧ Fr [] w w' := by
  obtain ⟨s, rfl, hs⟩ := str_list a2
  rw [← hs] at w2
  unfold maxLen at w2
  have _ := w0
  have _ := w1
  clear hs w0 w1
  have ha := and15 a0
  obtain ⟨m, hm⟩ := Int.eq_ofNat_of_zero_le (show 0 ≤ a0 % 16 by omega)
  have hm16 : m < 16 := by omega
  rw [hm] at ha
  clear hm
  go_enter Try.func12, Try.ntmps12
  go_wp2_with fail
  refine (cut_any s 200 w (by omega) (by decide)).mono ?_
  rintro _ _ ⟨rfl, rfl⟩
  have hk : (s.take 200).length ≤ 200 := List.length_take_le _ _
  rw [show (200 : Int).toNat = 200 from rfl]
  generalize s.take 200 = s at *
  go_wp2_with fail
  refine (awake7_any _).mono ?_
  rintro _ w1 ⟨rfl, g1⟩
  go_wp2_with fail
  refine (check_any 3 m _ (by omega) (by omega)).mono ?_
  rintro _ _ ⟨rfl, rfl⟩
  by_cases hc : chkE 3 m = 0
  rotate_left
  · have e0 : (chkE 3 (m : Int) != 0) = true := by simpa using hc
    clear hc
    go_wp2_with fail
    refine (awake7_any _).mono ?_
    rintro _ w2 ⟨rfl, g2⟩
    go_wp2
    go_ret
    exact ⟨rfl, g1.trans g2 (by simp)⟩
  rw [hc]
  clear hc
  go_wp2_with fail
  refine (pparse_any m s _ hm16 (by omega)).mono ?_
  have hPl := pbParse_len m s
  obtain ⟨⟨⟨dup, ret, q, id, l, t, y⟩, E⟩, hP⟩ : ∃ x, pbParse m s = x := ⟨_, rfl⟩
  have HP := Lib.hid hP
  rw [hP] at hPl ⊢
  clear hP
  rintro _ w2 ⟨v2, rfl, own2, g2⟩
  dsimp only at own2 hPl ⊢
  obtain ⟨A2, c2, rfl⟩ := own_shape own2
  unfold pbC
  dsimp only
  have hb1 := blk_new w2 (.cells #[.bool dup, .bool ret, .int .u8 (q : Int), .int .u32 (id : Int), .slice A2 l.length c2, .string ⟨t.toArray⟩, .string ⟨y.toArray⟩] 26)
  have F2 := (g1.trans g2 (by simp)).alloc (.cells #[.bool dup, .bool ret, .int .u8 (q : Int), .int .u32 (id : Int), .slice A2 l.length c2, .string ⟨t.toArray⟩, .string ⟨y.toArray⟩] 26)
  have own2 := own2.alloc (.cells #[.bool dup, .bool ret, .int .u8 (q : Int), .int .u32 (id : Int), .slice A2 l.length c2, .string ⟨t.toArray⟩, .string ⟨y.toArray⟩] 26)
  clear g1 g2
  go_wp2_with fail
  refine (rpparse_any m s _ hm16 (by omega)).mono ?_
  rw [HP.out]
  rintro _ w3 ⟨v3, rfl, own3, g3⟩
  dsimp only at own3 ⊢
  unfold pbC
  dsimp only
  obtain ⟨A3, c3, rfl⟩ := own_shape own3
  have hb1 := blk_old (g3.blk hb1 (by simp)) (.cells #[.bool dup, .bool ret, .int .u8 (q : Int), .int .u32 (id : Int), .slice A3 l.length c3, .string ⟨t.toArray⟩, .string ⟨y.toArray⟩] 36)
  have hb2 := blk_new w3 (.cells #[.bool dup, .bool ret, .int .u8 (q : Int), .int .u32 (id : Int), .slice A3 l.length c3, .string ⟨t.toArray⟩, .string ⟨y.toArray⟩] 36)
  have g3 := g3.alloc (.cells #[.bool dup, .bool ret, .int .u8 (q : Int), .int .u32 (id : Int), .slice A3 l.length c3, .string ⟨t.toArray⟩, .string ⟨y.toArray⟩] 36)
  have own3 := own3.alloc (.cells #[.bool dup, .bool ret, .int .u8 (q : Int), .int .u32 (id : Int), .slice A3 l.length c3, .string ⟨t.toArray⟩, .string ⟨y.toArray⟩] 36)
  have own2 := own_fr g3 own2 (by simp)
  have F3 := F2.trans g3 (by simp)
  clear F2 g3
  go_wp2_with fail
  refine (packparse_any a1 s _ (by omega)).mono ?_
  have hKl := akParse_len a1 s
  obtain ⟨⟨⟨k, n, c, j⟩, E2⟩, hK⟩ : ∃ x, akParse a1 s = x := ⟨_, rfl⟩
  have HK := Lib.hid hK
  rw [hK] at hKl ⊢
  clear hK
  rintro _ w4 ⟨v4, rfl, own4, g4⟩
  dsimp only at own4 hKl ⊢
  obtain ⟨A4, c4, rfl⟩ := own_shape own4
  unfold akC
  dsimp only
  have hb1 := blk_old (g4.blk hb1 (by simp)) (.cells #[.int .i64 k, .int .u32 (n : Int), .int .u8 (c : Int), .slice A4 j.length c4] 28)
  have hb2 := blk_old (g4.blk hb2 (by simp)) (.cells #[.int .i64 k, .int .u32 (n : Int), .int .u8 (c : Int), .slice A4 j.length c4] 28)
  have hb3 := blk_new w4 (.cells #[.int .i64 k, .int .u32 (n : Int), .int .u8 (c : Int), .slice A4 j.length c4] 28)
  have g4 := g4.alloc (.cells #[.int .i64 k, .int .u32 (n : Int), .int .u8 (c : Int), .slice A4 j.length c4] 28)
  have own4 := own4.alloc (.cells #[.int .i64 k, .int .u32 (n : Int), .int .u8 (c : Int), .slice A4 j.length c4] 28)
  have own2 := own_fr g4 own2 (by simp)
  have own3 := own_fr g4 own3 (by simp)
  have F4 := F3.trans g4 (by simp)
  clear F3 g4
  go_wp2_with fail
  refine (rpackparse_any a1 s _ (by omega)).mono ?_
  rw [HK.out]
  rintro _ w5 ⟨v5, rfl, own5, g5⟩
  dsimp only at own5 ⊢
  unfold akC
  dsimp only
  obtain ⟨A5, c5, rfl⟩ := own_shape own5
  have hb1 := blk_old (g5.blk hb1 (by simp)) (.cells #[.int .i64 k, .int .u32 (n : Int), .int .u8 (c : Int), .slice A5 j.length c5] 42)
  have hb2 := blk_old (g5.blk hb2 (by simp)) (.cells #[.int .i64 k, .int .u32 (n : Int), .int .u8 (c : Int), .slice A5 j.length c5] 42)
  have hb3 := blk_old (g5.blk hb3 (by simp)) (.cells #[.int .i64 k, .int .u32 (n : Int), .int .u8 (c : Int), .slice A5 j.length c5] 42)
  have hb4 := blk_new w5 (.cells #[.int .i64 k, .int .u32 (n : Int), .int .u8 (c : Int), .slice A5 j.length c5] 42)
  have g5 := g5.alloc (.cells #[.int .i64 k, .int .u32 (n : Int), .int .u8 (c : Int), .slice A5 j.length c5] 42)
  have own5 := own5.alloc (.cells #[.int .i64 k, .int .u32 (n : Int), .int .u8 (c : Int), .slice A5 j.length c5] 42)
  have own2 := own_fr g5 own2 (by simp)
  have own3 := own_fr g5 own3 (by simp)
  have own4 := own_fr g5 own4 (by simp)
  have F5 := Lib.hid (F4.trans g5 (by simp))
  clear F4 g5
  have HVP := Lib.hid (own_view own2)
  have HVQ := Lib.hid (own_view own3)
  have HVA := Lib.hid (own_view own4)
  have HVB := Lib.hid (own_view own5)
  clear own2 own3 own4 own5
  go_upto_region 9 with (fail)
  obtain ⟨z, hz⟩ : ∃ z, w5.alloc (.cells #[.int .i64 k, .int .u32 (n : Int), .int .u8 (c : Int), .slice A5 j.length c5] 42) = z := ⟨_, rfl⟩
  rw [hz] at hb1 hb2 hb3 hb4 F5 HVP HVQ HVA HVB ⊢
  clear hz
  have k0 : (fun w' => (w'.cell? ⟨w2.heap.size, 0, none⟩ = some (.bool dup) ∧ w'.cell? ⟨w2.heap.size, 1, none⟩ = some (.bool ret) ∧ w'.cell? ⟨w2.heap.size, 2, none⟩ = some (.int .u8 (q : Int)) ∧ w'.cell? ⟨w2.heap.size, 3, none⟩ = some (.int .u32 (id : Int)) ∧ w'.cell? ⟨w2.heap.size, 4, none⟩ = some (.slice A2 l.length c2) ∧ w'.cell? ⟨w2.heap.size, 5, none⟩ = some (.string ⟨t.toArray⟩) ∧ w'.cell? ⟨w2.heap.size, 6, none⟩ = some (.string ⟨y.toArray⟩)) ∧ (w'.cell? ⟨w3.heap.size, 0, none⟩ = some (.bool dup) ∧ w'.cell? ⟨w3.heap.size, 1, none⟩ = some (.bool ret) ∧ w'.cell? ⟨w3.heap.size, 2, none⟩ = some (.int .u8 (q : Int)) ∧ w'.cell? ⟨w3.heap.size, 3, none⟩ = some (.int .u32 (id : Int)) ∧ w'.cell? ⟨w3.heap.size, 4, none⟩ = some (.slice A3 l.length c3) ∧ w'.cell? ⟨w3.heap.size, 5, none⟩ = some (.string ⟨t.toArray⟩) ∧ w'.cell? ⟨w3.heap.size, 6, none⟩ = some (.string ⟨y.toArray⟩)) ∧ (w'.cell? ⟨w4.heap.size, 0, none⟩ = some (.int .i64 k) ∧ w'.cell? ⟨w4.heap.size, 1, none⟩ = some (.int .u32 (n : Int)) ∧ w'.cell? ⟨w4.heap.size, 2, none⟩ = some (.int .u8 (c : Int)) ∧ w'.cell? ⟨w4.heap.size, 3, none⟩ = some (.slice A4 j.length c4)) ∧ (w'.cell? ⟨w5.heap.size, 0, none⟩ = some (.int .i64 k) ∧ w'.cell? ⟨w5.heap.size, 1, none⟩ = some (.int .u32 (n : Int)) ∧ w'.cell? ⟨w5.heap.size, 2, none⟩ = some (.int .u8 (c : Int)) ∧ w'.cell? ⟨w5.heap.size, 3, none⟩ = some (.slice A5 j.length c5))) z := ⟨(blk7_facts hb1).1, (blk7_facts hb2).1, (blk4_facts hb3).1, (blk4_facts hb4).1⟩
  obtain ⟨⟨e0, e1, e2, e3, e4, e5, e6⟩, ⟨d0, d1, d2, d3, d4, d5, d6⟩, ⟨i0, i1, i2, i3⟩, ⟨j0, j1, j2, j3⟩⟩ := k0
  have HB1 := Lib.hid hb1
  have HB2 := Lib.hid hb2
  have HB3 := Lib.hid hb3
  have HB4 := Lib.hid hb4
  clear hb1 hb2 hb3 hb4
  go_region_held3 (fun w' => (w'.cell? ⟨w2.heap.size, 0, none⟩ = some (.bool dup) ∧ w'.cell? ⟨w2.heap.size, 1, none⟩ = some (.bool ret) ∧ w'.cell? ⟨w2.heap.size, 2, none⟩ = some (.int .u8 (q : Int)) ∧ w'.cell? ⟨w2.heap.size, 3, none⟩ = some (.int .u32 (id : Int)) ∧ w'.cell? ⟨w2.heap.size, 4, none⟩ = some (.slice A2 l.length c2) ∧ w'.cell? ⟨w2.heap.size, 5, none⟩ = some (.string ⟨t.toArray⟩) ∧ w'.cell? ⟨w2.heap.size, 6, none⟩ = some (.string ⟨y.toArray⟩)) ∧ (w'.cell? ⟨w3.heap.size, 0, none⟩ = some (.bool dup) ∧ w'.cell? ⟨w3.heap.size, 1, none⟩ = some (.bool ret) ∧ w'.cell? ⟨w3.heap.size, 2, none⟩ = some (.int .u8 (q : Int)) ∧ w'.cell? ⟨w3.heap.size, 3, none⟩ = some (.int .u32 (id : Int)) ∧ w'.cell? ⟨w3.heap.size, 4, none⟩ = some (.slice A3 l.length c3) ∧ w'.cell? ⟨w3.heap.size, 5, none⟩ = some (.string ⟨t.toArray⟩) ∧ w'.cell? ⟨w3.heap.size, 6, none⟩ = some (.string ⟨y.toArray⟩)) ∧ (w'.cell? ⟨w4.heap.size, 0, none⟩ = some (.int .i64 k) ∧ w'.cell? ⟨w4.heap.size, 1, none⟩ = some (.int .u32 (n : Int)) ∧ w'.cell? ⟨w4.heap.size, 2, none⟩ = some (.int .u8 (c : Int)) ∧ w'.cell? ⟨w4.heap.size, 3, none⟩ = some (.slice A4 j.length c4)) ∧ (w'.cell? ⟨w5.heap.size, 0, none⟩ = some (.int .i64 k) ∧ w'.cell? ⟨w5.heap.size, 1, none⟩ = some (.int .u32 (n : Int)) ∧ w'.cell? ⟨w5.heap.size, 2, none⟩ = some (.int .u8 (c : Int)) ∧ w'.cell? ⟨w5.heap.size, 3, none⟩ = some (.slice A5 j.length c5))) (first | go_keep | exact kk) (first | (go_at_call 19; refine (told7_any ⟨dup, ret, q, id, l, t, y⟩ (.slice A2 l.length c2) _ (HVP.out.fr (S := []) ((Fr.refl [] z).drew) (by simp)) (by show l.length ≤ 1000000; omega)).mono ?_; rintro _ x1 ⟨v6, rfl, o6, f1⟩; have G1 := Lib.hid (((Fr.refl [] z).drew).trans f1 (by simp)); have kk : (fun w' => (w'.cell? ⟨w2.heap.size, 0, none⟩ = some (.bool dup) ∧ w'.cell? ⟨w2.heap.size, 1, none⟩ = some (.bool ret) ∧ w'.cell? ⟨w2.heap.size, 2, none⟩ = some (.int .u8 (q : Int)) ∧ w'.cell? ⟨w2.heap.size, 3, none⟩ = some (.int .u32 (id : Int)) ∧ w'.cell? ⟨w2.heap.size, 4, none⟩ = some (.slice A2 l.length c2) ∧ w'.cell? ⟨w2.heap.size, 5, none⟩ = some (.string ⟨t.toArray⟩) ∧ w'.cell? ⟨w2.heap.size, 6, none⟩ = some (.string ⟨y.toArray⟩)) ∧ (w'.cell? ⟨w3.heap.size, 0, none⟩ = some (.bool dup) ∧ w'.cell? ⟨w3.heap.size, 1, none⟩ = some (.bool ret) ∧ w'.cell? ⟨w3.heap.size, 2, none⟩ = some (.int .u8 (q : Int)) ∧ w'.cell? ⟨w3.heap.size, 3, none⟩ = some (.int .u32 (id : Int)) ∧ w'.cell? ⟨w3.heap.size, 4, none⟩ = some (.slice A3 l.length c3) ∧ w'.cell? ⟨w3.heap.size, 5, none⟩ = some (.string ⟨t.toArray⟩) ∧ w'.cell? ⟨w3.heap.size, 6, none⟩ = some (.string ⟨y.toArray⟩)) ∧ (w'.cell? ⟨w4.heap.size, 0, none⟩ = some (.int .i64 k) ∧ w'.cell? ⟨w4.heap.size, 1, none⟩ = some (.int .u32 (n : Int)) ∧ w'.cell? ⟨w4.heap.size, 2, none⟩ = some (.int .u8 (c : Int)) ∧ w'.cell? ⟨w4.heap.size, 3, none⟩ = some (.slice A4 j.length c4)) ∧ (w'.cell? ⟨w5.heap.size, 0, none⟩ = some (.int .i64 k) ∧ w'.cell? ⟨w5.heap.size, 1, none⟩ = some (.int .u32 (n : Int)) ∧ w'.cell? ⟨w5.heap.size, 2, none⟩ = some (.int .u8 (c : Int)) ∧ w'.cell? ⟨w5.heap.size, 3, none⟩ = some (.slice A5 j.length c5))) x1 := ⟨(blk7_facts (G1.out.blk HB1.out (by simp))).1, (blk7_facts (G1.out.blk HB2.out (by simp))).1, (blk4_facts (G1.out.blk HB3.out (by simp))).1, (blk4_facts (G1.out.blk HB4.out (by simp))).1⟩) | (go_at_call 48; refine (same7_any ⟨dup, ret, q, id, l, t, y⟩ v6 (.slice A3 l.length c3) _ (own_view o6) (HVQ.out.fr (S := []) G1.out (by simp)) (by show l.length ≤ 1000000; omega)).mono ?_; rintro _ x2 ⟨rfl, f2⟩; have G2 := Lib.hid (G1.out.trans f2 (by simp)); have kk : (fun w' => (w'.cell? ⟨w2.heap.size, 0, none⟩ = some (.bool dup) ∧ w'.cell? ⟨w2.heap.size, 1, none⟩ = some (.bool ret) ∧ w'.cell? ⟨w2.heap.size, 2, none⟩ = some (.int .u8 (q : Int)) ∧ w'.cell? ⟨w2.heap.size, 3, none⟩ = some (.int .u32 (id : Int)) ∧ w'.cell? ⟨w2.heap.size, 4, none⟩ = some (.slice A2 l.length c2) ∧ w'.cell? ⟨w2.heap.size, 5, none⟩ = some (.string ⟨t.toArray⟩) ∧ w'.cell? ⟨w2.heap.size, 6, none⟩ = some (.string ⟨y.toArray⟩)) ∧ (w'.cell? ⟨w3.heap.size, 0, none⟩ = some (.bool dup) ∧ w'.cell? ⟨w3.heap.size, 1, none⟩ = some (.bool ret) ∧ w'.cell? ⟨w3.heap.size, 2, none⟩ = some (.int .u8 (q : Int)) ∧ w'.cell? ⟨w3.heap.size, 3, none⟩ = some (.int .u32 (id : Int)) ∧ w'.cell? ⟨w3.heap.size, 4, none⟩ = some (.slice A3 l.length c3) ∧ w'.cell? ⟨w3.heap.size, 5, none⟩ = some (.string ⟨t.toArray⟩) ∧ w'.cell? ⟨w3.heap.size, 6, none⟩ = some (.string ⟨y.toArray⟩)) ∧ (w'.cell? ⟨w4.heap.size, 0, none⟩ = some (.int .i64 k) ∧ w'.cell? ⟨w4.heap.size, 1, none⟩ = some (.int .u32 (n : Int)) ∧ w'.cell? ⟨w4.heap.size, 2, none⟩ = some (.int .u8 (c : Int)) ∧ w'.cell? ⟨w4.heap.size, 3, none⟩ = some (.slice A4 j.length c4)) ∧ (w'.cell? ⟨w5.heap.size, 0, none⟩ = some (.int .i64 k) ∧ w'.cell? ⟨w5.heap.size, 1, none⟩ = some (.int .u32 (n : Int)) ∧ w'.cell? ⟨w5.heap.size, 2, none⟩ = some (.int .u8 (c : Int)) ∧ w'.cell? ⟨w5.heap.size, 3, none⟩ = some (.slice A5 j.length c5))) x2 := ⟨(blk7_facts (G2.out.blk HB1.out (by simp))).1, (blk7_facts (G2.out.blk HB2.out (by simp))).1, (blk4_facts (G2.out.blk HB3.out (by simp))).1, (blk4_facts (G2.out.blk HB4.out (by simp))).1⟩) | (go_at_call 24; refine (acks7_any ⟨k, n, c, j⟩ (.slice A4 j.length c4) _ (HVA.out.fr (S := []) G2.out (by simp)) (by show j.length ≤ 1000000; omega)).mono ?_; rintro _ x3 ⟨v7, rfl, o7, f3⟩; have G3 := Lib.hid (G2.out.trans f3 (by simp)); have kk : (fun w' => (w'.cell? ⟨w2.heap.size, 0, none⟩ = some (.bool dup) ∧ w'.cell? ⟨w2.heap.size, 1, none⟩ = some (.bool ret) ∧ w'.cell? ⟨w2.heap.size, 2, none⟩ = some (.int .u8 (q : Int)) ∧ w'.cell? ⟨w2.heap.size, 3, none⟩ = some (.int .u32 (id : Int)) ∧ w'.cell? ⟨w2.heap.size, 4, none⟩ = some (.slice A2 l.length c2) ∧ w'.cell? ⟨w2.heap.size, 5, none⟩ = some (.string ⟨t.toArray⟩) ∧ w'.cell? ⟨w2.heap.size, 6, none⟩ = some (.string ⟨y.toArray⟩)) ∧ (w'.cell? ⟨w3.heap.size, 0, none⟩ = some (.bool dup) ∧ w'.cell? ⟨w3.heap.size, 1, none⟩ = some (.bool ret) ∧ w'.cell? ⟨w3.heap.size, 2, none⟩ = some (.int .u8 (q : Int)) ∧ w'.cell? ⟨w3.heap.size, 3, none⟩ = some (.int .u32 (id : Int)) ∧ w'.cell? ⟨w3.heap.size, 4, none⟩ = some (.slice A3 l.length c3) ∧ w'.cell? ⟨w3.heap.size, 5, none⟩ = some (.string ⟨t.toArray⟩) ∧ w'.cell? ⟨w3.heap.size, 6, none⟩ = some (.string ⟨y.toArray⟩)) ∧ (w'.cell? ⟨w4.heap.size, 0, none⟩ = some (.int .i64 k) ∧ w'.cell? ⟨w4.heap.size, 1, none⟩ = some (.int .u32 (n : Int)) ∧ w'.cell? ⟨w4.heap.size, 2, none⟩ = some (.int .u8 (c : Int)) ∧ w'.cell? ⟨w4.heap.size, 3, none⟩ = some (.slice A4 j.length c4)) ∧ (w'.cell? ⟨w5.heap.size, 0, none⟩ = some (.int .i64 k) ∧ w'.cell? ⟨w5.heap.size, 1, none⟩ = some (.int .u32 (n : Int)) ∧ w'.cell? ⟨w5.heap.size, 2, none⟩ = some (.int .u8 (c : Int)) ∧ w'.cell? ⟨w5.heap.size, 3, none⟩ = some (.slice A5 j.length c5))) x3 := ⟨(blk7_facts (G3.out.blk HB1.out (by simp))).1, (blk7_facts (G3.out.blk HB2.out (by simp))).1, (blk4_facts (G3.out.blk HB3.out (by simp))).1, (blk4_facts (G3.out.blk HB4.out (by simp))).1⟩) | (go_at_call 40; refine (sameack7_any ⟨k, n, c, j⟩ v7 (.slice A5 j.length c5) _ (own_view o7) (HVB.out.fr (S := []) G3.out (by simp)) (by show j.length ≤ 1000000; omega)).mono ?_; rintro _ x4 ⟨rfl, f4⟩; have G4 := Lib.hid (G3.out.trans f4 (by simp)); have kk : (fun w' => (w'.cell? ⟨w2.heap.size, 0, none⟩ = some (.bool dup) ∧ w'.cell? ⟨w2.heap.size, 1, none⟩ = some (.bool ret) ∧ w'.cell? ⟨w2.heap.size, 2, none⟩ = some (.int .u8 (q : Int)) ∧ w'.cell? ⟨w2.heap.size, 3, none⟩ = some (.int .u32 (id : Int)) ∧ w'.cell? ⟨w2.heap.size, 4, none⟩ = some (.slice A2 l.length c2) ∧ w'.cell? ⟨w2.heap.size, 5, none⟩ = some (.string ⟨t.toArray⟩) ∧ w'.cell? ⟨w2.heap.size, 6, none⟩ = some (.string ⟨y.toArray⟩)) ∧ (w'.cell? ⟨w3.heap.size, 0, none⟩ = some (.bool dup) ∧ w'.cell? ⟨w3.heap.size, 1, none⟩ = some (.bool ret) ∧ w'.cell? ⟨w3.heap.size, 2, none⟩ = some (.int .u8 (q : Int)) ∧ w'.cell? ⟨w3.heap.size, 3, none⟩ = some (.int .u32 (id : Int)) ∧ w'.cell? ⟨w3.heap.size, 4, none⟩ = some (.slice A3 l.length c3) ∧ w'.cell? ⟨w3.heap.size, 5, none⟩ = some (.string ⟨t.toArray⟩) ∧ w'.cell? ⟨w3.heap.size, 6, none⟩ = some (.string ⟨y.toArray⟩)) ∧ (w'.cell? ⟨w4.heap.size, 0, none⟩ = some (.int .i64 k) ∧ w'.cell? ⟨w4.heap.size, 1, none⟩ = some (.int .u32 (n : Int)) ∧ w'.cell? ⟨w4.heap.size, 2, none⟩ = some (.int .u8 (c : Int)) ∧ w'.cell? ⟨w4.heap.size, 3, none⟩ = some (.slice A4 j.length c4)) ∧ (w'.cell? ⟨w5.heap.size, 0, none⟩ = some (.int .i64 k) ∧ w'.cell? ⟨w5.heap.size, 1, none⟩ = some (.int .u32 (n : Int)) ∧ w'.cell? ⟨w5.heap.size, 2, none⟩ = some (.int .u8 (c : Int)) ∧ w'.cell? ⟨w5.heap.size, 3, none⟩ = some (.slice A5 j.length c5))) x4 := ⟨(blk7_facts (G4.out.blk HB1.out (by simp))).1, (blk7_facts (G4.out.blk HB2.out (by simp))).1, (blk4_facts (G4.out.blk HB3.out (by simp))).1, (blk4_facts (G4.out.blk HB4.out (by simp))).1⟩))
  go_wp2
  go_ret
  exact ⟨rfl, F5.out.trans G4.out (by simp)⟩
end Go.Proofs.Ytlhkgalmiajinaa
