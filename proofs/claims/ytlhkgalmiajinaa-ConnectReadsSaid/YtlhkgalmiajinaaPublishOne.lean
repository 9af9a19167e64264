/- The walk of the law PublishOne. -/
import Derived.Test.YtlhkgalmiajinaaPublishReads
import Derived.Test.YtlhkgalmiajinaaPlainP
namespace Go.Proofs.Ytlhkgalmiajinaa
open Go.RowKit

theorem data_len (r : Rd) : r.data.1.length ≤ r.s.length := Nat.le_trans (Rd.raw_le _ _) (Rd.raw_left _ 2)
theorem str_len (r : Rd) : r.str.1.length ≤ r.s.length := by
  unfold Rd.str
  split
  · exact data_len r
  · simp
theorem valR_ok (ru : Rule) (id : Int) (q : Rd) : (valR ru id q).1.n < 4294967296 ∧ (valR ru id q).1.s.length ≤ q.s.length ∧ (valR ru id q).1.t.length ≤ q.s.length := by
  have h1 := num_lt1 q
  have h2 := num_lt2 q
  have h4 := num_lt4 q
  have hv := var_lt32 q
  have hs := str_len q
  have hd := data_len q
  have h5 := Rd.str_left q
  have h6 := str_len q.str.2
  unfold valR
  split
  · exact ⟨by dsimp only; omega, by simp, by simp⟩
  split
  · exact ⟨by dsimp only; omega, by simp, by simp⟩
  split
  · exact ⟨by dsimp only; omega, by simp, by simp⟩
  split
  · exact ⟨by dsimp only; omega, by simp, by simp⟩
  split
  · exact ⟨by dsimp only; omega, hs, by simp⟩
  split
  · exact ⟨by dsimp only; omega, hd, by simp⟩
  · refine ⟨by dsimp only; omega, ?_, ?_⟩
    · unfold Rd.pair
      split
      · exact hs
      · simp
    · unfold Rd.pair
      split
      · exact Nat.le_trans h6 h5
      · simp
theorem propsGo_ok (kind : Int) (isWill : Bool) (B : Nat) : ∀ (m : Nat) (q : Rd) (l : List Pr), q.s.length ≤ B → (∀ x ∈ l, x.n < 4294967296 ∧ x.s.length ≤ B ∧ x.t.length ≤ B) → ∀ x ∈ (propsGo kind isWill m q l).1, x.n < 4294967296 ∧ x.s.length ≤ B ∧ x.t.length ≤ B
  | 0, q, l, _, h => h
  | m + 1, q, l, hq, h => by
    rw [propsGo]
    split
    · exact h
    split
    · exact h
    split
    · exact h
    split
    · exact h
    · have h1 := var_left q
      have h2 := valR_left (ruleOf q.var.1) q.var.1 q.var.2
      have h3 := valR_ok (ruleOf q.var.1) q.var.1 q.var.2
      refine propsGo_ok kind isWill B m _ _ (by omega) ?_
      intro x hx
      rcases List.mem_append.1 hx with hx | hx
      · exact h x hx
      · simp at hx
        subst hx
        omega
theorem takeP_ok (q : Rd) (kind : Int) (isWill : Bool) (hq : q.s.length ≤ 1000000) : ∀ x ∈ (takeP q kind isWill).1, x.n < 4294967296 ∧ x.s.length ≤ 9223372036854775807 ∧ x.t.length ≤ 9223372036854775807 := by
  have h1 := var_left q
  have h2 := Rd.raw_le q.var.2 q.var.1
  unfold takeP
  split
  · intro x hx; simp at hx
  · split
    · intro x hx
      have := propsGo_ok kind isWill 1000000 (q.var.2.raw q.var.1).1.length ⟨(q.var.2.raw q.var.1).1, 0⟩ [] (by show (q.var.2.raw q.var.1).1.length ≤ _; omega) (by intro y hy; simp at hy) x hx
      omega
    · intro x hx; simp at hx
theorem pbParse_ok (f : Nat) (s : List UInt8) (hs : s.length ≤ 1000000) : (pbParse f s).1.qos < 256 ∧ (pbParse f s).1.id < 4294967296 ∧ (pbParse f s).1.topic.length ≤ 1000000 ∧ (pbParse f s).1.pay.length ≤ 1000000 ∧ ∀ x ∈ (pbParse f s).1.props, x.n < 4294967296 ∧ x.s.length ≤ 9223372036854775807 ∧ x.t.length ≤ 9223372036854775807 := by
  unfold pbParse
  split
  · have h1 : (Rd.str ⟨s, 0⟩).2.s.length ≤ s.length := Rd.str_left ⟨s, 0⟩
    have h2 : (pbId (f / 2 % 4) (Rd.str ⟨s, 0⟩).2).2.s.length ≤ s.length := by
      unfold pbId
      split
      · exact Nat.le_trans (ident_left _) h1
      · exact h1
    refine ⟨by show f / 2 % 4 < 256; omega, ?_, ?_, ?_, ?_⟩
    · show (pbId _ _).1 < _
      unfold pbId
      split
      · have := (Rd.str ⟨s, 0⟩).2.num_lt 2
        show ((Rd.str ⟨s, 0⟩).2.num 2).1 < _
        omega
      · show (0 : Nat) < _; omega
    · show (Rd.str ⟨s, 0⟩).1.length ≤ _
      have := str_len ⟨s, 0⟩
      dsimp only at this
      omega
    · show (pbRest _ s).2.s.length ≤ _
      have := takeP_left (pbId (f / 2 % 4) (Rd.str ⟨s, 0⟩).2).2 3 false
      unfold pbRest
      omega
    · intro x hx
      exact takeP_ok _ 3 false (by omega) x hx
  · exact ⟨by simp [noPb], by simp [noPb], by simp [noPb], by simp [noPb], by intro x hx; simp [noPb] at hx⟩
set_option maxRecDepth 100000 in
set_option maxHeartbeats 4000000 in
theorem publishOne_walk (a0 : Int) (a1 : ByteArray) (w0 : (Lit.int .i64 a0).wf = true) (w1 : a1.size ≤ maxLen) (w : World) :
    Calls Try.prog 7 #[.int .i64 a0, .string a1] w fun e w' => e = .returned (.bool true) ∧ Fr [] w w' := by
  obtain ⟨s, rfl, hs⟩ := str_list a1
  rw [← hs] at w1
  unfold maxLen at w1
  have _ := w0
  clear hs w0
  have ha := and15 a0
  obtain ⟨m, hm⟩ := Int.eq_ofNat_of_zero_le (show 0 ≤ a0 % 16 by omega)
  have hm16 : m < 16 := by omega
  rw [hm] at ha
  clear hm
  go_enter Try.func7, Try.ntmps7
  go_wp2_with fail
  refine (cut_any s 200 w (by omega) (by decide)).mono ?_
  rintro _ _ ⟨rfl, rfl⟩
  have hk : (s.take 200).length ≤ 200 := List.length_take_le _ _
  rw [show (200 : Int).toNat = 200 from rfl]
  generalize s.take 200 = s at *
  go_wp2_with fail
  refine (awake7_any _).mono ?_
  rintro _ w1 ⟨rfl, g1⟩
  go_wp2_with fail
  refine (check_any 3 m _ (by omega) (by omega)).mono ?_
  rintro _ _ ⟨rfl, rfl⟩
  by_cases hc : chkE 3 m = 0
  rotate_left
  · have e0 : (chkE 3 (m : Int) != 0) = true := by simpa using hc
    clear hc
    go_wp2_with fail
    refine (awake7_any _).mono ?_
    rintro _ w2 ⟨rfl, g2⟩
    go_wp2
    go_ret
    exact ⟨rfl, g1.trans g2 (by simp)⟩
  rw [hc]
  clear hc
  go_wp2_with fail
  refine (pparse_any m s _ hm16 (by omega)).mono ?_
  have hPl := pbParse_len m s
  have hOk := pbParse_ok m s (by omega)
  have HOne := Lib.hid (pb_one m hm16 s)
  obtain ⟨⟨⟨dup, ret, q, id, l, t, y⟩, E⟩, hP⟩ : ∃ x, pbParse m s = x := ⟨_, rfl⟩
  rw [hP] at hPl hOk HOne ⊢
  clear hP
  rintro _ w2 ⟨v2, rfl, own2, g2⟩
  dsimp only at own2 hPl hOk HOne ⊢
  obtain ⟨hq, hid, ht, hy, hpr⟩ := hOk
  have HPr := Lib.hid hpr
  clear hpr
  obtain ⟨A2, c2, rfl⟩ := own_shape own2
  unfold pbC
  dsimp only
  have hb1 := blk_new w2 (.cells #[.bool dup, .bool ret, .int .u8 (q : Int), .int .u32 (id : Int), .slice A2 l.length c2, .string ⟨t.toArray⟩, .string ⟨y.toArray⟩] 26)
  have F2 := (g1.trans g2 (by simp)).alloc (.cells #[.bool dup, .bool ret, .int .u8 (q : Int), .int .u32 (id : Int), .slice A2 l.length c2, .string ⟨t.toArray⟩, .string ⟨y.toArray⟩] 26)
  have own2 := own2.alloc (.cells #[.bool dup, .bool ret, .int .u8 (q : Int), .int .u32 (id : Int), .slice A2 l.length c2, .string ⟨t.toArray⟩, .string ⟨y.toArray⟩] 26)
  clear g1 g2
  by_cases hE : E = 0
  rotate_left
  · have e0 : (E != 0) = true := by simpa using hE
    clear hE own2
    go_wp2
    go_ret
    exact ⟨rfl, F2⟩
  have e0 : (E != 0) = false := by simpa using hE
  obtain ⟨hf1, hf2⟩ := HOne.out hE
  clear hE
  go_wp2_with fail
  refine (pflags_any ⟨dup, ret, q, id, l, t, y⟩ (.slice A2 l.length c2) _ hq).mono ?_
  rintro _ w3 ⟨rfl, g3⟩
  rw [hf1]
  obtain ⟨⟨i0, i1, i2, i3, i4, i5, i6⟩, _, _⟩ := blk7_facts (g3.blk hb1 (by simp))
  go_wp2_with fail
  refine (ptext_any ⟨dup, ret, q, id, l, t, y⟩ (.slice A2 l.length c2) _ hq hid ((own_view own2).fr g3 (by simp)) (by show l.length ≤ 1000; omega) HPr.out (by show t.length ≤ _; omega) hy).mono ?_
  rintro _ w4 ⟨rfl, g4⟩
  rw [hf2]
  go_wp2
  go_ret
  exact ⟨rfl, (F2.trans g3 (by simp)).trans g4 (by simp)⟩
end Go.Proofs.Ytlhkgalmiajinaa
