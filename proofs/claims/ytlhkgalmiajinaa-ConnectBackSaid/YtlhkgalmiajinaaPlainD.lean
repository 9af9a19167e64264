/- What is read as a connect, a connack keeps its bounds; a connack that is read is written as it was: plain laws. No condition. -/
import Derived.Test.YtlhkgalmiajinaaPlainC
namespace Go.Proofs.Ytlhkgalmiajinaa
open Go.RowKit
set_option linter.unusedVariables false
set_option linter.unusedSimpArgs false

theorem willP_len (h : Bool) (r : Rd) : (willP h r).1.length ≤ r.s.length := by
  unfold willP; split
  · exact takeP_len r 1 true
  · simp
theorem willP_ok (h : Bool) (r : Rd) (hr : r.s.length ≤ 1000000) : ∀ x ∈ (willP h r).1, x.n < 4294967296 ∧ x.s.length ≤ 9223372036854775807 ∧ x.t.length ≤ 9223372036854775807 := by
  unfold willP; split
  · exact takeP_ok r 1 true hr
  · intro x hx; simp at hx
theorem willT_len (h : Bool) (r : Rd) : (willT h r).1.length ≤ r.s.length := by
  unfold willT; split
  · exact str_len r
  · simp
theorem dataT_len (h : Bool) (r : Rd) : (dataT h r).1.length ≤ r.s.length := by
  unfold dataT; split
  · exact data_len r
  · simp
theorem cnFail_s (f : Nat) (r : Rd) : (cnFail f r).s = r.s := by
  unfold cnFail; split
  · unfold Rd.fail; split <;> rfl
  · rfl
structure CnB (c : Cn) : Prop where
  k : c.keep < 4294967296
  q : c.qos < 256
  vl : c.props.length ≤ 1000
  ul : c.wp.length ≤ 1000
  vo : ∀ x ∈ c.props, x.n < 4294967296 ∧ x.s.length ≤ 9223372036854775807 ∧ x.t.length ≤ 9223372036854775807
  uo : ∀ x ∈ c.wp, x.n < 4294967296 ∧ x.s.length ≤ 9223372036854775807 ∧ x.t.length ≤ 9223372036854775807
  id : c.id.length ≤ 9223372036854775807
  topic : c.topic.length ≤ 9223372036854775807
  pay : c.pay.length ≤ 9223372036854775807
  user : c.user.length ≤ 9223372036854775807
  pass : c.pass.length ≤ 9223372036854775807
theorem CnB.ok {c : Cn} (h : CnB c) {w : World} {v u : Value} (hv : View w v c.props.length (c.props.flatMap prE)) (hu : View w u c.wp.length (c.wp.flatMap prE)) : CnOk w c v u :=
  ⟨h.k, h.q, hv, hu, h.vl, h.ul, h.vo, h.uo, h.id, h.topic, h.pay, h.user, h.pass⟩
theorem noCn_b : CnB noCn := ⟨by decide, by decide, by decide, by decide, by intro x hx; simp [noCn] at hx, by intro x hx; simp [noCn] at hx, by decide, by decide, by decide, by decide, by decide⟩
theorem cnFrom_b (r : Rd) (hr : r.s.length ≤ 1000) : CnB (cnFrom r).1 := by
  unfold cnFrom
  dsimp only
  split
  case isFalse => exact noCn_b
  unfold cnTail
  dsimp only
  have n1 := num_left' r 1
  have hf := num_lt1 r
  have n2 : (cnFail (r.num 1).1 (r.num 1).2).s.length ≤ (r.num 1).2.s.length := by rw [cnFail_s]; exact Nat.le_refl _
  generalize cnFail (r.num 1).1 (r.num 1).2 = ra at *
  generalize (r.num 1).1 = f at *
  have n3 := num_left' ra 2
  have hk := num_lt2 ra
  have n4 := takeP_left (ra.num 2).2 1 false
  have p1 := takeP_len (ra.num 2).2 1 false
  have p2 := takeP_ok (ra.num 2).2 1 false (by omega)
  generalize (ra.num 2).2 = rb at *
  generalize takeP rb 1 false = P at *
  have n5 := Rd.str_left P.2
  have i1 := str_len P.2
  generalize P.2.str = I at *
  generalize decide (f / 4 % 2 = 1) = hw at *
  have n6 := willP_left hw I.2
  have u1 := willP_len hw I.2
  have u2 := willP_ok hw I.2 (by omega)
  generalize willP hw I.2 = U at *
  have n7 := willT_left hw U.2
  have t1 := willT_len hw U.2
  generalize willT hw U.2 = T at *
  have n8 := dataT_left hw T.2
  have y1 := dataT_len hw T.2
  generalize dataT hw T.2 = Y at *
  generalize decide (f / 128 % 2 = 1) = hu at *
  have n9 := willT_left hu Y.2
  have s1 := willT_len hu Y.2
  generalize willT hu Y.2 = X at *
  generalize decide (f / 64 % 2 = 1) = hp at *
  have s2 := dataT_len hp X.2
  exact ⟨hk, by show f / 8 % 4 < 256; omega, by show P.1.length ≤ _; omega, by show U.1.length ≤ _; omega, p2, u2, by show I.1.length ≤ _; omega, by show T.1.length ≤ _; omega, by show Y.1.length ≤ _; omega, by show X.1.length ≤ _; omega, by show (dataT hp X.2).1.length ≤ _; omega⟩
theorem cnParse_b (s : List UInt8) (hs : s.length ≤ 1000) : CnB (cnParse s).1 := by
  unfold cnParse
  dsimp only
  split
  · exact noCn_b
  split
  · exact noCn_b
  · refine cnFrom_b _ ?_
    have h1 : (Rd.str ⟨s, 0⟩).2.s.length ≤ s.length := Rd.str_left ⟨s, 0⟩
    have h2 := num_left' (Rd.str ⟨s, 0⟩).2 1
    omega
structure CkB (a : Ck) : Prop where
  c : a.code < 256
  l : a.props.length ≤ 1000
  o : ∀ x ∈ a.props, x.n < 4294967296 ∧ x.s.length ≤ 9223372036854775807 ∧ x.t.length ≤ 9223372036854775807
theorem ckFail_s (f c : Nat) (r : Rd) : (ckFail f c r).s = r.s := by
  unfold ckFail; split
  · unfold Rd.fail; split <;> rfl
  · rfl
theorem ckParse_b (s : List UInt8) (hs : s.length ≤ 1000) : CkB (ckParse s).1 := by
  unfold ckParse ckFrom
  dsimp only
  split
  case isFalse => exact ⟨by show (0 : Nat) < 256; decide, by show (0 : Nat) ≤ 1000; decide, by intro x hx; simp [noCk] at hx⟩
  have h1 : (Rd.num ⟨s, 0⟩ 1).2.s.length ≤ s.length := num_left' ⟨s, 0⟩ 1
  generalize Rd.num ⟨s, 0⟩ 1 = F at *
  have h2 := num_left' F.2 1
  have hc := num_lt1 F.2
  generalize F.2.num 1 = C at *
  have h3 : (ckFail F.1 C.1 C.2).s.length ≤ C.2.s.length := by rw [ckFail_s]; exact Nat.le_refl _
  generalize ckFail F.1 C.1 C.2 = R at *
  have p1 := takeP_len R 2 false
  have p2 := takeP_ok R 2 false (by omega)
  exact ⟨hc, by show (takeP R 2 false).1.length ≤ _; omega, p2⟩
theorem ck_one' (s : List UInt8) (h : (ckParse s).2 = 0) : ckText (ckParse s).1 = s := by
  unfold ckParse ckFrom at h ⊢
  dsimp only at h ⊢
  have e0 := num1_one s
  generalize Rd.num ⟨s, 0⟩ 1 = F at *
  obtain ⟨f, r1⟩ := F
  dsimp only at *
  obtain ⟨⟨c, r2⟩, h2⟩ : ∃ x, r1.num 1 = x := ⟨_, rfl⟩
  rw [h2] at h ⊢
  dsimp only at h ⊢
  obtain ⟨ra, hra⟩ : ∃ x, ckFail f c r2 = x := ⟨_, rfl⟩
  rw [hra] at h ⊢
  obtain ⟨⟨l, rb⟩, hp⟩ : ∃ x, takeP ra 2 false = x := ⟨_, rfl⟩
  rw [hp] at h ⊢
  dsimp only at h ⊢
  obtain ⟨rc, hrc⟩ : ∃ x, ckProto f c rb = x := ⟨_, rfl⟩
  rw [hrc] at h ⊢
  by_cases hE : rc.ends = 0
  case neg => rw [if_neg hE] at h; exact absurd h hE
  rw [if_pos hE]
  dsimp only
  obtain ⟨xc, nc⟩ := ends_e0 _ hE
  have hrb : rc = rb := by
    rw [← hrc, ckProto]
    split
    · exfalso
      rename_i q
      rw [ckProto, if_pos q] at hrc
      exact fail_e0 rb 3 (by decide) (by rw [hrc]; exact xc)
    · rfl
  subst hrb
  have xa : ra.e = 0 := takeP_e0 ra 2 false (by rw [hp]; exact xc)
  have hf1 : ¬ (1 < f ∨ r2.e = 0 ∧ mayC 2 c = false) := by
    intro q
    rw [ckFail, if_pos q] at hra
    exact fail_e0 r2 2 (by decide) (by rw [hra]; exact xa)
  have hra2 : ra = r2 := by rw [← hra, ckFail, if_neg hf1]
  subst hra2
  have x1 : r1.e = 0 := num_e0 r1 1 (by rw [h2]; exact xa)
  have f0 := (e0 x1).1
  have f1 : r1.s = [b8 c] ++ ra.s := by
    rw [rd_eta r1 x1] at h2
    have := (num1_one r1.s (by rw [h2]; exact xa)).1
    rwa [h2] at this
  have f2 : ra.s = propsB l := by
    rw [rd_eta ra xa] at hp
    have := (take_one ra.s 2 false (by rw [hp]; exact xc)).1
    rw [hp] at this
    dsimp only at this
    rw [nc, List.append_nil] at this
    exact this
  rw [f0, f1, f2]
  unfold ckText
  dsimp only
  have hf : bitN (decide (f = 1)) 1 = f := by
    by_cases q : f = 1
    · simp [q, bitN]
    · have : f = 0 := by omega
      simp [this, bitN]
  rw [hf]
  rfl
end Go.Proofs.Ytlhkgalmiajinaa
