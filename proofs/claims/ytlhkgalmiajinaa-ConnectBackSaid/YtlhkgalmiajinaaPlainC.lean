/- A connect's body that is read is written as it was; what is read keeps its bounds: plain laws. No condition. -/
import Derived.Test.YtlhkgalmiajinaaPlainG
import Derived.Test.YtlhkgalmiajinaaPlainP
import Derived.Test.YtlhkgalmiajinaaLens
import Derived.Test.YtlhkgalmiajinaaConC
import Derived.Test.YtlhkgalmiajinaaConE
namespace Go.Proofs.Ytlhkgalmiajinaa
open Go.RowKit
set_option linter.unusedVariables false
set_option linter.unusedSimpArgs false

theorem cnflags_fin : ∀ f : Fin 256, cnBad f.val = false → bitN (decide (f.val / 2 % 2 = 1)) 2 + bitN (decide (f.val / 4 % 2 = 1)) 4 + bitN (decide (f.val / 64 % 2 = 1)) 64 + bitN (decide (f.val / 128 % 2 = 1)) 128 + (if decide (f.val / 4 % 2 = 1) = true then f.val / 8 % 4 % 4 * 8 + bitN (decide (f.val / 32 % 2 = 1)) 32 else 0) = f.val := by decide +kernel
theorem willP_e0 (h : Bool) (r : Rd) (he : (willP h r).2.e = 0) : r.e = 0 := by
  unfold willP at he
  split at he
  · exact takeP_e0 r 1 true he
  · exact he
theorem willT_e0 (h : Bool) (r : Rd) (he : (willT h r).2.e = 0) : r.e = 0 := by
  unfold willT at he
  split at he
  · exact str_e0 r he
  · exact he
theorem dataT_e0 (h : Bool) (r : Rd) (he : (dataT h r).2.e = 0) : r.e = 0 := by
  unfold dataT at he
  split at he
  · exact data_e0 r he
  · exact he
theorem willP_one (h : Bool) (s : List UInt8) (he : (willP h ⟨s, 0⟩).2.e = 0) : s = (if h = true then propsB (willP h ⟨s, 0⟩).1 else []) ++ (willP h ⟨s, 0⟩).2.s := by
  cases h
  · simp [willP]
  · have := (take_one s 1 true he).1
    simpa [willP, propsB] using this
theorem willT_one (h : Bool) (s : List UInt8) (he : (willT h ⟨s, 0⟩).2.e = 0) : s = (if h = true then dataB (willT h ⟨s, 0⟩).1 else []) ++ (willT h ⟨s, 0⟩).2.s := by
  cases h
  · simp [willT]
  · simpa [willT] using (str_one s he).1
theorem dataT_one (h : Bool) (s : List UInt8) (he : (dataT h ⟨s, 0⟩).2.e = 0) : s = (if h = true then dataB (dataT h ⟨s, 0⟩).1 else []) ++ (dataT h ⟨s, 0⟩).2.s := by
  cases h
  · simp [dataT]
  · simpa [dataT] using (data_one s he).1
theorem cnFail_e0 (f : Nat) (r : Rd) (h : (cnFail f r).e = 0) : cnBad f = false ∧ cnFail f r = r ∧ r.e = 0 := by
  unfold cnFail at h ⊢
  cases hb : cnBad f
  · simp [hb] at h ⊢; exact h
  · rw [hb, if_pos rfl] at h
    exact absurd h (fail_e0 r 2 (by decide))
theorem cn_one' (s : List UInt8) (h : (cnParse s).2 = 0) : cnText (cnParse s).1 = s := by
  have hdef : cnParse s = if (Rd.str ⟨s, 0⟩).2.e = 0 ∧ (Rd.str ⟨s, 0⟩).1 ≠ mqtt then (noCn, 14) else if ((Rd.str ⟨s, 0⟩).2.num 1).2.e = 0 ∧ ((Rd.str ⟨s, 0⟩).2.num 1).1 ≠ 5 then (noCn, 14) else cnFrom ((Rd.str ⟨s, 0⟩).2.num 1).2 := rfl
  by_cases c1 : (Rd.str ⟨s, 0⟩).2.e = 0 ∧ (Rd.str ⟨s, 0⟩).1 ≠ mqtt
  · rw [hdef, if_pos c1] at h; exact absurd h (by decide)
  rw [if_neg c1] at hdef
  by_cases c2 : ((Rd.str ⟨s, 0⟩).2.num 1).2.e = 0 ∧ ((Rd.str ⟨s, 0⟩).2.num 1).1 ≠ 5
  · rw [hdef, if_pos c2] at h; exact absurd h (by decide)
  rw [if_neg c2] at hdef
  have e0 := str_one s
  generalize Rd.str ⟨s, 0⟩ = N at *
  obtain ⟨name, r1⟩ := N
  dsimp only at *
  have e1 := num1_one r1.s
  have z1 := num_e0 r1 1
  have y1 := rd_eta r1
  rw [hdef] at h ⊢
  unfold cnFrom at h ⊢
  obtain ⟨⟨v, r2⟩, h2⟩ : ∃ x, r1.num 1 = x := ⟨_, rfl⟩
  rw [h2] at h z1 c2 ⊢
  dsimp only at h z1 c2 ⊢
  obtain ⟨⟨f, r3⟩, h3⟩ : ∃ x, r2.num 1 = x := ⟨_, rfl⟩
  have hf := num_lt1 r2
  rw [h3] at h hf ⊢
  dsimp only at h hf ⊢
  unfold cnTail at h ⊢
  obtain ⟨ra, hra⟩ : ∃ ra, cnFail f r3 = ra := ⟨_, rfl⟩
  rw [hra] at h ⊢
  obtain ⟨⟨keep, rb⟩, hk⟩ : ∃ x, ra.num 2 = x := ⟨_, rfl⟩
  obtain ⟨⟨props, rc⟩, hp⟩ : ∃ x, takeP rb 1 false = x := ⟨_, rfl⟩
  obtain ⟨⟨id, s1⟩, t1⟩ : ∃ x, rc.str = x := ⟨_, rfl⟩
  obtain ⟨hw, hhw⟩ : ∃ b, decide (f / 4 % 2 = 1) = b := ⟨_, rfl⟩
  obtain ⟨hu, hhu⟩ : ∃ b, decide (f / 128 % 2 = 1) = b := ⟨_, rfl⟩
  obtain ⟨hs, hhs⟩ : ∃ b, decide (f / 64 % 2 = 1) = b := ⟨_, rfl⟩
  obtain ⟨⟨wp, s2⟩, t2⟩ : ∃ x, willP hw s1 = x := ⟨_, rfl⟩
  obtain ⟨⟨topic, s3⟩, t3⟩ : ∃ x, willT hw s2 = x := ⟨_, rfl⟩
  obtain ⟨⟨pay, s4⟩, t4⟩ : ∃ x, dataT hw s3 = x := ⟨_, rfl⟩
  obtain ⟨⟨user, s5⟩, t5⟩ : ∃ x, willT hu s4 = x := ⟨_, rfl⟩
  obtain ⟨⟨pass, s6⟩, t6⟩ : ∃ x, dataT hs s5 = x := ⟨_, rfl⟩
  simp only [hhw, hhu, hhs, hk, hp, t1, t2, t3, t4, t5, t6] at h ⊢
  by_cases hE : s6.ends = 0
  case neg => rw [if_neg hE] at h; exact absurd h hE
  rw [if_pos hE]
  dsimp only
  obtain ⟨x6, n6⟩ := ends_e0 _ hE
  have x5 : s5.e = 0 := dataT_e0 hs s5 (by rw [t6]; exact x6)
  have x4 : s4.e = 0 := willT_e0 hu s4 (by rw [t5]; exact x5)
  have x3 : s3.e = 0 := dataT_e0 hw s3 (by rw [t4]; exact x4)
  have x2 : s2.e = 0 := willT_e0 hw s2 (by rw [t3]; exact x3)
  have x1 : s1.e = 0 := willP_e0 hw s1 (by rw [t2]; exact x2)
  have xc : rc.e = 0 := str_e0 rc (by rw [t1]; exact x1)
  have xb : rb.e = 0 := takeP_e0 rb 1 false (by rw [hp]; exact xc)
  have xa : ra.e = 0 := num_e0 ra 2 (by rw [hk]; exact xb)
  obtain ⟨hbad, hra2, xr3⟩ := cnFail_e0 f r3 (by rw [hra]; exact xa)
  rw [hra] at hra2
  subst hra2
  have xr2 : r2.e = 0 := num_e0 r2 1 (by rw [h3]; exact xr3)
  have xr1 : r1.e = 0 := z1 xr2
  have hname : name = mqtt := Decidable.byContradiction fun q => c1 ⟨xr1, q⟩
  have hv : v = 5 := Decidable.byContradiction fun q => c2 ⟨xr2, q⟩
  subst hname hv
  have hfl := cnflags_fin ⟨f, hf⟩ hbad
  dsimp only at hfl
  rw [hhw, hhu, hhs] at hfl
  have f0 := (e0 xr1).1
  have f1 : r1.s = [b8 5] ++ r2.s := by
    rw [rd_eta r1 xr1] at h2
    have := (num1_one r1.s (by rw [h2]; exact xr2)).1
    rwa [h2] at this
  have f2 : r2.s = [b8 f] ++ ra.s := by
    rw [rd_eta r2 xr2] at h3
    have := (num1_one r2.s (by rw [h3]; exact xr3)).1
    rwa [h3] at this
  have f3 : ra.s = two keep ++ rb.s := by
    rw [rd_eta ra xa] at hk
    have := (num2_one ra.s (by rw [hk]; exact xb)).1
    rwa [hk] at this
  have f4 : rb.s = propsB props ++ rc.s := by
    rw [rd_eta rb xb] at hp
    have := (take_one rb.s 1 false (by rw [hp]; exact xc)).1
    rw [hp] at this
    simpa [propsB] using this
  have f5 : rc.s = dataB id ++ s1.s := by
    rw [rd_eta rc xc] at t1
    have := (str_one rc.s (by rw [t1]; exact x1)).1
    rwa [t1] at this
  have f6 : s1.s = (if hw = true then propsB wp else []) ++ s2.s := by
    rw [rd_eta s1 x1] at t2
    have := willP_one hw s1.s (by rw [t2]; exact x2)
    rwa [t2] at this
  have f7 : s2.s = (if hw = true then dataB topic else []) ++ s3.s := by
    rw [rd_eta s2 x2] at t3
    have := willT_one hw s2.s (by rw [t3]; exact x3)
    rwa [t3] at this
  have f8 : s3.s = (if hw = true then dataB pay else []) ++ s4.s := by
    rw [rd_eta s3 x3] at t4
    have := dataT_one hw s3.s (by rw [t4]; exact x4)
    rwa [t4] at this
  have f9 : s4.s = (if hu = true then dataB user else []) ++ s5.s := by
    rw [rd_eta s4 x4] at t5
    have := willT_one hu s4.s (by rw [t5]; exact x5)
    rwa [t5] at this
  have f10 : s5.s = (if hs = true then dataB pass else []) := by
    rw [rd_eta s5 x5] at t6
    have := dataT_one hs s5.s (by rw [t6]; exact x6)
    rw [t6] at this
    dsimp only at this
    rwa [n6, List.append_nil] at this
  rw [f0, f1, f2, f3, f4, f5, f6, f7, f8, f9, f10]
  unfold cnText cnWill cnUser cnPass cnFlags
  dsimp only
  rw [hfl]
  cases hw <;> simp [dataB, two, mqtt, b8]
/-- What is read keeps its bounds. -/
theorem takeP_small (q : Rd) (kind : Int) (isWill : Bool) (B : Nat) (hq : q.s.length ≤ B) : (takeP q kind isWill).1.length ≤ B := Nat.le_trans (takeP_len q kind isWill) hq
end Go.Proofs.Ytlhkgalmiajinaa
