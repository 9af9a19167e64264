/- A body of layer 8 that is read is written as it was; what is right comes back; bounds: plain laws. No condition. -/
import Derived.Test.YthioageiebchlaaSb
import Derived.Test.YthioageiebchlaaPlainP
import Derived.Test.YthioageiebchlaaLens
namespace Go.Proofs.Ythioageiebchlaa
open Go.RowKit
set_option linter.unusedVariables false
set_option linter.unusedSimpArgs false

theorem opt_fin : ∀ b : Fin 256, ¬ 63 < b.val → b.val % 4 % 4 + b.val / 16 % 4 % 4 * 16 + (if decide (b.val / 4 % 2 = 1) = true then 4 else 0) + (if decide (b.val / 8 % 2 = 1) = true then 8 else 0) = b.val := by decide +kernel
theorem opt_one (f : List UInt8) (b : Nat) (h : ¬ 63 < b) : sbOpt (sbOf f b) = b := opt_fin ⟨b, by omega⟩ h
theorem optFail_e0 (b : Nat) (r : Rd) (h : (optFail b r).e = 0) : ¬ 63 < b ∧ optFail b r = r := by
  unfold optFail at h ⊢
  split
  · rename_i c; rw [if_pos c] at h; exact absurd h (fail_e0 r 2 (by decide))
  · rename_i c
    rw [if_neg c] at h
    split
    · rename_i d; rw [if_pos d] at h; exact absurd h (fail_e0 r 3 (by decide))
    · exact ⟨c, rfl⟩
theorem sbTake_one (s : List UInt8) (h : (sbTake ⟨s, 0⟩).2.e = 0) : s = sbB (sbTake ⟨s, 0⟩).1 ++ (sbTake ⟨s, 0⟩).2.s := by
  unfold sbTake at h ⊢
  dsimp only at h ⊢
  obtain ⟨h1, h2⟩ := optFail_e0 _ _ h
  rw [h2] at h ⊢
  have e0 := num_e0 _ _ h
  have e1 := str_one s e0
  have hq := rd_eta _ e0
  rw [hq] at h h1
  have e2 := num1_one _ h
  rw [← hq] at h h1 e2
  unfold sbB
  rw [opt_one _ _ h1]
  have e3 : (sbOf (Rd.str ⟨s, 0⟩).1 ((Rd.str ⟨s, 0⟩).2.num 1).1).filter = (Rd.str ⟨s, 0⟩).1 := rfl
  rw [e3]
  have e4 := e1.1
  rw [e2.1] at e4
  rw [List.append_assoc]
  exact e4
theorem sbGo_one : ∀ (n : Nat) (s : List UInt8) (l : List Sb), s.length ≤ n → (sbGo n ⟨s, 0⟩ l).2.ends = 0 → ∃ l2, (sbGo n ⟨s, 0⟩ l).1 = l ++ l2 ∧ s = subsB l2
  | 0, s, l, hn, _ => ⟨[], by rw [List.append_nil]; rfl, List.eq_nil_of_length_eq_zero (by omega)⟩
  | n + 1, s, l, hn, h => by
    by_cases hs : s = []
    · subst hs
      rw [sbGo_stop _ _ _ (Or.inl rfl)]
      exact ⟨[], by rw [List.append_nil], rfl⟩
    · rw [sbGo, if_neg (by simp [hs])] at h ⊢
      have he : (sbTake ⟨s, 0⟩).2.e = 0 := by
        by_cases q : (sbTake ⟨s, 0⟩).2.e = 0
        · exact q
        · rw [sbGo_stop _ _ _ (Or.inr q)] at h
          exact absurd (ends_e0 _ h).1 q
      have h1 := sbTake_one s he
      have h2 := sbTake_less _ he
      have hq := rd_eta _ he
      rw [hq] at h ⊢
      obtain ⟨l2, g1, g2⟩ := sbGo_one n _ _ (by dsimp only at h2; omega) h
      refine ⟨(sbTake ⟨s, 0⟩).1 :: l2, by rw [g1, List.append_assoc]; rfl, ?_⟩
      show s = sbB _ ++ subsB l2
      rw [← g2]
      exact h1
theorem unGo_one : ∀ (n : Nat) (s : List UInt8) (l : List (List UInt8)), s.length ≤ n → (unGo n ⟨s, 0⟩ l).2.ends = 0 → ∃ l2, (unGo n ⟨s, 0⟩ l).1 = l ++ l2 ∧ s = filtersB l2
  | 0, s, l, hn, _ => ⟨[], by rw [List.append_nil]; rfl, List.eq_nil_of_length_eq_zero (by omega)⟩
  | n + 1, s, l, hn, h => by
    by_cases hs : s = []
    · subst hs
      rw [unGo_stop _ _ _ (Or.inl rfl)]
      exact ⟨[], by rw [List.append_nil], rfl⟩
    · rw [unGo, if_neg (by simp [hs])] at h ⊢
      have he : (Rd.str ⟨s, 0⟩).2.e = 0 := by
        by_cases q : (Rd.str ⟨s, 0⟩).2.e = 0
        · exact q
        · rw [unGo_stop _ _ _ (Or.inr q)] at h
          exact absurd (ends_e0 _ h).1 q
      have h1 := (str_one s he).1
      have h2 := str_less _ he
      have hq := rd_eta _ he
      rw [hq] at h ⊢
      obtain ⟨l2, g1, g2⟩ := unGo_one n _ _ (by dsimp only at h2; omega) h
      refine ⟨(Rd.str ⟨s, 0⟩).1 :: l2, by rw [g1, List.append_assoc]; rfl, ?_⟩
      show s = dataB _ ++ filtersB l2
      rw [← g2]
      exact h1
theorem more_e0 (r : Rd) (h : r.more.e = 0) : r.s ≠ [] ∧ r.more = r := by
  unfold Rd.more at h ⊢
  split
  · rename_i c; rw [if_pos c] at h; exact absurd h (fail_e0 r 3 (by decide))
  · rename_i c; exact ⟨c, rfl⟩
theorem begin_one (k : Int) (s : List UInt8) (h : (beginR k s).r.e = 0) : s = headB (beginR k s).id (beginR k s).props ++ (beginR k s).r.s ∧ (beginR k s).r.s ≠ [] := by
  unfold beginR at h ⊢
  dsimp only at h ⊢
  obtain ⟨h1, h2⟩ := more_e0 _ h
  rw [h2] at h ⊢
  have e0 := takeP_e0 _ _ _ h
  have e1 := ident_one s e0
  have hq := rd_eta _ e0
  rw [hq] at h
  have e2 := (take_one _ _ _ h).1
  rw [← hq] at e2
  refine ⟨?_, h1⟩
  have e4 := e1.1
  rw [e2] at e4
  unfold headB propsB
  simpa only [List.append_assoc] using e4
theorem su_one (s : List UInt8) (h : (suParse s).2 = 0) : suText (suParse s).1 = s := by
  unfold suParse at h ⊢
  split
  · rename_i c
    dsimp only
    have hb : (beginR 8 s).r.e = 0 := by
      by_cases q : (beginR 8 s).r.e = 0
      · exact q
      · rw [subsR, sbGo_stop _ _ _ (Or.inr q)] at c
        exact absurd (ends_e0 _ c).1 q
    have h1 := (begin_one 8 s hb).1
    have hq := rd_eta _ hb
    unfold subsR at c ⊢
    rw [hq] at c ⊢
    obtain ⟨l2, g1, g2⟩ := sbGo_one _ _ [] (Nat.le_refl _) c
    unfold suText
    dsimp only at g1 ⊢
    rw [g1, List.nil_append, ← g2]
    exact h1.symm
  · rename_i c
    rw [if_neg c] at h
    exact absurd h c
theorem un_one (s : List UInt8) (h : (unParse s).2 = 0) : unText (unParse s).1 = s := by
  unfold unParse at h ⊢
  split
  · rename_i c
    dsimp only
    have hb : (beginR 10 s).r.e = 0 := by
      by_cases q : (beginR 10 s).r.e = 0
      · exact q
      · rw [filtersR, unGo_stop _ _ _ (Or.inr q)] at c
        exact absurd (ends_e0 _ c).1 q
    have h1 := (begin_one 10 s hb).1
    have hq := rd_eta _ hb
    unfold filtersR at c ⊢
    rw [hq] at c ⊢
    obtain ⟨l2, g1, g2⟩ := unGo_one _ _ [] (Nat.le_refl _) c
    unfold unText
    dsimp only at g1 ⊢
    rw [g1, List.nil_append, ← g2]
    exact h1.symm
  · rename_i c
    rw [if_neg c] at h
    exact absurd h c
theorem raw_all (q : Rd) (h : q.e = 0) : q.raw q.s.length = (q.s, ⟨[], 0⟩) := by
  rw [Rd.raw_ok _ _ h (Nat.le_refl _), List.take_length, List.drop_length]
theorem saMay_e0 (k : Int) (q : List UInt8 × Rd) (h : (saMay k q).e = 0) : saMay k q = q.2 := by
  unfold saMay at h ⊢
  split
  · rfl
  · rename_i c; rw [if_neg c] at h; exact absurd h (fail_e0 q.2 2 (by decide))
theorem sa_one (k : Int) (s : List UInt8) (h : (saParse k s).2 = 0) : saText (saParse k s).1 = s := by
  unfold saParse at h ⊢
  split
  · rename_i c; rw [if_pos c] at h; exact absurd h (by decide)
  · rename_i c0
    rw [if_neg c0] at h
    split
    · rename_i c
      dsimp only
      have h1 := (ends_e0 _ c).1
      have h2 := saMay_e0 _ _ h1
      rw [h2] at h1
      have hb : (beginR k s).r.e = 0 := raw_e0 _ _ h1
      have h3 := (begin_one k s hb).1
      have h4 : (saRest k s).1 = (beginR k s).r.s := by rw [saRest, raw_all _ hb]
      unfold saText
      dsimp only
      rw [h4]
      exact h3.symm
    · rename_i c
      rw [if_neg c] at h
      exact absurd h c
/-! ### Bounds -/
def PrsOk (l : List Pr) : Prop := ∀ x ∈ l, x.n < 4294967296 ∧ x.s.length ≤ 9223372036854775807 ∧ x.t.length ≤ 9223372036854775807
def SbOk (x : Sb) : Prop := x.qos < 256 ∧ x.handling < 256 ∧ x.filter.length ≤ 9223372036854775807
structure SuB (s : Su) : Prop where
  i : s.id < 4294967296
  l : s.props.length ≤ 1000
  o : PrsOk s.props
  sl : s.subs.length ≤ 1000
  so : ∀ x ∈ s.subs, SbOk x
structure UnB (s : Un) : Prop where
  i : s.id < 4294967296
  l : s.props.length ≤ 1000
  o : PrsOk s.props
  sl : s.filters.length ≤ 1000
  so : ∀ x ∈ s.filters, x.length ≤ 9223372036854775807
structure SaB (s : Sa) : Prop where
  i : s.id < 4294967296
  l : s.props.length ≤ 1000
  o : PrsOk s.props
  c : s.codes.length ≤ 1000000
theorem prs_nil : PrsOk [] := fun x hx => absurd hx (by simp)
theorem noSu_b : SuB noSu := ⟨by decide, by decide, prs_nil, by decide, fun x hx => absurd hx (by simp [noSu])⟩
theorem noUn_b : UnB noUn := ⟨by decide, by decide, prs_nil, by decide, fun x hx => absurd hx (by simp [noUn])⟩
theorem noSa_b : SaB noSa := ⟨by decide, by decide, prs_nil, by decide⟩
theorem sbTake_ok (r : Rd) (h : r.s.length ≤ 1000000) : SbOk (sbTake r).1 := by
  have := str_len r
  refine ⟨?_, ?_, ?_⟩
  · show (r.str.2.num 1).1 % 4 < 256; omega
  · show (r.str.2.num 1).1 / 16 % 4 < 256; omega
  · show r.str.1.length ≤ _; omega
theorem sbGo_b : ∀ (n : Nat) (r : Rd) (l : List Sb), r.s.length ≤ 1000000 → (∀ x ∈ l, SbOk x) → (sbGo n r l).1.length ≤ l.length + n ∧ ∀ x ∈ (sbGo n r l).1, SbOk x
  | 0, r, l, _, hl => ⟨Nat.le_refl _, hl⟩
  | n + 1, r, l, hr, hl => by
    rw [sbGo]
    split
    · exact ⟨by dsimp only; omega, hl⟩
    · have h1 := sbTake_left r
      have := sbGo_b n (sbTake r).2 (l ++ [(sbTake r).1]) (by omega) (fun x hx => by
        rcases List.mem_append.1 hx with hx | hx
        · exact hl x hx
        · simp at hx; subst hx; exact sbTake_ok r hr)
      rw [List.length_append] at this
      exact ⟨by have := this.1; simp at this; omega, this.2⟩
theorem unGo_b : ∀ (n : Nat) (r : Rd) (l : List (List UInt8)), r.s.length ≤ 1000000 → (∀ x ∈ l, x.length ≤ 1000000) → (unGo n r l).1.length ≤ l.length + n ∧ ∀ x ∈ (unGo n r l).1, x.length ≤ 1000000
  | 0, r, l, _, hl => ⟨Nat.le_refl _, hl⟩
  | n + 1, r, l, hr, hl => by
    rw [unGo]
    split
    · exact ⟨by dsimp only; omega, hl⟩
    · have h1 := Rd.str_left r
      have h2 := str_len r
      have := unGo_b n r.str.2 (l ++ [r.str.1]) (by omega) (fun x hx => by
        rcases List.mem_append.1 hx with hx | hx
        · exact hl x hx
        · simp at hx; subst hx; omega)
      rw [List.length_append] at this
      exact ⟨by have := this.1; simp at this; omega, this.2⟩
theorem begin_b (k : Int) (s : List UInt8) (hs : s.length ≤ 1000) : (beginR k s).id < 4294967296 ∧ (beginR k s).props.length ≤ 1000 ∧ PrsOk (beginR k s).props ∧ (beginR k s).r.s.length ≤ 1000 := by
  have h1 : (Rd.ident ⟨s, 0⟩).2.s.length ≤ s.length := ident_left ⟨s, 0⟩
  have h2 := takeP_len (Rd.ident ⟨s, 0⟩).2 k false
  have h3 := begin_left k s
  refine ⟨num_lt2 _, ?_, takeP_ok _ _ _ (by omega), by omega⟩
  exact Nat.le_trans h2 (Nat.le_trans h1 hs)
theorem suParse_b (s : List UInt8) (hs : s.length ≤ 900) : SuB (suParse s).1 := by
  obtain ⟨a, b, c, d⟩ := begin_b 8 s (by omega)
  have hl := begin_left 8 s
  have g := sbGo_b (beginR 8 s).r.s.length (beginR 8 s).r [] (by omega) (fun x hx => absurd hx (by simp))
  unfold suParse
  split
  · refine ⟨a, b, c, ?_, g.2⟩
    have := g.1
    show (sbGo (beginR 8 s).r.s.length (beginR 8 s).r []).1.length ≤ _
    simp at this; omega
  · exact noSu_b
theorem unParse_b (s : List UInt8) (hs : s.length ≤ 900) : UnB (unParse s).1 := by
  obtain ⟨a, b, c, d⟩ := begin_b 10 s (by omega)
  have hl := begin_left 10 s
  have g := unGo_b (beginR 10 s).r.s.length (beginR 10 s).r [] (by omega) (fun x hx => absurd hx (by simp))
  unfold unParse
  split
  · refine ⟨a, b, c, ?_, fun x hx => Nat.le_trans (g.2 x hx) (by decide)⟩
    have := g.1
    show (unGo (beginR 10 s).r.s.length (beginR 10 s).r []).1.length ≤ _
    simp at this; omega
  · exact noUn_b
theorem saParse_b (k : Int) (s : List UInt8) (hs : s.length ≤ 900) : SaB (saParse k s).1 := by
  obtain ⟨a, b, c, d⟩ := begin_b k s (by omega)
  have h4 := Rd.raw_le (beginR k s).r (beginR k s).r.s.length
  unfold saParse
  split
  · exact noSa_b
  · split
    · refine ⟨a, b, c, ?_⟩
      show ((beginR k s).r.raw (beginR k s).r.s.length).1.length ≤ _
      omega
    · exact noSa_b
/-! ### What is right comes back -/
structure SbRt (x : Sb) : Prop where
  f : ∃ t : List UInt8, x.filter = lettersB t ∧ t.length ≤ 30
  q : x.qos < 3
  h : x.handling < 3
theorem optb_fin : ∀ q h : Fin 3, ∀ a b : Bool, ∃ f : Nat, q.val % 4 + h.val % 4 * 16 + (if a = true then 4 else 0) + (if b = true then 8 else 0) = f ∧ f ≤ 63 ∧ f % 4 = q.val ∧ f / 16 % 4 = h.val ∧ decide (f / 4 % 2 = 1) = a ∧ decide (f / 8 % 2 = 1) = b := by
  intro q h a b
  refine ⟨_, rfl, ?_⟩
  revert q h a b
  decide +kernel
theorem sb_back (x : Sb) (h : SbRt x) (t : List UInt8) : sbTake ⟨sbB x ++ t, 0⟩ = (x, ⟨t, 0⟩) := by
  obtain ⟨⟨s, hs, hsl⟩, hq, hh⟩ := h
  obtain ⟨f, qos, nl, ap, hd⟩ := x
  dsimp only at hs hq hh
  subst hs
  obtain ⟨o, h0, h1, h2, h3, h4, h5⟩ := optb_fin ⟨qos, hq⟩ ⟨hd, hh⟩ nl ap
  have hb : sbOpt ⟨lettersB s, qos, nl, ap, hd⟩ = o := h0
  unfold sbTake sbB
  rw [hb, List.append_assoc]
  dsimp only at h2 h3 h4 h5 ⊢
  rw [str_lets s _ (by omega)]
  dsimp only
  rw [List.singleton_append, num1_cons, b8_toNat, Nat.mod_eq_of_lt (by omega)]
  dsimp only
  have hf : optFail o ⟨t, 0⟩ = ⟨t, 0⟩ := by
    unfold optFail
    rw [if_neg (by omega), if_neg (by omega)]
  rw [hf]
  unfold sbOf
  rw [h2, h3, h4, h5]
theorem sbB_pos (x : Sb) : 0 < (sbB x).length := by unfold sbB; simp
theorem subs_back (l : List Sb) (h : ∀ x ∈ l, SbRt x) : ∀ (n : Nat) (acc : List Sb), (subsB l).length ≤ n → sbGo n ⟨subsB l, 0⟩ acc = (acc ++ l, ⟨[], 0⟩) := by
  induction l with
  | nil => intro n acc _; rw [sbGo_stop _ _ _ (Or.inl rfl), List.append_nil]; rfl
  | cons x l ih =>
    intro n acc hn
    have hx := sbB_pos x
    have e : subsB (x :: l) = sbB x ++ subsB l := rfl
    rw [e] at hn ⊢
    rw [List.length_append] at hn
    obtain ⟨m, rfl⟩ : ∃ m, n = m + 1 := ⟨n - 1, by omega⟩
    rw [sbGo, if_neg (by
      rintro (c | c)
      · have := congrArg List.length c
        rw [show (⟨sbB x ++ subsB l, 0⟩ : Rd).s = sbB x ++ subsB l from rfl, List.length_append, List.length_nil] at this
        omega
      · exact c rfl), sb_back x (h x (by simp)), ih (fun y hy => h y (by simp [hy])) m _ (by omega), List.append_assoc]
    rfl
theorem take00 (kind : Int) (isWill : Bool) (t : List UInt8) : takeP ⟨(0 : UInt8) :: t, 0⟩ kind isWill = ([], ⟨t, 0⟩) := by
  have := back_ok (OkL.nil (kind := kind) (isWill := isWill)) (by decide) t
  simpa [putsB, var, varB, vmin, b8] using this
theorem head_nil (id : Nat) : headB id [] = two id ++ [0] := by
  unfold headB
  have hp : propsB [] = [0] := by kernel_rfl
  rw [hp]
theorem begin_back (k : Int) (id : Nat) (h0 : id ≠ 0) (h1 : id < 65536) (t : List UInt8) : beginR k (headB id [] ++ t) = ⟨id, [], if t = [] then ⟨t, 3⟩ else ⟨t, 0⟩⟩ := by
  unfold beginR
  rw [head_nil, List.append_assoc, ident_back id h0 h1]
  dsimp only
  rw [List.singleton_append, take00]
  dsimp only
  unfold Rd.more Rd.fail
  split <;> simp
theorem su_back (id : Nat) (l : List Sb) (h0 : id ≠ 0) (h1 : id < 65536) (hl : l ≠ []) (h : ∀ x ∈ l, SbRt x) : suParse (suText ⟨id, [], l⟩) = (⟨id, [], l⟩, 0) := by
  unfold suText
  dsimp only
  have hne : subsB l ≠ [] := by
    cases l with
    | nil => exact absurd rfl hl
    | cons x l =>
      intro c
      have := congrArg List.length c
      have hx := sbB_pos x
      rw [show subsB (x :: l) = sbB x ++ subsB l from rfl, List.length_append, List.length_nil] at this
      omega
  unfold suParse
  rw [begin_back 8 id h0 h1, if_neg hne]
  dsimp only
  have e : subsR ⟨subsB l, 0⟩ = (l, ⟨[], 0⟩) := by
    unfold subsR
    rw [subs_back l h _ [] (Nat.le_refl _), List.nil_append]
  rw [e]
  exact if_pos rfl
def LetS (x : List UInt8) : Prop := ∃ t : List UInt8, x = lettersB t ∧ t.length ≤ 30
theorem filters_back (l : List (List UInt8)) (h : ∀ x ∈ l, LetS x) : ∀ (n : Nat) (acc : List (List UInt8)), (filtersB l).length ≤ n → unGo n ⟨filtersB l, 0⟩ acc = (acc ++ l, ⟨[], 0⟩) := by
  induction l with
  | nil => intro n acc _; rw [unGo_stop _ _ _ (Or.inl rfl), List.append_nil]; rfl
  | cons x l ih =>
    intro n acc hn
    have hx : 0 < (dataB x).length := by unfold dataB; rw [List.length_append, two_len]; omega
    have e : filtersB (x :: l) = dataB x ++ filtersB l := rfl
    rw [e] at hn ⊢
    rw [List.length_append] at hn
    obtain ⟨m, rfl⟩ : ∃ m, n = m + 1 := ⟨n - 1, by omega⟩
    obtain ⟨s, hs, hsl⟩ := h x (by simp)
    have hb : Rd.str ⟨dataB x ++ filtersB l, 0⟩ = (x, ⟨filtersB l, 0⟩) := by rw [hs]; exact str_lets s _ (by omega)
    rw [unGo, if_neg (by
      rintro (c | c)
      · have := congrArg List.length c
        rw [show (⟨dataB x ++ filtersB l, 0⟩ : Rd).s = dataB x ++ filtersB l from rfl, List.length_append, List.length_nil] at this
        omega
      · exact c rfl), hb, ih (fun y hy => h y (by simp [hy])) m _ (by omega), List.append_assoc]
    rfl
theorem un_back (id : Nat) (l : List (List UInt8)) (h0 : id ≠ 0) (h1 : id < 65536) (hl : l ≠ []) (h : ∀ x ∈ l, LetS x) : unParse (unText ⟨id, [], l⟩) = (⟨id, [], l⟩, 0) := by
  unfold unText
  dsimp only
  have hne : filtersB l ≠ [] := by
    cases l with
    | nil => exact absurd rfl hl
    | cons x l =>
      intro c
      have := congrArg List.length c
      have hx : 0 < (dataB x).length := by unfold dataB; rw [List.length_append, two_len]; omega
      rw [show filtersB (x :: l) = dataB x ++ filtersB l from rfl, List.length_append, List.length_nil] at this
      omega
  unfold unParse
  rw [begin_back 10 id h0 h1, if_neg hne]
  dsimp only
  have e : filtersR ⟨filtersB l, 0⟩ = (l, ⟨[], 0⟩) := by
    unfold filtersR
    rw [filters_back l h _ [] (Nat.le_refl _), List.nil_append]
  rw [e]
  exact if_pos rfl
/-- A beginning of a row: bytes are wanting. -/
theorem str_short (s : List UInt8) (hs : s.length ≤ 65535) (k : Nat) (hk : k < (dataB (lettersB s)).length) : (Rd.str ⟨(dataB (lettersB s)).take k, 0⟩).2.e = 1 := by
  have h := data_short (lettersB s) (by rw [lettersB_len]; exact hs) k hk
  unfold Rd.str
  rw [h]
  have hg : good [] = true := by decide
  rw [if_pos hg]
theorem sb_short (x : Sb) (h : SbRt x) (k : Nat) (hk : k < (sbB x).length) : (sbTake ⟨(sbB x).take k, 0⟩).2.e ≠ 0 := by
  obtain ⟨⟨s, hs, hsl⟩, hq, hh⟩ := h
  have bad : ∀ r : Rd, ((Rd.num r 1).2).e ≠ 0 → ∀ b, (optFail b (Rd.num r 1).2).e ≠ 0 := fun r hr b => by
    unfold optFail
    rw [fail_bad _ _ hr, fail_bad _ _ hr]
    repeat' split
    all_goals exact hr
  unfold sbTake
  dsimp only
  refine bad _ ?_ _
  unfold sbB at hk ⊢
  rw [List.length_append, List.length_singleton] at hk
  by_cases hd : k < (dataB x.filter).length
  · rw [List.take_append_of_le_length (by omega)]
    have h1 := str_short s (by omega) k (by rw [← hs]; exact hd)
    rw [← hs] at h1
    rw [num_bad _ 1 (by rw [h1]; decide)]
    dsimp only
    rw [h1]; decide
  · have hk2 : k = (dataB x.filter).length := by omega
    rw [hk2, List.take_append_of_le_length (Nat.le_refl _), List.take_length]
    have h1 := str_lets s [] (by omega)
    rw [List.append_nil, ← hs] at h1
    rw [h1]
    dsimp only
    rw [num1_nil]
    decide
theorem subs_cut (l : List Sb) (h : ∀ x ∈ l, SbRt x) : ∀ (n k : Nat) (acc : List Sb), k < (subsB l).length → k ≤ n → (sbGo n ⟨(subsB l).take k, 0⟩ acc).2.ends ≠ 0 ∨ (sbGo n ⟨(subsB l).take k, 0⟩ acc).1.length < acc.length + l.length := by
  induction l with
  | nil => intro n k acc hk; exact absurd hk (by simp [subsB])
  | cons x l ih =>
    intro n k acc hk hn
    have e : subsB (x :: l) = sbB x ++ subsB l := rfl
    rw [e] at hk ⊢
    rw [List.length_append] at hk
    by_cases h0 : k = 0
    · subst h0
      right
      rw [List.take_zero, sbGo_stop _ _ _ (Or.inl rfl)]
      simp
    obtain ⟨m, rfl⟩ : ∃ m, n = m + 1 := ⟨n - 1, by omega⟩
    have hx := sbB_pos x
    have hne : ¬ ((⟨(sbB x ++ subsB l).take k, 0⟩ : Rd).s = [] ∨ (⟨(sbB x ++ subsB l).take k, 0⟩ : Rd).e ≠ 0) := by
      rintro (c | c)
      · have := congrArg List.length c
        rw [show (⟨(sbB x ++ subsB l).take k, 0⟩ : Rd).s = (sbB x ++ subsB l).take k from rfl, List.length_take, List.length_append, List.length_nil] at this
        omega
      · exact c rfl
    rw [sbGo, if_neg hne]
    by_cases hd : k < (sbB x).length
    · left
      rw [List.take_append_of_le_length (by omega)]
      have h1 := sb_short x (h x (by simp)) k hd
      rw [sbGo_stop _ _ _ (Or.inr h1)]
      intro c
      exact h1 (ends_e0 _ c).1
    · rw [List.take_append, List.take_of_length_le (by omega : (sbB x).length ≤ k), sb_back x (h x (by simp))]
      dsimp only
      have := ih (fun y hy => h y (by simp [hy])) m (k - (sbB x).length) (acc ++ [x]) (by omega) (by omega)
      rcases this with q | q
      · exact Or.inl q
      · right
        rw [List.length_append, List.length_singleton] at q
        rw [List.length_cons]
        omega
theorem headB_len (id : Nat) : (headB id []).length = 3 := by rw [head_nil, List.length_append, two_len]; rfl
theorem ident_short (s : List UInt8) (h : s.length < 2) : (Rd.ident ⟨s, 0⟩).2.e = 1 := by
  have h1 := num_short 2 s h
  unfold Rd.ident
  dsimp only
  split
  · rw [fail_bad _ _ (by rw [h1]; decide)]; exact h1
  · exact h1
theorem take_nil1 (kind : Int) (isWill : Bool) : (takeP ⟨[], 0⟩ kind isWill).2.e = 1 := by
  have h1 : Rd.var ⟨[], 0⟩ = (0, ⟨[], 1⟩) := by rw [Rd.var, varGo_nil]
  unfold takeP
  rw [h1]
  have h2 : Rd.raw ⟨[], 1⟩ 0 = ([], ⟨[], 1⟩) := Rd.raw_bad _ _ (by decide)
  dsimp only
  rw [h2, if_pos (by decide)]
theorem more_bad (r : Rd) (h : r.e ≠ 0) : r.more = r := by
  unfold Rd.more
  rw [fail_bad _ _ h]
  split <;> rfl
theorem begin_short (k : Int) (id : Nat) (h0 : id ≠ 0) (h1 : id < 65536) (n : Nat) (hn : n < 3) : (beginR k ((headB id []).take n)).r.e ≠ 0 := by
  unfold beginR
  dsimp only
  by_cases h2 : n < 2
  · have a := ident_short ((headB id []).take n) (by rw [List.length_take]; omega)
    have b : (Rd.ident ⟨(headB id []).take n, 0⟩).2.e ≠ 0 := by rw [a]; decide
    rw [takeP_bad _ _ _ b]
    dsimp only
    rw [more_bad _ b]
    exact b
  · have hn2 : n = 2 := by omega
    subst hn2
    rw [head_nil, List.take_append_of_le_length (by rw [two_len]; omega), List.take_of_length_le (by rw [two_len]; omega)]
    have e := ident_back id h0 h1 []
    rw [List.append_nil] at e
    rw [e]
    dsimp only
    have a := take_nil1 k false
    rw [more_bad _ (by rw [a]; decide), a]
    decide
theorem su_bad (s : List UInt8) (h : (beginR 8 s).r.e ≠ 0) : (suParse s).2 ≠ 0 := by
  unfold suParse
  unfold subsR
  rw [sbGo_stop _ _ _ (Or.inr h)]
  dsimp only
  have : (beginR 8 s).r.ends ≠ 0 := fun c => h (ends_e0 _ c).1
  rw [if_neg this]
  exact this
theorem su_cut (id : Nat) (l : List Sb) (h0 : id ≠ 0) (h1 : id < 65536) (hl : l ≠ []) (h : ∀ x ∈ l, SbRt x) (n : Nat) (hn : n < (suText ⟨id, [], l⟩).length) :
    (suParse ((suText ⟨id, [], l⟩).take n)).2 ≠ 0 ∨ (suParse ((suText ⟨id, [], l⟩).take n)).1.subs.length < l.length := by
  unfold suText at hn ⊢
  dsimp only at hn ⊢
  rw [List.length_append, headB_len] at hn
  by_cases hd : n < 3
  · left
    rw [List.take_append_of_le_length (by rw [headB_len]; omega)]
    exact su_bad _ (begin_short 8 id h0 h1 n hd)
  · rw [List.take_append, List.take_of_length_le (by rw [headB_len]; omega : (headB id []).length ≤ n), headB_len]
    have hc := subs_cut l h ((subsB l).take (n - 3)).length (n - 3) [] (by omega) (by rw [List.length_take]; omega)
    by_cases he : (subsB l).take (n - 3) = []
    · left
      refine su_bad _ ?_
      rw [begin_back 8 id h0 h1, if_pos he]
      show (3 : Int) ≠ 0
      decide
    · unfold suParse
      rw [begin_back 8 id h0 h1, if_neg he]
      unfold subsR
      dsimp only
      by_cases c : (sbGo ((subsB l).take (n - 3)).length ⟨(subsB l).take (n - 3), 0⟩ []).2.ends = 0
      · rw [if_pos c]
        right
        rcases hc with hc | hc
        · exact absurd c hc
        · rw [List.length_nil, Nat.zero_add] at hc
          exact hc
      · rw [if_neg c]
        left
        exact c
/-! ### Options, codes -/
theorem opts_fin : ∀ b : Fin 256, (suParse [0, 1, 0, 0, 1, 97, b8 b.val]).2 = (if 63 < b.val then 2 else if b.val % 4 = 3 ∨ b.val / 16 = 3 then 3 else 0) ∧ ((suParse [0, 1, 0, 0, 1, 97, b8 b.val]).2 = 0 → (suParse [0, 1, 0, 0, 1, 97, b8 b.val]).1.subs.map sbOpt = [b.val]) := by decide +kernel
theorem sa_back (k : Int) (id : Nat) (c : List UInt8) (hk : k = 9 ∨ k = 11) (h0 : id ≠ 0) (h1 : id < 65536) : saParse k (saText ⟨k, id, [], c⟩) = if c = [] then (noSa, 3) else if (c.all fun x => mayC k x.toNat) = true then (⟨k, id, [], c⟩, 0) else (noSa, 2) := by
  unfold saText
  dsimp only
  unfold saParse saRest
  rw [if_neg (by omega), begin_back k id h0 h1]
  dsimp only
  by_cases hc : c = []
  · rw [if_pos hc, if_pos hc]
    subst hc
    have e : Rd.raw ⟨[], 3⟩ ([] : List UInt8).length = ([], ⟨[], 3⟩) := Rd.raw_bad _ _ (by decide)
    rw [e]
    have e2 : saMay k ([], ⟨[], 3⟩) = ⟨[], 3⟩ := rfl
    rw [e2, if_neg (by decide)]
    rfl
  · rw [if_neg hc, if_neg hc]
    have e : Rd.raw ⟨c, 0⟩ c.length = (c, ⟨[], 0⟩) := raw_all ⟨c, 0⟩ rfl
    rw [e]
    unfold saMay
    dsimp only
    by_cases ha : (c.all fun x => mayC k x.toNat) = true
    · rw [if_pos ha, if_pos ha, if_pos (by decide)]
    · rw [if_neg ha, if_neg ha, if_neg (by decide)]
      rfl
end Go.Proofs.Ythioageiebchlaa
