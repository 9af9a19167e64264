/- Plain laws of law 07: a publish that may be is written and read again; so is an answer; a code of a kind's codes. No condition. -/
import Derived.Test.YtlhkgalmiajinaaPlainP
import Derived.Test.YtlhkgalmiajinaaFrame
namespace Go.Proofs.Ytlhkgalmiajinaa

/-- A text property, letters. -/
def letP (id : Int) (s : List UInt8) : Pr := ⟨id, 0, lettersB s, []⟩
theorem let_right (id : Int) (s : List UInt8) (h : (ruleOf id).kind = 5) : rightP ⟨id, 0, s, []⟩ = letP id s := by
  unfold rightP rightN rightS rightT letP
  dsimp only
  rw [h]
  simp
theorem let_ok (kind id : Int) (isWill : Bool) (s : List UInt8) (h : (ruleOf id).kind = 5) (hm : mayB id kind isWill = true) (hs : s.length ≤ 20) : OkL kind isWill [letP id s] := by
  have h1 : 1 ≤ (ruleOf id).kind := by omega
  have := say_right ⟨id, 0, s, []⟩ h1 (by show s.length ≤ _; omega) (by simp)
  rw [let_right id s h] at this
  exact OkL.snoc [] _ OkL.nil this h1 hm (by rintro ⟨a, _⟩; exact absurd a (by simp [getR]))
theorem let_small (id : Int) (s : List UInt8) (hs : s.length ≤ 20) : (putsB [letP id s]).length ≤ 100 := by
  have := putsB_small [letP id s] (by intro x hx; simp at hx; subst hx; exact ⟨by show (lettersB s).length ≤ _; rw [lettersB_len]; exact hs, by show ([] : List UInt8).length ≤ _; simp⟩)
  simpa using this
theorem pbFlags_qos (p : Pb) (hq : p.qos < 3) : pbFlags p / 2 % 4 = p.qos ∧ decide (pbFlags p / 8 % 2 = 1) = p.dup ∧ decide (pbFlags p % 2 = 1) = p.ret ∧ pbFlags p < 16 := by
  obtain ⟨dup, ret, q, id, l, t, y⟩ := p
  dsimp only at hq
  unfold pbFlags
  dsimp only
  have : q = 0 ∨ q = 1 ∨ q = 2 := by omega
  rcases this with rfl | rfl | rfl <;> cases dup <;> cases ret <;> simp
theorem pbFlags_chk (p : Pb) (hq : p.qos < 3) (hd : p.dup = true → 0 < p.qos) : chkE 3 (pbFlags p : Nat) = 0 := by
  obtain ⟨dup, ret, q, id, l, t, y⟩ := p
  dsimp only at hq hd
  unfold pbFlags
  dsimp only
  have : q = 0 ∨ q = 1 ∨ q = 2 := by omega
  rcases this with rfl | rfl | rfl <;> cases dup <;> cases ret <;> first | exact absurd (hd rfl) (by decide) | (show chkE 3 _ = 0; simp; decide)
theorem pb_back (p : Pb) (t : List UInt8) (hq : p.qos < 3) (ht : p.topic = lettersB t) (hl : t.length ≤ 65535) (h0 : p.qos = 0 → p.id = 0) (h1 : 0 < p.qos → p.id ≠ 0 ∧ p.id < 65536) (hp : OkL 3 false p.props) (hb : (putsB p.props).length ≤ 268435455) : pbParse (pbFlags p) (pbText p) = (p, 0) := by
  obtain ⟨f1, f2, f3, _⟩ := pbFlags_qos p hq
  obtain ⟨dup, ret, q, id, l, tp, y⟩ := p
  dsimp only at hq ht h0 h1 hp hb f1 f2 f3
  subst ht
  have ht : pbText ⟨dup, ret, q, id, l, lettersB t, y⟩ = dataB (lettersB t) ++ ((if 0 < q then two id else []) ++ (propsB l ++ y)) := rfl
  have hs := str_lets t ((if 0 < q then two id else []) ++ (propsB l ++ y)) hl
  have hi : pbId q ⟨(if 0 < q then two id else []) ++ (propsB l ++ y), 0⟩ = (id, ⟨propsB l ++ y, 0⟩) := by
    unfold pbId
    by_cases h : 0 < q
    · rw [if_pos h, if_pos h, ident_back id (h1 h).1 (h1 h).2]
    · rw [if_neg h, if_neg h, h0 (by omega), List.nil_append]
  have hr : pbRest q (pbText ⟨dup, ret, q, id, l, lettersB t, y⟩) = (l, ⟨y, 0⟩) := by
    unfold pbRest
    rw [ht, hs]
    dsimp only
    rw [hi]
    dsimp only
    unfold propsB
    rw [List.append_assoc, back_ok hp hb]
  have he : pbE q (pbText ⟨dup, ret, q, id, l, lettersB t, y⟩) = 0 := by
    unfold pbE
    rw [hr]
    unfold pbEnd
    rw [Rd.raw_ok _ _ rfl (Nat.le_refl _), List.drop_length]
    rfl
  unfold pbParse
  rw [f1, if_pos he, hr, f2, f3, ht, hs]
  dsimp only
  rw [hi]
theorem code_back (c : Nat) (h : c < 256) (t : List UInt8) : Rd.num ⟨b8 c :: t, 0⟩ 1 = (c, ⟨t, 0⟩) := by
  rw [Rd.num, Rd.raw_ok _ _ rfl (by simp)]
  simp only [List.take_succ_cons, List.take_zero, List.drop_succ_cons, List.drop_zero, beN, List.foldl_cons, List.foldl_nil, b8_toNat]
  congr 1; omega
theorem ak_back (a : Ak) (h4 : 4 ≤ a.kind) (h7 : a.kind ≤ 7) (h0 : a.id ≠ 0) (h1 : a.id < 65536) (hc : a.code < 256) (hm : mayC a.kind a.code = true) (hp : OkL a.kind false a.props) (hb : (putsB a.props).length < 128) : akParse a.kind (akText a) = (a, 0) := by
  obtain ⟨k, n, c, l⟩ := a
  dsimp only at *
  have hmc : ∀ r, akMay k (c, r) = r := fun r => by unfold akMay; rw [if_pos hm]
  by_cases hl : l = []
  · subst hl
    by_cases hc0 : c = 0
    · subst hc0
      rw [show akText ⟨k, n, 0, []⟩ = two n from by simp [akText]]
      exact short_none k h4 h7 n h0 h1
    · rw [show akText ⟨k, n, c, []⟩ = two n ++ [b8 c] from by simp [akText, hc0]]
      have h2 : akCode ⟨[b8 c], 0⟩ = (c, ⟨[], 0⟩) := by
        unfold akCode
        rw [if_neg (by simp), code_back c hc]
      unfold akParse akE
      rw [if_neg (by omega), ident_back n h0 h1]
      dsimp only
      rw [h2, hmc]
      rfl
  · rw [show akText ⟨k, n, c, l⟩ = two n ++ (b8 c :: (var (putsB l).length ++ (putsB l ++ []))) from by simp [akText, hl, propsB]]
    have h2 : akCode ⟨b8 c :: (var (putsB l).length ++ (putsB l ++ [])), 0⟩ = (c, ⟨var (putsB l).length ++ (putsB l ++ []), 0⟩) := by
      unfold akCode
      rw [if_neg (by simp), code_back c hc]
    have h3 : akProps k ⟨var (putsB l).length ++ (putsB l ++ []), 0⟩ = (l, ⟨[], 0⟩) := by
      unfold akProps
      rw [if_neg (var_ne _ (by omega) _), back_ok hp (by omega)]
    unfold akParse akE
    rw [if_neg (by omega), ident_back n h0 h1]
    dsimp only
    rw [h2, hmc, h3]
    rfl
/-- The codes of an answer. -/
theorem codes_ne (k : Int) (h4 : 4 ≤ k) (h7 : k ≤ 7) : 0 < (codesB k).length ∧ (codesB k).length ≤ 9 := by
  have : k = 4 ∨ k = 5 ∨ k = 6 ∨ k = 7 := by omega
  rcases this with rfl | rfl | rfl | rfl <;> decide
theorem codes_may (k : Int) (i : Nat) (h : i < (codesB k).length) : mayC k ((codesB k)[i]).toNat = true := by
  unfold mayC
  rw [List.contains_iff_mem, show b8 ((codesB k)[i]).toNat = (codesB k)[i] from by unfold b8; simp]
  exact List.getElem_mem _
end Go.Proofs.Ytlhkgalmiajinaa
