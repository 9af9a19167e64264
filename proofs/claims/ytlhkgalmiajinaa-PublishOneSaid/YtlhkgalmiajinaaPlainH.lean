/- Plain laws: a list of properties that may be there is put and taken again; what may not be there is told. No condition. -/
import Derived.Test.YtlhkgalmiajinaaPlainG
import Derived.Test.YtlhkgalmiajinaaPlainC
import Derived.Test.YtlhkgalmiajinaaPropJ
namespace Go.Proofs.Ytlhkgalmiajinaa

def lettersB (s : List UInt8) : List UInt8 := s.map fun c => b8 (97 + c.toNat % 26)
theorem lettersB_len (s : List UInt8) : (lettersB s).length = s.length := by simp [lettersB]
theorem good_letters (s : List UInt8) : good.goodN s.length (lettersB s) = true := by
  induction s with
  | nil => rfl
  | cons c s ih =>
    have h1 : (b8 (97 + c.toNat % 26)).toNat = 97 + c.toNat % 26 := by rw [b8_toNat]; omega
    have hs : sign (lettersB (c :: s)) = (97 + c.toNat % 26, 1) := by
      have e : lettersB (c :: s) = b8 (97 + c.toNat % 26) :: lettersB s := rfl
      rw [e, sign, if_neg (by simp), if_pos (by rw [List.getD_cons_zero, h1]; omega), List.getD_cons_zero, h1]
    rw [List.length_cons, good.goodN, hs]
    dsimp only
    have e : (lettersB (c :: s)).drop 1 = lettersB s := rfl
    rw [e, ih]
    have h2 : (97 + c.toNat % 26 == 0) = false := by simp
    rw [h2]; simp
theorem good_lets (s : List UInt8) (h : s.length ≤ 65535) : good (lettersB s) = true := by
  rw [good_small _ (by rw [lettersB_len]; exact h), lettersB_len, good_letters]
theorem str_lets (s t : List UInt8) (h : s.length ≤ 65535) : Rd.str ⟨dataB (lettersB s) ++ t, 0⟩ = (lettersB s, ⟨t, 0⟩) := by
  have e : (lettersB s).take 65535 = lettersB s := List.take_of_length_le (by rw [lettersB_len]; exact h)
  rw [Rd.str, data_back, e]
  dsimp only
  rw [if_pos (good_lets s h)]
theorem pair_lets (s u t : List UInt8) (h : s.length ≤ 65535) (hu : u.length ≤ 65535) : Rd.pair ⟨dataB (lettersB s) ++ (dataB (lettersB u) ++ t), 0⟩ = ((lettersB s, lettersB u), ⟨t, 0⟩) := by
  rw [Rd.pair, str_lets s _ h]
  dsimp only
  rw [str_lets u _ hu, if_pos rfl]
/-- A property as 'right' makes it. -/
def rightN (k : Int) (n : Nat) : Nat := if k = 1 then n % 2 else if k = 2 then 1 + n % 65535 else if k = 3 ∨ k = 4 then 1 + n % 100000000 else 0
def rightS (k : Int) (s : List UInt8) : List UInt8 := if k = 1 ∨ k = 2 ∨ k = 3 ∨ k = 4 then [] else if k = 6 then s else lettersB s
def rightT (k : Int) (t : List UInt8) : List UInt8 := if k = 7 then lettersB t else []
def rightP (x : Pr) : Pr := ⟨x.id, rightN (ruleOf x.id).kind x.n, rightS (ruleOf x.id).kind x.s, rightT (ruleOf x.id).kind x.t⟩
/-- What is said so is taken so. -/
def Say (x : Pr) : Prop := ∀ t, valR (ruleOf x.id) x.id ⟨sayB (ruleOf x.id).kind x ++ t, 0⟩ = (x, ⟨t, 0⟩)
theorem bad_right (id : Int) (n : Nat) (h1 : 1 ≤ (ruleOf id).kind) (h4 : (ruleOf id).kind ≤ 4) : fits (ruleOf id).kind (rightN (ruleOf id).kind n) ∧ badN (ruleOf id) (rightN (ruleOf id).kind n) = false := by
  have hf : fits (ruleOf id).kind (rightN (ruleOf id).kind n) := by
    unfold rightN
    refine ⟨fun h => ?_, fun h => ?_, fun h => ?_, fun h => ?_⟩
    · rw [if_pos h]; omega
    · rw [if_neg (by omega), if_pos h]; omega
    · rw [if_neg (by omega), if_neg (by omega), if_pos (Or.inl h)]; omega
    · rw [if_neg (by omega), if_neg (by omega), if_pos (Or.inr h)]; omega
  refine ⟨hf, ?_⟩
  rw [bad_num id _ h1 h4 hf]
  have hk : (ruleOf id).kind = 1 ∨ (ruleOf id).kind = 2 ∨ (ruleOf id).kind = 3 ∨ (ruleOf id).kind = 4 := by omega
  have h11 : (ruleOf id).kind = 1 → id ≠ 11 ∧ id ≠ 33 ∧ id ≠ 39 := by
    intro hk
    refine ⟨?_, ?_, ?_⟩ <;> (rintro rfl; revert hk; decide)
  unfold rightN
  rcases hk with hk | hk | hk | hk
  · obtain ⟨i1, i2, i3⟩ := h11 hk
    rw [if_pos hk]
    have : ¬ (1 < n % 2) := by omega
    simp [this, i1, i2, i3]
  · rw [if_neg (by omega), if_pos hk]
    simp [hk]
  · rw [if_neg (by omega), if_neg (by omega), if_pos (Or.inl hk)]
    simp [hk]
  · rw [if_neg (by omega), if_neg (by omega), if_pos (Or.inr hk)]
    simp [hk]
theorem say_right (x : Pr) (h1 : 1 ≤ (ruleOf x.id).kind) (hs : x.s.length ≤ 65535) (ht : x.t.length ≤ 65535) : Say (rightP x) := by
  intro t
  obtain ⟨_, _, h7, _⟩ := ruleOf_cases x.id
  by_cases h4 : (ruleOf x.id).kind ≤ 4
  · obtain ⟨hf, hb⟩ := bad_right x.id x.n h1 h4
    have e : rightP x = ⟨x.id, rightN (ruleOf x.id).kind x.n, [], []⟩ := by
      unfold rightP rightS rightT
      rw [if_pos (by omega), if_neg (by omega)]
    rw [e]
    have := val_num x.id _ t h1 h4 hf
    dsimp only at this ⊢
    rw [this, chkR, if_neg (by rintro ⟨_, h⟩; exact absurd hb (by simp only [badN]; simp [h]))]
  · have hk : (ruleOf x.id).kind = 5 ∨ (ruleOf x.id).kind = 6 ∨ (ruleOf x.id).kind = 7 := by omega
    unfold rightP valR sayB
    dsimp only
    rcases hk with hk | hk | hk
    · simp only [hk, rightN, rightS, rightT]
      simp [str_lets x.s t hs]
    · simp only [hk, rightN, rightS, rightT]
      simp [data_back]
      exact List.take_of_length_le hs
    · simp only [hk, rightN, rightS, rightT]
      simp [pair_lets x.s x.t t hs ht]
/-- Properties that may be there, one behind the other. -/
inductive OkL (kind : Int) (isWill : Bool) : List Pr → Prop where
  | nil : OkL kind isWill []
  | snoc (l : List Pr) (x : Pr) : OkL kind isWill l → Say x → 1 ≤ (ruleOf x.id).kind → mayB x.id kind isWill = true → ¬ ((getR l x.id).2 = true ∧ manyB x.id kind isWill = false) → OkL kind isWill (l ++ [x])
theorem oneB_pos (x : Pr) (h : (ruleOf x.id).kind ≠ 0) : 0 < (oneB x).length := by
  obtain ⟨i1, i2⟩ := kind_id x.id h
  have := var_ne x.id.toNat (by omega) []
  rw [List.append_nil] at this
  have := List.length_pos_iff.2 this
  rw [oneB, List.length_append]; omega
theorem ok_len {kind : Int} {isWill : Bool} {l : List Pr} (h : OkL kind isWill l) : l.length ≤ (putsB l).length := by
  induction h with
  | nil => simp
  | snoc l x hl hs h1 hm hd ih =>
    have := oneB_pos x (by omega)
    rw [putsB_snoc, if_pos (by omega), List.length_append, List.length_append]
    simp; omega
theorem ok_go {kind : Int} {isWill : Bool} {l : List Pr} (h : OkL kind isWill l) : ∀ (m : Nat) (t : List UInt8), l.length ≤ m → propsGo kind isWill m ⟨putsB l ++ t, 0⟩ [] = propsGo kind isWill (m - l.length) ⟨t, 0⟩ l := by
  induction h with
  | nil => intro m t _; rfl
  | snoc l x hl hs h1 hm hd ih =>
    intro m t hlm
    obtain ⟨i1, i2⟩ := kind_id x.id (by omega)
    rw [List.length_append, List.length_singleton] at hlm ⊢
    rw [putsB_snoc, if_pos (by omega), List.append_assoc, ih m (oneB x ++ t) (by omega)]
    obtain ⟨k, hk⟩ : ∃ k, m - l.length = k + 1 := ⟨m - l.length - 1, by omega⟩
    rw [hk, props_step kind isWill x k t l i1 i2 hm hd, hs t, show m - (l.length + 1) = k from by omega]
theorem back_ok {kind : Int} {isWill : Bool} {l : List Pr} (h : OkL kind isWill l) (hl : (putsB l).length ≤ 268435455) (t : List UInt8) : takeP ⟨var (putsB l).length ++ (putsB l ++ t), 0⟩ kind isWill = (l, ⟨t, 0⟩) := by
  have h1 := ok_go h (putsB l).length [] (ok_len h)
  rw [List.append_nil, props_end] at h1
  rw [takeP_of kind isWill _ t hl, h1]
  simp
/-- The properties that 'right' makes. -/
def keepB (kind : Int) (isWill : Bool) (l : List Pr) (x : Pr) : Bool := mayB x.id kind isWill && !((getR l x.id).2 && decide (x.id ≠ 38))
def rightGo (kind : Int) (isWill : Bool) (l : List Pr) : List Pr := l.foldl (fun a x => if keepB kind isWill a x = true then a ++ [rightP x] else a) []
theorem rightGo_snoc (kind : Int) (isWill : Bool) (l : List Pr) (k : Nat) (h : k < l.length) : rightGo kind isWill (l.take (k + 1)) = if keepB kind isWill (rightGo kind isWill (l.take k)) l[k] = true then rightGo kind isWill (l.take k) ++ [rightP l[k]] else rightGo kind isWill (l.take k) := by
  rw [List.take_succ_eq_append_getElem h, rightGo, List.foldl_append]; rfl
theorem may_kind (id kind : Int) (isWill : Bool) (h : mayB id kind isWill = true) : 1 ≤ (ruleOf id).kind := by
  unfold mayB at h
  unfold ruleOf at h ⊢
  by_cases h1 : id = 1
  · simp only [if_pos h1]; decide
  simp only [if_neg h1] at h ⊢
  by_cases h2 : id = 2
  · simp only [if_pos h2]; decide
  simp only [if_neg h2] at h ⊢
  by_cases h3 : id = 3
  · simp only [if_pos h3]; decide
  simp only [if_neg h3] at h ⊢
  by_cases h8 : id = 8
  · simp only [if_pos h8]; decide
  simp only [if_neg h8] at h ⊢
  by_cases h9 : id = 9
  · simp only [if_pos h9]; decide
  simp only [if_neg h9] at h ⊢
  by_cases h11 : id = 11
  · simp only [if_pos h11]; decide
  simp only [if_neg h11] at h ⊢
  by_cases h17 : id = 17
  · simp only [if_pos h17]; decide
  simp only [if_neg h17] at h ⊢
  by_cases h18 : id = 18
  · simp only [if_pos h18]; decide
  simp only [if_neg h18] at h ⊢
  by_cases h19 : id = 19
  · simp only [if_pos h19]; decide
  simp only [if_neg h19] at h ⊢
  by_cases h21 : id = 21
  · simp only [if_pos h21]; decide
  simp only [if_neg h21] at h ⊢
  by_cases h22 : id = 22
  · simp only [if_pos h22]; decide
  simp only [if_neg h22] at h ⊢
  by_cases h23 : id = 23
  · simp only [if_pos h23]; decide
  simp only [if_neg h23] at h ⊢
  by_cases h25 : id = 25
  · simp only [if_pos h25]; decide
  simp only [if_neg h25] at h ⊢
  by_cases h24 : id = 24
  · simp only [if_pos h24]; decide
  simp only [if_neg h24] at h ⊢
  by_cases h26 : id = 26
  · simp only [if_pos h26]; decide
  simp only [if_neg h26] at h ⊢
  by_cases h28 : id = 28
  · simp only [if_pos h28]; decide
  simp only [if_neg h28] at h ⊢
  by_cases h31 : id = 31
  · simp only [if_pos h31]; decide
  simp only [if_neg h31] at h ⊢
  by_cases h33 : id = 33
  · simp only [if_pos h33]; decide
  simp only [if_neg h33] at h ⊢
  by_cases h34 : id = 34
  · simp only [if_pos h34]; decide
  simp only [if_neg h34] at h ⊢
  by_cases h35 : id = 35
  · simp only [if_pos h35]; decide
  simp only [if_neg h35] at h ⊢
  by_cases h36 : id = 36
  · simp only [if_pos h36]; decide
  simp only [if_neg h36] at h ⊢
  by_cases h37 : id = 37
  · simp only [if_pos h37]; decide
  simp only [if_neg h37] at h ⊢
  by_cases h40 : id = 40
  · simp only [if_pos h40]; decide
  simp only [if_neg h40] at h ⊢
  by_cases h41 : id = 41
  · simp only [if_pos h41]; decide
  simp only [if_neg h41] at h ⊢
  by_cases h42 : id = 42
  · simp only [if_pos h42]; decide
  simp only [if_neg h42] at h ⊢
  by_cases h38 : id = 38
  · simp only [if_pos h38]; decide
  simp only [if_neg h38] at h ⊢
  by_cases h39 : id = 39
  · simp only [if_pos h39]; decide
  simp only [if_neg h39] at h ⊢
  rw [zero_and] at h
  exact absurd h (by decide)
theorem rightGo_len (kind : Int) (isWill : Bool) (l : List Pr) : (rightGo kind isWill l).length ≤ l.length := by
  have h : ∀ (l a : List Pr), (l.foldl (fun a x => if keepB kind isWill a x = true then a ++ [rightP x] else a) a).length ≤ a.length + l.length := by
    intro l
    induction l with
    | nil => intro a; simp
    | cons x l ih =>
      intro a
      have := ih (if keepB kind isWill a x = true then a ++ [rightP x] else a)
      rw [List.foldl_cons, List.length_cons]
      split at this <;> rename_i hk
      · rw [if_pos hk]; rw [List.length_append, List.length_singleton] at this; omega
      · rw [if_neg hk]; omega
  have := h l []
  simpa [rightGo] using this
theorem rightGo_mem (kind : Int) (isWill : Bool) (l : List Pr) : ∀ x ∈ rightGo kind isWill l, ∃ y ∈ l, x = rightP y := by
  have h : ∀ (l a : List Pr), ∀ x ∈ l.foldl (fun a x => if keepB kind isWill a x = true then a ++ [rightP x] else a) a, x ∈ a ∨ ∃ y ∈ l, x = rightP y := by
    intro l
    induction l with
    | nil => intro a x hx; exact Or.inl hx
    | cons z l ih =>
      intro a x hx
      rw [List.foldl_cons] at hx
      rcases ih _ x hx with hx | ⟨y, hy, e⟩
      · split at hx
        · rcases List.mem_append.1 hx with hx | hx
          · exact Or.inl hx
          · simp at hx; exact Or.inr ⟨z, by simp, hx⟩
        · exact Or.inl hx
      · exact Or.inr ⟨y, by simp [hy], e⟩
  intro x hx
  rcases h l [] x hx with hx | hx
  · simp at hx
  · exact hx
theorem rightP_small (x : Pr) (hs : x.s.length ≤ 20) (ht : x.t.length ≤ 20) : (rightP x).n < 4294967296 ∧ (rightP x).s.length ≤ 20 ∧ (rightP x).t.length ≤ 20 := by
  refine ⟨?_, ?_, ?_⟩
  · show rightN _ _ < _
    unfold rightN
    repeat' split
    all_goals omega
  · show (rightS _ _).length ≤ _
    unfold rightS
    split
    · simp
    · split
      · exact hs
      · rw [lettersB_len]; exact hs
  · show (rightT _ _).length ≤ _
    unfold rightT
    split
    · rw [lettersB_len]; exact ht
    · simp
theorem oneB_small (x : Pr) (hs : x.s.length ≤ 20) (ht : x.t.length ≤ 20) : (oneB x).length ≤ 100 := by
  have v1 := varB_len' x.id.toNat
  have v2 := varB_len' x.n
  have d : ∀ s : List UInt8, s.length ≤ 20 → (dataB s).length ≤ 22 := fun s h => by
    have := List.length_take_le' 65535 s
    simp only [dataB, two, List.length_append, List.length_cons, List.length_nil]; omega
  have d1 := d x.s hs
  have d2 := d x.t ht
  have hs : (sayB (ruleOf x.id).kind x).length ≤ 50 := by
    unfold sayB
    split
    · simp
    split
    · simp [two]
    split
    · simp [four, two]
    split
    · omega
    split
    · omega
    split
    · rw [List.length_append]; omega
    · simp
  rw [oneB, List.length_append]; omega
theorem putsB_small (l : List Pr) (h : ∀ x ∈ l, x.s.length ≤ 20 ∧ x.t.length ≤ 20) : (putsB l).length ≤ 100 * l.length := by
  induction l with
  | nil => simp [putsB]
  | cons x l ih =>
    have h1 := oneB_small x (h x (by simp)).1 (h x (by simp)).2
    have h2 := ih (fun y hy => h y (by simp [hy]))
    rw [putsB] at h2 ⊢
    rw [List.flatMap_cons, List.length_append, List.length_cons]
    split
    · omega
    · rw [List.length_nil]; omega
theorem right_ok (kind : Int) (isWill : Bool) (l : List Pr) (h : ∀ x ∈ l, x.s.length ≤ 65535 ∧ x.t.length ≤ 65535) : ∀ k, k ≤ l.length → OkL kind isWill (rightGo kind isWill (l.take k)) ∧ (rightGo kind isWill (l.take k)).length ≤ k
  | 0, _ => ⟨OkL.nil, Nat.zero_le _⟩
  | k + 1, hk => by
    obtain ⟨ih, ihl⟩ := right_ok kind isWill l h k (by omega)
    rw [rightGo_snoc kind isWill l k (by omega)]
    by_cases hb : keepB kind isWill (rightGo kind isWill (l.take k)) l[k] = true
    · rw [if_pos hb]
      refine ⟨?_, by simp; omega⟩
      simp only [keepB, Bool.and_eq_true, Bool.not_eq_true', Bool.and_eq_false_iff, decide_eq_false_iff_not, Decidable.not_not] at hb
      obtain ⟨hm, hd⟩ := hb
      have h1 := may_kind _ _ _ hm
      obtain ⟨hs, ht⟩ := h l[k] (List.getElem_mem _)
      refine OkL.snoc _ _ ih (say_right _ h1 hs ht) h1 hm ?_
      rintro ⟨a, b⟩
      rcases hd with hd | hd
      · rw [show (rightP l[k]).id = l[k].id from rfl, hd] at a; exact absurd a (by decide)
      · rw [show (rightP l[k]).id = l[k].id from rfl, (may_eq _ kind isWill).2 hm] at b
        simp [hd] at b
    · rw [if_neg hb]
      exact ⟨ih, by omega⟩
/-- What may not be there, behind properties that may. -/
theorem else_form {kind : Int} {isWill : Bool} {l : List Pr} (h : OkL kind isWill l) (p : Pr) (hk : (ruleOf p.id).kind ≠ 0) (hm : mayB p.id kind isWill = false) (hl : (putsB (l ++ [p])).length ≤ 268435455) (t : List UInt8) :
    takeP ⟨var (putsB (l ++ [p])).length ++ (putsB (l ++ [p]) ++ t), 0⟩ kind isWill = ([], ⟨t, 2⟩) := by
  obtain ⟨i1, i2⟩ := kind_id p.id hk
  obtain ⟨_, _, _, h0, _⟩ := ruleOf_cases p.id
  have hp := oneB_pos p hk
  have hL := ok_len h
  have e : putsB (l ++ [p]) = putsB l ++ oneB p := by rw [putsB_snoc, if_pos (by omega)]
  have hB : (putsB (l ++ [p])).length = (putsB l).length + (oneB p).length := by rw [e, List.length_append]
  have h1 := ok_go h (putsB (l ++ [p])).length (oneB p) (by omega)
  obtain ⟨k, hk'⟩ : ∃ k, (putsB (l ++ [p])).length - l.length = k + 1 := ⟨(putsB (l ++ [p])).length - l.length - 1, by omega⟩
  have hid : ((p.id.toNat : Nat) : Int) = p.id := Int.toNat_of_nonneg (by omega)
  have hv := var_back p.id.toNat (sayB (ruleOf p.id).kind p) (by omega)
  have hne := var_ne p.id.toNat (by omega) (sayB (ruleOf p.id).kind p)
  rw [← e, hk', propsGo, oneB, hv, if_neg (by simp [hne])] at h1
  dsimp only at h1
  rw [hid, if_neg (by simp), if_pos hm] at h1
  rw [takeP_of kind isWill _ t hl, h1]
  simp
theorem else_twice {kind : Int} {isWill : Bool} {l : List Pr} (h : OkL kind isWill l) (p : Pr) (hm : mayB p.id kind isWill = true) (ht : (getR l p.id).2 = true) (h38 : p.id ≠ 38) (h11 : p.id ≠ 11) (hl : (putsB (l ++ [p])).length ≤ 268435455) (t : List UInt8) :
    takeP ⟨var (putsB (l ++ [p])).length ++ (putsB (l ++ [p]) ++ t), 0⟩ kind isWill = ([], ⟨t, 3⟩) := by
  have hk1 := may_kind _ _ _ hm
  have hk : (ruleOf p.id).kind ≠ 0 := by omega
  obtain ⟨i1, i2⟩ := kind_id p.id hk
  have hp := oneB_pos p hk
  have hL := ok_len h
  have hmany : manyB p.id kind isWill = false := by rw [(may_eq _ kind isWill).2 hm]; simp [h38, h11]
  have e : putsB (l ++ [p]) = putsB l ++ oneB p := by rw [putsB_snoc, if_pos (by omega)]
  have hB : (putsB (l ++ [p])).length = (putsB l).length + (oneB p).length := by rw [e, List.length_append]
  have h1 := ok_go h (putsB (l ++ [p])).length (oneB p) (by omega)
  obtain ⟨k, hk'⟩ : ∃ k, (putsB (l ++ [p])).length - l.length = k + 1 := ⟨(putsB (l ++ [p])).length - l.length - 1, by omega⟩
  have hid : ((p.id.toNat : Nat) : Int) = p.id := Int.toNat_of_nonneg (by omega)
  have hv := var_back p.id.toNat (sayB (ruleOf p.id).kind p) (by omega)
  have hne := var_ne p.id.toNat (by omega) (sayB (ruleOf p.id).kind p)
  rw [← e, hk', propsGo, oneB, hv, if_neg (by simp [hne])] at h1
  dsimp only at h1
  rw [hid, if_neg (by simp), if_neg (by simp [hm]), if_pos ⟨ht, hmany⟩] at h1
  rw [takeP_of kind isWill _ t hl, h1]
  simp
end Go.Proofs.Ytlhkgalmiajinaa
