/- The plain words of layers 1 and 2: what is put, what is taken; lists of bytes and numbers alone, no program. No condition. -/
import Derived.Below
namespace Go.Proofs.Ythioageiebchlaa

def b8 (n : Nat) : UInt8 := UInt8.ofNat n
def two (n : Nat) : List UInt8 := [b8 (n / 256), b8 n]
def four (n : Nat) : List UInt8 := two (n / 65536) ++ two n
def vmin (n : Nat) : Nat := if n > 268435455 then 268435455 else n
/-- A variable byte integer, of at most k + 1 bytes. -/
def varB : Nat → Nat → List UInt8
  | 0, n => [b8 (n % 128)]
  | k + 1, n => if n < 128 then [b8 n] else b8 (n % 128 + 128) :: varB k (n / 128)
def var (n : Nat) : List UInt8 := varB 3 (vmin n)
theorem varB_last' (j n : Nat) (h : n < 128) : varB j n = [b8 n] := by
  cases j with
  | zero => rw [varB, Nat.mod_eq_of_lt h]
  | succ j => rw [varB, if_pos h]
theorem varB_on' (j n : Nat) (h : 128 ≤ n) : varB (j + 1) n = b8 (n % 128 + 128) :: varB j (n / 128) := by
  rw [varB, if_neg (by omega)]
theorem varB_len' (n : Nat) : (var n).length ≤ 4 := by
  have h : ∀ k n, (varB k n).length ≤ k + 1 := by
    intro k
    induction k with
    | zero => intro n; simp [varB]
    | succ k ih =>
      intro n
      by_cases h : n < 128
      · simp [varB, h]
      · have := ih (n / 128)
        simp [varB, h]; omega
  exact h 3 _
def dataB (s : List UInt8) : List UInt8 := two (s.take 65535).length ++ s.take 65535

theorem b8_eq {a b : Nat} (h : a % 256 = b % 256) : b8 a = b8 b := by
  apply UInt8.toNat.inj; simpa [b8] using h
theorem b8_toNat (n : Nat) : (b8 n).toNat = n % 256 := by simp [b8]
theorem b8_of (c : UInt8) : b8 c.toNat = c := by simp [b8]
theorem map_b8 (l : List UInt8) : (l.map fun c => b8 c.toNat) = l := by
  induction l with
  | nil => rfl
  | cons c l ih => rw [List.map_cons, ih, b8_of]
/-- A number out of bytes, the higher first. -/
def beN (l : List UInt8) : Nat := l.foldl (fun v c => v * 256 + c.toNat) 0

/-- What is left, and the first error. -/
structure Rd where
  s : List UInt8
  e : Int

def Rd.fail (r : Rd) (x : Int) : Rd := if r.e = 0 then ⟨r.s, x⟩ else r
def Rd.raw (r : Rd) (n : Nat) : List UInt8 × Rd :=
  if r.e ≠ 0 then ([], r) else if n > r.s.length then ([], ⟨r.s, 1⟩) else (r.s.take n, ⟨r.s.drop n, 0⟩)
def Rd.num (r : Rd) (n : Nat) : Nat × Rd := (beN (r.raw n).1, (r.raw n).2)
def Rd.data (r : Rd) : List UInt8 × Rd := (r.num 2).2.raw (r.num 2).1
/-- A variable byte integer; j more bytes may come behind this one; u what this one's unit is; v what came. -/
def Rd.varGo (u v : Nat) : Nat → Rd → Nat × Rd
  | j, r =>
    let c := (r.num 1).1
    let q := (r.num 1).2
    if q.e ≠ 0 then (0, q)
    else if c < 128 then if c = 0 ∧ u > 1 then (0, ⟨q.s, 2⟩) else (v + c * u, q)
    else match j with
      | 0 => (0, ⟨q.s, 2⟩)
      | j + 1 => Rd.varGo (u * 128) (v + c % 128 * u) j q
def Rd.var (r : Rd) : Nat × Rd := Rd.varGo 1 0 3 r
def Rd.ends (r : Rd) : Int := if r.e = 1 ∨ r.e = 0 ∧ r.s ≠ [] then 2 else r.e

theorem beN_lt (l : List UInt8) : beN l < 256 ^ l.length := by
  have h : ∀ (l : List UInt8) (v : Nat), l.foldl (fun v c => v * 256 + c.toNat) v < (v + 1) * 256 ^ l.length := by
    intro l
    induction l with
    | nil => intro v; simp
    | cons c l ih =>
      intro v
      have h1 := ih (v * 256 + c.toNat)
      have hc : c.toNat < 256 := c.toNat_lt
      have h2 : (v * 256 + c.toNat + 1) * 256 ^ l.length ≤ ((v + 1) * 256) * 256 ^ l.length := Nat.mul_le_mul_right _ (by omega)
      simp only [List.foldl_cons, List.length_cons, Nat.pow_succ]
      have h3 : (v + 1) * (256 ^ l.length * 256) = ((v + 1) * 256) * 256 ^ l.length := by rw [Nat.mul_assoc, Nat.mul_comm 256]
      omega
  have := h l 0
  simpa [beN] using this

theorem beN_snoc (l : List UInt8) (k : Nat) (h : k < l.length) : beN (l.take (k + 1)) = beN (l.take k) * 256 + l[k].toNat := by
  rw [List.take_succ_eq_append_getElem h]
  unfold beN
  rw [List.foldl_append]
  rfl
theorem Rd.raw_bad (r : Rd) (n : Nat) (h : r.e ≠ 0) : r.raw n = ([], r) := by rw [Rd.raw, if_pos h]
theorem Rd.raw_end (r : Rd) (n : Nat) (h : r.e = 0) (hn : r.s.length < n) : r.raw n = ([], ⟨r.s, 1⟩) := by rw [Rd.raw, if_neg (by simpa using h), if_pos hn]
theorem Rd.raw_ok (r : Rd) (n : Nat) (h : r.e = 0) (hn : n ≤ r.s.length) : r.raw n = (r.s.take n, ⟨r.s.drop n, 0⟩) := by rw [Rd.raw, if_neg (by simpa using h), if_neg (by omega)]
theorem Rd.raw_len (r : Rd) (n : Nat) : (r.raw n).1.length ≤ n := by
  unfold Rd.raw
  split
  · simp
  · split
    · simp
    · simp; omega
theorem Rd.raw_le (r : Rd) (n : Nat) : (r.raw n).1.length ≤ r.s.length := by
  unfold Rd.raw
  split
  · simp
  · split
    · simp
    · simp; omega
theorem Rd.raw_left (r : Rd) (n : Nat) : (r.raw n).2.s.length ≤ r.s.length := by
  unfold Rd.raw
  split
  · simp
  · split <;> simp
theorem Rd.num_lt (r : Rd) (n : Nat) : (r.num n).1 < 256 ^ n := by
  refine Nat.lt_of_lt_of_le (beN_lt _) ?_
  exact Nat.pow_le_pow_right (by omega) (r.raw_len n)
/-! ### Signs -/
/-- The value of a sign's later bytes. -/
def dv (v : Nat) (l : List UInt8) : Nat := l.foldl (fun v c => v * 64 + c.toNat % 64) v
def conts (l : List UInt8) : Prop := ∀ c ∈ l, c.toNat / 64 = 2
instance (l : List UInt8) : Decidable (conts l) := by unfold conts; infer_instance
/-- How many bytes a sign has that begins so. -/
def slen (c : Nat) : Nat := if c < 128 then 1 else if c / 32 = 6 then 2 else if c / 16 = 14 then 3 else if c / 8 = 30 then 4 else 0
def least (n : Nat) : Nat := if n = 2 then 128 else if n = 3 then 2048 else if n = 4 then 65536 else 0
def okv (n v : Nat) : Prop := least n ≤ v ∧ v ≤ 1114111 ∧ (v < 55296 ∨ 57343 < v)
instance (n v : Nat) : Decidable (okv n v) := by unfold okv; infer_instance
def sval (n : Nat) (s : List UInt8) : Nat := dv ((s.getD 0 0).toNat % 2 ^ (7 - n)) ((s.take n).drop 1)
def sign (s : List UInt8) : Nat × Nat :=
  if s = [] then (0, 0)
  else if (s.getD 0 0).toNat < 128 then ((s.getD 0 0).toNat, 1)
  else
    let n := slen (s.getD 0 0).toNat
    if n ≠ 0 ∧ n ≤ s.length ∧ conts ((s.take n).drop 1) ∧ okv n (sval n s) then (sval n s, n) else (0, 0)
/-- A text as signs, as far as they go: how many (j: at most). -/
def signsN : Nat → List UInt8 → Nat
  | 0, _ => 0
  | j + 1, s => if (sign s).2 = 0 then 0 else 1 + signsN j (s.drop (sign s).2)
def good.goodN : Nat → List UInt8 → Bool
  | 0, s => s.isEmpty
  | j + 1, s => s.isEmpty || (!((sign s).2 == 0) && !((sign s).1 == 0) && good.goodN j (s.drop (sign s).2))
def good (s : List UInt8) : Bool := decide (s.length ≤ 65535) && good.goodN s.length s
/-- A string is taken. -/
def Rd.str (r : Rd) : List UInt8 × Rd := if good r.data.1 then r.data else ([], r.data.2.fail 2)
end Go.Proofs.Ythioageiebchlaa
namespace Go.Proofs.Ythioageiebchlaa

theorem num1_cons (c : UInt8) (t : List UInt8) : Rd.num ⟨c :: t, 0⟩ 1 = (c.toNat, ⟨t, 0⟩) := by
  rw [Rd.num, Rd.raw_ok _ _ rfl (by simp)]; simp [beN]
theorem num1_nil : Rd.num ⟨[], 0⟩ 1 = (0, ⟨[], 1⟩) := by
  rw [Rd.num, Rd.raw_end _ _ rfl (by simp)]; simp [beN]
theorem varGo_cons (u v j : Nat) (c : UInt8) (t : List UInt8) : Rd.varGo u v j ⟨c :: t, 0⟩ =
    if c.toNat < 128 then if c.toNat = 0 ∧ u > 1 then (0, ⟨t, 2⟩) else (v + c.toNat * u, ⟨t, 0⟩)
    else match j with
      | 0 => (0, ⟨t, 2⟩)
      | j + 1 => Rd.varGo (u * 128) (v + c.toNat % 128 * u) j ⟨t, 0⟩ := by
  cases j <;> simp [Rd.varGo, num1_cons]
theorem varGo_nil (u v j : Nat) : Rd.varGo u v j ⟨[], 0⟩ = (0, ⟨[], 1⟩) := by
  cases j <;> simp [Rd.varGo, num1_nil]

theorem varGo_back (t : List UInt8) (j : Nat) : ∀ (u v n : Nat), n < 128 ^ (j + 1) → (n ≠ 0 ∨ u ≤ 1) → Rd.varGo u v j ⟨varB j n ++ t, 0⟩ = (v + n * u, ⟨t, 0⟩) := by
  induction j with
  | zero =>
    intro u v n hn h
    simp only [Nat.zero_add, Nat.pow_one] at hn
    rw [varB_last' 0 n hn, List.cons_append, varGo_cons, List.nil_append, b8_toNat, Nat.mod_eq_of_lt (by omega : n < 256), if_pos hn, if_neg (by omega)]
  | succ j ih =>
    intro u v n hn h
    by_cases hs : n < 128
    · rw [varB_last' _ n hs, List.cons_append, varGo_cons, List.nil_append, b8_toNat, Nat.mod_eq_of_lt (by omega : n < 256), if_pos hs, if_neg (by omega)]
    · rw [varB_on' _ n (by omega), List.cons_append, varGo_cons, b8_toNat, Nat.mod_eq_of_lt (by omega : n % 128 + 128 < 256), if_neg (by omega)]
      simp only []
      rw [ih (u * 128) _ (n / 128) (by rw [Nat.pow_succ] at hn; omega) (by left; omega)]
      have e1 : (n % 128 + 128) % 128 = n % 128 := by omega
      have e2 : n / 128 * (u * 128) = n / 128 * 128 * u := by rw [Nat.mul_comm u, Nat.mul_assoc]
      rw [e1, e2, Nat.add_assoc, ← Nat.add_mul, show n % 128 + n / 128 * 128 = n by omega]
theorem var_back (n : Nat) (t : List UInt8) (h : n ≤ 268435455) : Rd.var ⟨var n ++ t, 0⟩ = (n, ⟨t, 0⟩) := by
  rw [Rd.var, var, show vmin n = n from by unfold vmin; split <;> omega, varGo_back t 3 1 0 n (by omega) (by right; omega)]
  simp
theorem var_min (n : Nat) : var n = var (vmin n) := by
  rw [var, var]; congr 1; unfold vmin; split <;> (try split) <;> omega
theorem var_inj {m n : Nat} (hm : m ≤ 268435455) (hn : n ≤ 268435455) (h : var m = var n) : m = n := by
  have h1 := var_back m [] hm
  have h2 := var_back n [] hn
  rw [h, h2] at h1
  simp at h1; omega

theorem varGo_one (j : Nat) : ∀ (u v : Nat) (s : List UInt8) (x : Nat) (q : Rd), 0 < u → Rd.varGo u v j ⟨s, 0⟩ = (x, q) → q.e = 0 → ∃ n, s = varB j n ++ q.s ∧ x = v + n * u ∧ n < 128 ^ (j + 1) ∧ (n ≠ 0 ∨ u ≤ 1) := by
  induction j with
  | zero =>
    intro u v s x q hu h he
    cases s with
    | nil => rw [varGo_nil] at h; cases h; simp at he
    | cons c t =>
      rw [varGo_cons] at h
      split at h
      · split at h
        · cases h; simp at he
        · cases h
          refine ⟨c.toNat, ?_, rfl, by omega, by omega⟩
          rw [varB_last' 0 _ (by omega), b8_of]; rfl
      · cases h; simp at he
  | succ j ih =>
    intro u v s x q hu h he
    cases s with
    | nil => rw [varGo_nil] at h; cases h; simp at he
    | cons c t =>
      rw [varGo_cons] at h
      have hp : 128 ≤ 128 ^ (j + 1) := by
        have := Nat.pow_le_pow_right (n := 128) (by decide) (show 1 ≤ j + 1 by omega)
        omega
      have hc := c.toNat_lt
      split at h
      · split at h
        · cases h; simp at he
        · cases h
          refine ⟨c.toNat, ?_, rfl, by rw [Nat.pow_succ]; omega, by omega⟩
          rw [varB_last' _ _ (by omega), b8_of]; rfl
      · obtain ⟨n, h1, h2, h3, h4⟩ := ih _ _ _ _ _ (by omega) h he
        by_cases hn : n = 0
        · rcases h4 with h4 | h4
          · exact absurd hn h4
          · omega
        · refine ⟨c.toNat % 128 + 128 * n, ?_, ?_, ?_, by left; omega⟩
          · rw [varB_on' _ _ (by omega), show (c.toNat % 128 + 128 * n) / 128 = n by omega, h1]
            rw [b8_eq (show ((c.toNat % 128 + 128 * n) % 128 + 128) % 256 = c.toNat % 256 by omega), b8_of]; rfl
          · rw [h2, Nat.add_assoc]
            congr 1
            rw [Nat.add_mul]
            congr 1
            rw [Nat.mul_comm u, ← Nat.mul_assoc, Nat.mul_comm n]
          · rw [Nat.pow_succ]; omega
theorem var_one (s : List UInt8) (x : Nat) (q : Rd) (h : Rd.var ⟨s, 0⟩ = (x, q)) (he : q.e = 0) : s = var x ++ q.s ∧ x ≤ 268435455 := by
  obtain ⟨n, h1, h2, h3, _⟩ := varGo_one 3 1 0 s x q (by decide) h he
  have hn : n = x := by omega
  subst hn
  have : n < 268435456 := by omega
  refine ⟨?_, by omega⟩
  rw [var, show vmin n = n from by unfold vmin; split <;> omega]
  exact h1
theorem varGo_err (j : Nat) : ∀ (u v : Nat) (r : Rd), (Rd.varGo u v j r).2.e ≠ 0 → (Rd.varGo u v j r).1 = 0 := by
  induction j with
  | zero =>
    intro u v r
    rw [Rd.varGo]
    split
    · simp
    · split
      · split
        · simp
        · rename_i h _ _; intro h2; exact absurd h2 h
      · simp
  | succ j ih =>
    intro u v r
    rw [Rd.varGo.eq_def]
    simp only []
    split
    · simp
    · split
      · split
        · simp
        · rename_i h _ _; intro h2; exact absurd h2 h
      · exact ih _ _ _
theorem var_err (r : Rd) (h : r.var.2.e ≠ 0) : r.var.1 = 0 := varGo_err 3 1 0 r h
theorem varB_mono (j : Nat) : ∀ m n : Nat, m ≤ n → (varB j m).length ≤ (varB j n).length := by
  induction j with
  | zero => intro m n _; simp [varB]
  | succ j ih =>
    intro m n h
    by_cases hm : m < 128
    · rw [varB, if_pos hm]
      by_cases hn : n < 128
      · rw [varB, if_pos hn]; simp
      · rw [varB, if_neg hn]; simp
    · rw [varB, if_neg hm, varB, if_neg (by omega)]
      have := ih (m / 128) (n / 128) (Nat.div_le_div_right h)
      simp; omega
theorem var_mono (m n : Nat) (h : m ≤ n) : (var m).length ≤ (var n).length := by
  refine varB_mono 3 _ _ ?_
  unfold vmin; split <;> split <;> omega
theorem varB_len (j : Nat) : ∀ n, (varB j n).length ≤ j + 1 ∧ 0 < (varB j n).length := by
  induction j with
  | zero => intro n; simp [varB]
  | succ j ih =>
    intro n
    by_cases h : n < 128
    · rw [varB, if_pos h]; simp
    · rw [varB, if_neg h]
      have := ih (n / 128)
      simp; omega
theorem var_len4 (n : Nat) : (var n).length ≤ 4 := (varB_len 3 _).1
theorem two_back (n : Nat) (t : List UInt8) : Rd.num ⟨two n ++ t, 0⟩ 2 = (n % 65536, ⟨t, 0⟩) := by
  rw [Rd.num, Rd.raw_ok _ _ rfl (by simp [two])]
  simp only [two, List.cons_append, List.nil_append, List.take_succ_cons, List.take_zero, List.drop_succ_cons, List.drop_zero, beN, List.foldl_cons, List.foldl_nil, b8_toNat]
  congr 1; omega
theorem four_back (n : Nat) (t : List UInt8) : Rd.num ⟨four n ++ t, 0⟩ 4 = (n % 4294967296, ⟨t, 0⟩) := by
  rw [Rd.num, Rd.raw_ok _ _ rfl (by simp [four, two])]
  simp only [four, two, List.cons_append, List.nil_append, List.take_succ_cons, List.take_zero, List.drop_succ_cons, List.drop_zero, beN, List.foldl_cons, List.foldl_nil, b8_toNat]
  congr 1; omega
theorem raw_back (l t : List UInt8) : Rd.raw ⟨l ++ t, 0⟩ l.length = (l, ⟨t, 0⟩) := by
  rw [Rd.raw_ok _ _ rfl (by simp)]; simp
theorem data_back (s t : List UInt8) : Rd.data ⟨dataB s ++ t, 0⟩ = (s.take 65535, ⟨t, 0⟩) := by
  have hl : (s.take 65535).length % 65536 = (s.take 65535).length := Nat.mod_eq_of_lt (by simp; omega)
  rw [Rd.data, dataB, List.append_assoc, two_back, hl]
  exact raw_back _ _
theorem num_bad (r : Rd) (n : Nat) (h : r.e ≠ 0) : r.num n = (0, r) := by rw [Rd.num, Rd.raw_bad r n h]; rfl
theorem var_bad (r : Rd) (h : r.e ≠ 0) : r.var = (0, r) := by
  rw [Rd.var, Rd.varGo, num_bad r 1 h]
  exact if_pos h
theorem data_bad (r : Rd) (h : r.e ≠ 0) : r.data = ([], r) := by rw [Rd.data, num_bad r 2 h]; exact Rd.raw_bad r 0 h
theorem fail_bad (r : Rd) (x : Int) (h : r.e ≠ 0) : r.fail x = r := by rw [Rd.fail, if_neg h]
theorem byte_back (c : UInt8) (t : List UInt8) : Rd.num ⟨[c] ++ t, 0⟩ 1 = (c.toNat, ⟨t, 0⟩) := num1_cons c t
end Go.Proofs.Ythioageiebchlaa
