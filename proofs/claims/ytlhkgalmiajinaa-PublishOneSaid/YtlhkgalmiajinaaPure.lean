/- The plain words of layers 1 and 2: what is put, what is taken; lists of bytes and numbers alone, no program. No condition. -/
import Derived.Below
namespace Go.Proofs.Ytlhkgalmiajinaa

def b8 (n : Nat) : UInt8 := UInt8.ofNat n
def two (n : Nat) : List UInt8 := [b8 (n / 256), b8 n]
def four (n : Nat) : List UInt8 := two (n / 65536) ++ two n
def vmin (n : Nat) : Nat := if n > 268435455 then 268435455 else n
/-- A variable byte integer, of at most k + 1 bytes. -/
def varB : Nat → Nat → List UInt8
  | 0, n => [b8 (n % 128)]
  | k + 1, n => if n < 128 then [b8 n] else b8 (n % 128 + 128) :: varB k (n / 128)
def var (n : Nat) : List UInt8 := varB 3 (vmin n)
theorem varB_last' (j n : Nat) (h : n < 128) : varB j n = [b8 n] := by
  cases j with
  | zero => rw [varB, Nat.mod_eq_of_lt h]
  | succ j => rw [varB, if_pos h]
theorem varB_on' (j n : Nat) (h : 128 ≤ n) : varB (j + 1) n = b8 (n % 128 + 128) :: varB j (n / 128) := by
  rw [varB, if_neg (by omega)]
theorem varB_len' (n : Nat) : (var n).length ≤ 4 := by
  have h : ∀ k n, (varB k n).length ≤ k + 1 := by
    intro k
    induction k with
    | zero => intro n; simp [varB]
    | succ k ih =>
      intro n
      by_cases h : n < 128
      · simp [varB, h]
      · have := ih (n / 128)
        simp [varB, h]; omega
  exact h 3 _
def dataB (s : List UInt8) : List UInt8 := two (s.take 65535).length ++ s.take 65535

theorem b8_eq {a b : Nat} (h : a % 256 = b % 256) : b8 a = b8 b := by
  apply UInt8.toNat.inj; simpa [b8] using h
theorem b8_toNat (n : Nat) : (b8 n).toNat = n % 256 := by simp [b8]
theorem b8_of (c : UInt8) : b8 c.toNat = c := by simp [b8]
theorem map_b8 (l : List UInt8) : (l.map fun c => b8 c.toNat) = l := by
  induction l with
  | nil => rfl
  | cons c l ih => rw [List.map_cons, ih, b8_of]
/-- A number out of bytes, the higher first. -/
def beN (l : List UInt8) : Nat := l.foldl (fun v c => v * 256 + c.toNat) 0

/-- What is left, and the first error. -/
structure Rd where
  s : List UInt8
  e : Int

def Rd.fail (r : Rd) (x : Int) : Rd := if r.e = 0 then ⟨r.s, x⟩ else r
def Rd.raw (r : Rd) (n : Nat) : List UInt8 × Rd :=
  if r.e ≠ 0 then ([], r) else if n > r.s.length then ([], ⟨r.s, 1⟩) else (r.s.take n, ⟨r.s.drop n, 0⟩)
def Rd.num (r : Rd) (n : Nat) : Nat × Rd := (beN (r.raw n).1, (r.raw n).2)
def Rd.data (r : Rd) : List UInt8 × Rd := (r.num 2).2.raw (r.num 2).1
/-- A variable byte integer; j more bytes may come behind this one; u what this one's unit is; v what came. -/
def Rd.varGo (u v : Nat) : Nat → Rd → Nat × Rd
  | j, r =>
    let c := (r.num 1).1
    let q := (r.num 1).2
    if q.e ≠ 0 then (0, q)
    else if c < 128 then if c = 0 ∧ u > 1 then (0, ⟨q.s, 2⟩) else (v + c * u, q)
    else match j with
      | 0 => (0, ⟨q.s, 2⟩)
      | j + 1 => Rd.varGo (u * 128) (v + c % 128 * u) j q
def Rd.var (r : Rd) : Nat × Rd := Rd.varGo 1 0 3 r
def Rd.ends (r : Rd) : Int := if r.e = 1 ∨ r.e = 0 ∧ r.s ≠ [] then 2 else r.e

theorem beN_lt (l : List UInt8) : beN l < 256 ^ l.length := by
  have h : ∀ (l : List UInt8) (v : Nat), l.foldl (fun v c => v * 256 + c.toNat) v < (v + 1) * 256 ^ l.length := by
    intro l
    induction l with
    | nil => intro v; simp
    | cons c l ih =>
      intro v
      have h1 := ih (v * 256 + c.toNat)
      have hc : c.toNat < 256 := c.toNat_lt
      have h2 : (v * 256 + c.toNat + 1) * 256 ^ l.length ≤ ((v + 1) * 256) * 256 ^ l.length := Nat.mul_le_mul_right _ (by omega)
      simp only [List.foldl_cons, List.length_cons, Nat.pow_succ]
      have h3 : (v + 1) * (256 ^ l.length * 256) = ((v + 1) * 256) * 256 ^ l.length := by rw [Nat.mul_assoc, Nat.mul_comm 256]
      omega
  have := h l 0
  simpa [beN] using this

theorem beN_snoc (l : List UInt8) (k : Nat) (h : k < l.length) : beN (l.take (k + 1)) = beN (l.take k) * 256 + l[k].toNat := by
  rw [List.take_succ_eq_append_getElem h]
  unfold beN
  rw [List.foldl_append]
  rfl
theorem Rd.raw_bad (r : Rd) (n : Nat) (h : r.e ≠ 0) : r.raw n = ([], r) := by rw [Rd.raw, if_pos h]
theorem Rd.raw_end (r : Rd) (n : Nat) (h : r.e = 0) (hn : r.s.length < n) : r.raw n = ([], ⟨r.s, 1⟩) := by rw [Rd.raw, if_neg (by simpa using h), if_pos hn]
theorem Rd.raw_ok (r : Rd) (n : Nat) (h : r.e = 0) (hn : n ≤ r.s.length) : r.raw n = (r.s.take n, ⟨r.s.drop n, 0⟩) := by rw [Rd.raw, if_neg (by simpa using h), if_neg (by omega)]
theorem Rd.raw_len (r : Rd) (n : Nat) : (r.raw n).1.length ≤ n := by
  unfold Rd.raw
  split
  · simp
  · split
    · simp
    · simp; omega
theorem Rd.raw_le (r : Rd) (n : Nat) : (r.raw n).1.length ≤ r.s.length := by
  unfold Rd.raw
  split
  · simp
  · split
    · simp
    · simp; omega
theorem Rd.raw_left (r : Rd) (n : Nat) : (r.raw n).2.s.length ≤ r.s.length := by
  unfold Rd.raw
  split
  · simp
  · split <;> simp
theorem Rd.num_lt (r : Rd) (n : Nat) : (r.num n).1 < 256 ^ n := by
  refine Nat.lt_of_lt_of_le (beN_lt _) ?_
  exact Nat.pow_le_pow_right (by omega) (r.raw_len n)
/-! ### Signs -/
/-- The value of a sign's later bytes. -/
def dv (v : Nat) (l : List UInt8) : Nat := l.foldl (fun v c => v * 64 + c.toNat % 64) v
def conts (l : List UInt8) : Prop := ∀ c ∈ l, c.toNat / 64 = 2
instance (l : List UInt8) : Decidable (conts l) := by unfold conts; infer_instance
/-- How many bytes a sign has that begins so. -/
def slen (c : Nat) : Nat := if c < 128 then 1 else if c / 32 = 6 then 2 else if c / 16 = 14 then 3 else if c / 8 = 30 then 4 else 0
def least (n : Nat) : Nat := if n = 2 then 128 else if n = 3 then 2048 else if n = 4 then 65536 else 0
def okv (n v : Nat) : Prop := least n ≤ v ∧ v ≤ 1114111 ∧ (v < 55296 ∨ 57343 < v)
instance (n v : Nat) : Decidable (okv n v) := by unfold okv; infer_instance
def sval (n : Nat) (s : List UInt8) : Nat := dv ((s.getD 0 0).toNat % 2 ^ (7 - n)) ((s.take n).drop 1)
def sign (s : List UInt8) : Nat × Nat :=
  if s = [] then (0, 0)
  else if (s.getD 0 0).toNat < 128 then ((s.getD 0 0).toNat, 1)
  else
    let n := slen (s.getD 0 0).toNat
    if n ≠ 0 ∧ n ≤ s.length ∧ conts ((s.take n).drop 1) ∧ okv n (sval n s) then (sval n s, n) else (0, 0)
/-- A text as signs, as far as they go: how many (j: at most). -/
def signsN : Nat → List UInt8 → Nat
  | 0, _ => 0
  | j + 1, s => if (sign s).2 = 0 then 0 else 1 + signsN j (s.drop (sign s).2)
def good.goodN : Nat → List UInt8 → Bool
  | 0, s => s.isEmpty
  | j + 1, s => s.isEmpty || (!((sign s).2 == 0) && !((sign s).1 == 0) && good.goodN j (s.drop (sign s).2))
def good (s : List UInt8) : Bool := decide (s.length ≤ 65535) && good.goodN s.length s
/-- A string is taken. -/
def Rd.str (r : Rd) : List UInt8 × Rd := if good r.data.1 then r.data else ([], r.data.2.fail 2)
end Go.Proofs.Ytlhkgalmiajinaa
