/- A connect that is right goes as a body, and comes back; a beginning of a body is none: plain laws. No condition. -/
import Derived.Test.YtlhkgalmiajinaaPlainE
import Derived.Test.YtlhkgalmiajinaaPlainQ
namespace Go.Proofs.Ytlhkgalmiajinaa
open Go.RowKit
set_option linter.unusedVariables false
set_option linter.unusedSimpArgs false

def rightC (c : Cn) : Cn := ⟨c.clean, c.keep % 65536, [], lettersB (c.id.take 20), c.hasWill, [], if c.hasWill = true then lettersB (c.topic.take 20) else [], if c.hasWill = true then c.pay.take 30 else [], if c.hasWill = true then c.qos % 3 else 0, c.hasWill && c.ret, c.hasUser, c.hasPass, if c.hasUser = true then lettersB (c.user.take 20) else [], if c.hasPass = true then c.pass.take 30 else []⟩
/-- What a right connect is. -/
structure RtC (x : Cn) : Prop where
  k : x.keep < 65536
  p : x.props = []
  w : x.wp = []
  q : x.qos < 3
  i : ∃ s : List UInt8, x.id = lettersB s ∧ s.length ≤ 20
  t : ∃ s : List UInt8, x.topic = lettersB s ∧ s.length ≤ 20
  y : x.pay.length ≤ 30
  u : ∃ s : List UInt8, x.user = lettersB s ∧ s.length ≤ 20
  s : x.pass.length ≤ 30
  n : x.hasWill = false → x.topic = [] ∧ x.pay = [] ∧ x.qos = 0 ∧ x.ret = false
  nu : x.hasUser = false → x.user = []
  np : x.hasPass = false → x.pass = []
theorem right_rt (c : Cn) : RtC (rightC c) := by
  have h20 : ∀ s : List UInt8, (s.take 20).length ≤ 20 := fun s => List.length_take_le _ _
  have h30 : ∀ s : List UInt8, (s.take 30).length ≤ 30 := fun s => List.length_take_le _ _
  unfold rightC
  refine ⟨Nat.mod_lt _ (by decide), rfl, rfl, ?_, ⟨_, rfl, h20 _⟩, ?_, ?_, ?_, ?_, ?_, ?_, ?_⟩
  · dsimp only; split
    · exact Nat.mod_lt _ (by decide)
    · decide
  · dsimp only; split
    · exact ⟨_, rfl, h20 _⟩
    · exact ⟨[], rfl, by decide⟩
  · dsimp only; split
    · exact h30 _
    · decide
  · dsimp only; split
    · exact ⟨_, rfl, h20 _⟩
    · exact ⟨[], rfl, by decide⟩
  · dsimp only; split
    · exact h30 _
    · decide
  · intro h; dsimp only at h ⊢; simp [h]
  · intro h; dsimp only at h ⊢; simp [h]
  · intro h; dsimp only at h ⊢; simp [h]
theorem fl_back : ∀ a b c d r : Bool, ∀ q : Fin 3, (b = false → q.val = 0 ∧ r = false) →
    ∃ f : Nat, bitN a 2 + bitN b 4 + bitN c 64 + bitN d 128 + (if b = true then q.val % 4 * 8 + bitN r 32 else 0) = f ∧ f < 256 ∧ cnBad f = false ∧ decide (f / 2 % 2 = 1) = a ∧ decide (f / 4 % 2 = 1) = b ∧ decide (f / 64 % 2 = 1) = c ∧ decide (f / 128 % 2 = 1) = d ∧ decide (f / 32 % 2 = 1) = r ∧ f / 8 % 4 = q.val := by
  intro a b c d r q h
  refine ⟨_, rfl, ?_⟩
  revert a b c d r q
  decide +kernel
theorem take0 (kind : Int) (isWill : Bool) (t : List UInt8) : takeP ⟨(0 : UInt8) :: t, 0⟩ kind isWill = ([], ⟨t, 0⟩) := by
  have := back_ok (OkL.nil (kind := kind) (isWill := isWill)) (by decide) t
  simpa [putsB, var, varB, vmin, b8] using this
/-- What is taken of its own bytes; of a beginning of them, nothing. -/
structure Tk {α : Type} (P : Rd → α × Rd) (A : List UInt8) (x : α) : Prop where
  back : ∀ t, P ⟨A ++ t, 0⟩ = (x, ⟨t, 0⟩)
  short : ∀ k, k < A.length → (P ⟨A.take k, 0⟩).2.e = 1
theorem Tk.cut {α : Type} {P : Rd → α × Rd} {A : List UInt8} {x : α} (h : Tk P A x) (B : List UInt8) (n : Nat) (hn : n < (A ++ B).length) : (P ⟨(A ++ B).take n, 0⟩).2.e = 1 ∨ ∃ m, m < B.length ∧ P ⟨(A ++ B).take n, 0⟩ = (x, ⟨B.take m, 0⟩) := by
  by_cases hk : n < A.length
  · left
    rw [List.take_append_of_le_length (by omega)]
    exact h.short n hk
  · right
    rw [List.length_append] at hn
    refine ⟨n - A.length, by omega, ?_⟩
    rw [List.take_append, List.take_of_length_le (by omega : A.length ≤ n)]
    exact h.back _
theorem tk_byte (c : Nat) (h : c < 256) : Tk (fun r => r.num 1) [b8 c] c :=
  ⟨fun t => by show Rd.num ⟨b8 c :: t, 0⟩ 1 = _; rw [num1_cons, b8_toNat, Nat.mod_eq_of_lt h], fun k hk => num_short 1 _ (by simp at hk ⊢; omega)⟩
theorem tk_two (n : Nat) (h : n < 65536) : Tk (fun r => r.num 2) (two n) n :=
  ⟨fun t => by show Rd.num ⟨two n ++ t, 0⟩ 2 = _; rw [two_back, Nat.mod_eq_of_lt h], fun k hk => num_short 2 _ (by rw [two_len] at hk; simp; omega)⟩
theorem tk_props (kind : Int) (isWill : Bool) : Tk (fun r => takeP r kind isWill) [0] [] := by
  refine ⟨fun t => take0 kind isWill t, fun k hk => ?_⟩
  have h0 : k = 0 := by simpa using hk
  subst h0
  show (takeP ⟨[], 0⟩ kind isWill).2.e = 1
  have h1 : Rd.var ⟨[], 0⟩ = (0, ⟨[], 1⟩) := by rw [Rd.var, varGo_nil]
  unfold takeP
  rw [h1]
  have h2 : Rd.raw ⟨[], 1⟩ 0 = ([], ⟨[], 1⟩) := Rd.raw_bad _ _ (by decide)
  dsimp only
  rw [h2, if_pos (by decide)]
theorem tk_data (s : List UInt8) (hs : s.length ≤ 65535) : Tk Rd.data (dataB s) s := by
  refine ⟨fun t => ?_, fun k hk => ?_⟩
  · rw [data_back, List.take_of_length_le hs]
  · rw [data_short s hs k hk]
theorem tk_str (s : List UInt8) (hs : s.length ≤ 65535) : Tk Rd.str (dataB (lettersB s)) (lettersB s) := by
  refine ⟨fun t => str_lets s t hs, fun k hk => ?_⟩
  have h := data_short (lettersB s) (by rw [lettersB_len]; exact hs) k hk
  unfold Rd.str
  rw [h]
  have hg : good [] = true := by decide
  rw [if_pos hg]
theorem tk_none {α : Type} (P : Rd → List α × Rd) (h : ∀ r, P r = ([], r)) : Tk P [] [] := ⟨fun t => h _, fun k hk => by simp at hk⟩
theorem tk_willP (h : Bool) : Tk (willP h) (if h = true then [0] else []) [] := by
  cases h
  · exact tk_none _ (fun r => rfl)
  · exact tk_props 1 true
theorem tk_willT (h : Bool) (x : List UInt8) (hx : ∃ s : List UInt8, x = lettersB s ∧ s.length ≤ 20) (hn : h = false → x = []) : Tk (willT h) (if h = true then dataB x else []) x := by
  cases h
  · rw [hn rfl]; exact tk_none _ (fun r => rfl)
  · obtain ⟨s, rfl, hs⟩ := hx
    exact tk_str s (by omega)
theorem tk_dataT (h : Bool) (x : List UInt8) (hx : x.length ≤ 30) (hn : h = false → x = []) : Tk (dataT h) (if h = true then dataB x else []) x := by
  cases h
  · rw [hn rfl]; exact tk_none _ (fun r => rfl)
  · exact tk_data x (by omega)
/-- The bytes behind the flags. -/
def tailB (x : Cn) : List UInt8 := two x.keep ++ ([0] ++ (dataB x.id ++ ((if x.hasWill = true then [0] else []) ++ ((if x.hasWill = true then dataB x.topic else []) ++ ((if x.hasWill = true then dataB x.pay else []) ++ ((if x.hasUser = true then dataB x.user else []) ++ (if x.hasPass = true then dataB x.pass else [])))))))
theorem text_tail (x : Cn) (h : RtC x) : cnText x = [0, 4, 77, 81, 84, 84] ++ ([5] ++ ([b8 (cnFlags x)] ++ tailB x)) := by
  unfold cnText tailB cnWill cnUser cnPass
  have hp : propsB [] = [0] := by kernel_rfl
  rw [h.p, h.w, hp]
  cases x.hasWill <;> simp
theorem tail_r (f : Nat) (r : Rd) : (cnTail f r).r = (dataT (decide (f / 64 % 2 = 1)) (willT (decide (f / 128 % 2 = 1)) (dataT (decide (f / 4 % 2 = 1)) (willT (decide (f / 4 % 2 = 1)) (willP (decide (f / 4 % 2 = 1)) (takeP (r.num 2).2 1 false).2.str.2).2).2).2).2).2 := rfl
end Go.Proofs.Ytlhkgalmiajinaa
