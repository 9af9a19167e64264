/- Messages as seven cells: rows of them, what they read as; a row out of whose middle one goes. No condition. -/
import Derived.Test.YtnplinohoflabaaBase
import Derived.Test.YtnplinohoflabaaBlk7
import Derived.Test.YtnplinohoflabaaPr
import Derived.Laws.IdiomCopy
namespace Go.Proofs.Ytnplinohoflabaa
open Go.RowKit
set_option linter.unusedVariables false
set_option linter.unusedSimpArgs false

/-- A message as it lies: the slice of its properties is an address. -/
structure Ms where
  fr : List UInt8
  at_ : Int
  q : Int
  rt : Bool
  A : Option Addr
  n : Nat
  c : Nat
  tp : List UInt8
  py : List UInt8
def msC (x : Ms) : List Value := [.string ⟨x.fr.toArray⟩, .int .i64 x.at_, .int .u8 x.q, .bool x.rt, .slice x.A x.n x.c, .string ⟨x.tp.toArray⟩, .string ⟨x.py.toArray⟩]
theorem msC_len (x : Ms) : (msC x).length = 7 := rfl
theorem msC_one (x : Ms) : ∀ u ∈ msC x, u.oneCell' = true := by
  intro u hu
  simp [msC] at hu
  rcases hu with rfl | rfl | rfl | rfl | rfl | rfl | rfl <;> rfl
def ms0 : Ms := ⟨[], 0, 0, false, none, 0, 0, [], []⟩
instance : Inhabited Ms := ⟨ms0⟩
theorem Try.infoMs : (Try.prog.info? 29).map (fun i => (i.zero, i.size, i.bytes)) = some (some (.agg #[.string ⟨#[]⟩, .int .i64 0, .int .u8 0, .bool false, .slice none 0 0, .string ⟨#[]⟩, .string ⟨#[]⟩]), 7, 88) := by kernel_rfl
theorem Try.infoRMs : (Try.prog.info? 42).map (fun i => (i.zero, i.size, i.bytes)) = some (some (.agg #[.string ⟨#[]⟩, .int .i64 0, .int .u8 0, .bool false, .slice none 0 0, .string ⟨#[]⟩, .string ⟨#[]⟩]), 7, 88) := by kernel_rfl

/-- A slice whose cells are cs, in a block of type T. -/
def TView (T : TypeId) (w : World) (v : Value) (n : Nat) (cs : List Value) : Prop := View w v n cs ∧ ∀ k, v.ownBlock = some k → ∃ c z, w.heap[k]? = some (.cells c T z)
def NotT (T : TypeId) (w : World) (k : Nat) : Prop := ∀ c z, w.heap[k]? ≠ some (.cells c T z)
theorem NotT.blk {T : TypeId} {w : World} {k : Nat} {c : Array Value} {T' : TypeId} {z : Nat × Nat} (h : w.heap[k]? = some (.cells c T' z)) (hne : T' ≠ T) : NotT T w k := by
  intro c' z' h'
  rw [h] at h'; cases h'; exact hne rfl
theorem NotT.new {T : TypeId} {w : World} {k : Nat} (h : w.heap.size ≤ k) : NotT T w k := by
  intro c z h'
  have := blk_lt h'; omega
theorem NotT.own {T : TypeId} {w : World} {base : Nat} {e : TypeId} {size n : Nat} {v : Value} {xs : List Value} (h : w.ownsRow base e size v n xs) (hne : e ≠ T) : ∀ k, v.ownBlock = some k → NotT T w k := by
  intro k hk
  rcases h.2 with ⟨rfl, rfl⟩ | ⟨g, cap, cur, rfl, _, hh, _⟩
  · simp [Value.ownBlock] at hk
  · simp [Value.ownBlock] at hk
    subst hk
    exact NotT.blk hh hne
theorem TView.fr {T : TypeId} {S : List Nat} {w w' : World} {v : Value} {n : Nat} {cs : List Value} (h : TView T w v n cs) (hf : Fr S w w') (hS : ∀ k ∈ S, NotT T w k) : TView T w' v n cs := by
  have hne : ∀ k, v.ownBlock = some k → k ∉ S := fun k hk hn => by
    obtain ⟨c, z, hc⟩ := h.2 k hk
    exact hS k hn c z hc
  refine ⟨h.1.fr hf hne, fun k hk => ?_⟩
  obtain ⟨c, z, hc⟩ := h.2 k hk
  exact ⟨c, z, hf.blk hc (hne k hk)⟩
theorem TView.fr0 {T : TypeId} {w w' : World} {v : Value} {n : Nat} {cs : List Value} (h : TView T w v n cs) (hf : Fr [] w w') : TView T w' v n cs := h.fr hf (by simp)
theorem TView.own {T : TypeId} {w : World} {base size n : Nat} {v : Value} {xs : List Value} (h : w.ownsRow base T size v n xs) : TView T w v n xs := by
  refine ⟨own_view h, fun k hk => ?_⟩
  rcases h.2 with ⟨rfl, rfl⟩ | ⟨g, cap, cur, rfl, _, hh, _⟩
  · simp [Value.ownBlock] at hk
  · simp [Value.ownBlock] at hk
    subst hk
    exact ⟨_, _, hh⟩
theorem TView.nil (T : TypeId) (w : World) : TView T w (.slice none 0 0) 0 [] := ⟨View.nil w, by simp [Value.ownBlock]⟩

/-- The properties of a message read. -/
def Rds (T : TypeId) (w : World) (p : Ms × List Pr) : Prop := TView T w (.slice p.1.A p.1.n p.1.c) p.2.length (p.2.flatMap prE)
theorem Rds.n {T : TypeId} {w : World} {p : Ms × List Pr} (h : Rds T w p) : p.1.n = p.2.length := by
  obtain ⟨⟨A, c, he, _⟩, _⟩ := h
  injection he
theorem rds0 (T : TypeId) (w : World) : Rds T w (ms0, []) := TView.nil T w
/-- A message, said without addresses. -/
structure Mg where
  fr : List UInt8
  at_ : Int
  q : Int
  rt : Bool
  ps : List Pr
  tp : List UInt8
  py : List UInt8
deriving DecidableEq
def lg (p : Ms × List Pr) : Mg := ⟨p.1.fr, p.1.at_, p.1.q, p.1.rt, p.2, p.1.tp, p.1.py⟩
/-- Numbers and strings that may be. -/
def MsOk (x : Ms) : Prop := 0 ≤ x.q ∧ x.q < 256 ∧ x.fr.length ≤ 9223372036854775807 ∧ x.tp.length ≤ 9223372036854775807 ∧ x.py.length ≤ 9223372036854775807

theorem blk_setCells {b : Nat} {t : TypeId} : ∀ (vs : List Value) (o : Nat) (w : World) (cs : Array Value), w.heap[b]? = some (.cells cs t (0, 0)) → o + vs.length ≤ cs.size →
    (w.setCells b o vs).heap[b]? = some (.cells (cs.toList.take o ++ vs ++ cs.toList.drop (o + vs.length)).toArray t (0, 0))
  | [], o, w, cs, h, _ => by
    rw [World.setCells, h]
    simp
  | v :: r, o, w, cs, h, hl => by
    simp only [List.length_cons] at hl
    rw [World.setCells, blk_setCells r (o + 1) _ _ (blk_set h o v) (by simp; omega)]
    have e1 : ((cs.setIfInBounds o v).toList.take (o + 1)) = cs.toList.take o ++ [v] := by
      rw [List.take_succ_eq_append_getElem (by simp; omega)]
      simp [List.take_set_of_le]
    have e2 : (cs.setIfInBounds o v).toList.drop (o + 1 + r.length) = cs.toList.drop (o + (v :: r).length) := by
      rw [Array.toList_setIfInBounds, List.drop_set_of_lt (by omega), List.length_cons, show o + 1 + r.length = o + (r.length + 1) by omega]
    rw [e1, e2]
    simp
theorem Fr.setCells {S : List Nat} {a : World} {b : Nat} (hb : a.heap.size ≤ b ∨ b ∈ S) : ∀ (vs : List Value) (o : Nat) (w : World), Fr S a w → Fr S a (w.setCells b o vs)
  | [], _, _, h => h
  | v :: r, o, w, h => Fr.setCells hb r (o + 1) _ (h.setCell (p := ⟨b, o, none⟩) hb v)
theorem flat_take {α : Type} (k : Nat) (enc : α → List Value) (hk : ∀ x, (enc x).length = k) (l : List α) (i : Nat) : (l.flatMap enc).take (i * k) = (l.take i).flatMap enc := by
  induction l generalizing i with
  | nil => simp
  | cons x l ih =>
    cases i with
    | zero => simp
    | succ i =>
      rw [List.flatMap_cons, List.take_append, List.take_of_length_le (by rw [hk, Nat.add_mul]; omega), hk, show (i + 1) * k - k = i * k by rw [Nat.add_mul]; omega, ih, List.take_succ_cons, List.flatMap_cons]
theorem flat_drop {α : Type} (k : Nat) (enc : α → List Value) (hk : ∀ x, (enc x).length = k) (l : List α) (i : Nat) : (l.flatMap enc).drop (i * k) = (l.drop i).flatMap enc := by
  induction l generalizing i with
  | nil => simp
  | cons x l ih =>
    cases i with
    | zero => simp
    | succ i =>
      rw [List.flatMap_cons, List.drop_append, List.drop_of_length_le (by rw [hk, Nat.add_mul]; omega), hk, show (i + 1) * k - k = i * k by rw [Nat.add_mul]; omega, ih, List.drop_succ_cons, List.nil_append]
/-- The cells of the row as they are known. -/
theorem own_cells {α : Type} {w : World} {base : Nat} {e : TypeId} {k : Nat} {v : Value} {enc : α → List Value} {l : List α} (h : w.ownsRow base e k v l.length (l.flatMap enc)) (hk : ∀ x, (enc x).length = k) (hk0 : 0 < k) (hl : 0 < l.length) :
    ∃ g cap cur, v = .slice (some ⟨g, 0, none⟩) l.length cap ∧ base ≤ g ∧ g < w.heap.size ∧ w.heap[g]? = some (.cells cur e (0, 0)) ∧ l.length ≤ cap ∧ cap ≤ maxLen ∧ cur.size = cap * k ∧ cur.toList.take (l.length * k) = l.flatMap enc ∧
      ∀ (i : Nat) (hi : i < l.length) j u, (enc l[i])[j]? = some u → w.cell? ⟨g, i * k + j, none⟩ = some u := by
  have hv := (own_view h).at hk hk0 hl
  rcases h.2 with ⟨rfl, h0⟩ | ⟨g, cap, cur, rfl, hb, hh, h1, h2, h3, h4⟩
  · omega
  · obtain ⟨b, off, c, he, hlt, hc⟩ := hv
    cases he
    refine ⟨g, cap, cur, rfl, hb, hlt, hh, h1, h2, h3, h4, fun i hi j u hj => ?_⟩
    have := hc i hi j u hj
    rwa [Nat.zero_add] at this
/-- The row without its i-th element: the others moved, the last place cleared. -/
theorem own_erase {α : Type} {w : World} {base : Nat} {e : TypeId} {k : Nat} {g cap : Nat} {cur : Array Value} {enc : α → List Value} {l : List α} (hk : ∀ x, (enc x).length = k) (hb : base ≤ g)
    (hh : w.heap[g]? = some (.cells cur e (0, 0))) (h1 : l.length ≤ cap) (h2 : cap ≤ maxLen) (h3 : cur.size = cap * k) (h4 : cur.toList.take (l.length * k) = l.flatMap enc) (i : Nat) (hi : i < l.length) (zs : List Value) (hz : zs.length = k) :
    ((w.setCells g (i * k) ((l.drop (i + 1)).flatMap enc)).setCells g ((l.length - 1) * k) zs).ownsRow base e k (.slice (some ⟨g, 0, none⟩) (l.length - 1) cap) (l.length - 1) ((l.eraseIdx i).flatMap enc) := by
  have hm1 : ((l.drop (i + 1)).flatMap enc).length = (l.length - (i + 1)) * k := by rw [flat_len k enc hk, List.length_drop]
  have hck : l.length * k ≤ cap * k := Nat.mul_le_mul_right _ h1
  have hsum : i * k + (l.length - (i + 1)) * k = (l.length - 1) * k := by rw [← Nat.add_mul]; congr 1; omega
  have hlast : (l.length - 1) * k + k = l.length * k := by
    have : l.length = l.length - 1 + 1 := by omega
    conv => rhs; rw [this, Nat.add_mul, Nat.one_mul]
  have hmin : min i cap = i := by omega
  have hik : i * k + k ≤ l.length * k := by rw [← Nat.succ_mul]; exact Nat.mul_le_mul_right _ hi
  have a1 := blk_setCells ((l.drop (i + 1)).flatMap enc) (i * k) w cur hh (by rw [hm1, h3]; omega)
  have a2 := blk_setCells zs ((l.length - 1) * k) _ _ a1 (by simp [hm1, hz, h3, hmin]; omega)
  refine ⟨by rw [flat_len k enc hk, List.length_eraseIdx_of_lt hi], Or.inr ⟨g, cap, _, rfl, hb, a2, by omega, h2, ?_, ?_⟩⟩
  · simp [hm1, hz, h3, hmin]; omega
  · have hcur : cur.toList.take (i * k) = (l.take i).flatMap enc := by
      rw [← flat_take k enc hk, ← h4, List.take_take, Nat.min_eq_left (Nat.mul_le_mul_right _ (by omega))]
    simp only [hm1]
    rw [List.append_assoc, List.take_append_of_le_length (by simp [hm1, h3, hmin]; omega), List.take_take, Nat.min_self]
    rw [List.take_append_of_le_length (by simp [hm1, h3, hmin]; omega), List.take_of_length_le (by simp [hm1, h3, hmin]; omega), hcur, List.eraseIdx_eq_take_drop_succ, List.flatMap_append]
end Go.Proofs.Ytnplinohoflabaa
