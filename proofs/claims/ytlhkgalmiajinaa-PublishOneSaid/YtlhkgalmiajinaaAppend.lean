/- Appends of a slice that reads as a list (nil too) onto an owned row: at a plain region's list, at a step of a region that draws; no program is named here. No condition. -/
import Derived.Test.YtlhkgalmiajinaaSlices
import Derived.Deep.AppendLies
import Derived.Deep.RegionHeld3
namespace Go.Proofs.Ytlhkgalmiajinaa
open Go.RowKit

theorem run_app_none {P : Program} (w : World) (t ty e : TypeId) (i : TypeInfo) (ht : P.underlying t = some (.slice e)) (hi : P.info? e = some i) (v : Value) (n : Nat) (base : Nat) (xs : List Value) (size : Nat) (hown : w.ownsRow base e size v n xs) (c : Nat) (hn : n ≤ maxLen) :
    (Builtin.append_ #[t, t] ty #[v, .slice none 0 c]).run P w = .ok v w := by
  have _ := hn
  rcases hown.2 with ⟨rfl, rfl⟩ | ⟨g, cap, cur, rfl, hbg, hgg, hnc, hcm, hcs, htake⟩
  · simp [Builtin.append_, run_underlying ht, sizeOf, typeInfo, hi, Builtin.lenOf, Builtin.firstCells]
  · simp [Builtin.append_, run_underlying ht, sizeOf, typeInfo, hi, Builtin.lenOf, Builtin.firstCells, hnc, storeCells]
theorem run_appv {P : Program} (w : World) (base : Nat) (t ty e : TypeId) (i : TypeInfo) (z : Value) (size bytes : Nat) (ht : P.underlying t = some (.slice e)) (hi : P.info? e = some i) (hz : i.zero = some z)
    (hsize : i.size = size) (hby : i.bytes = bytes) (hzs : z.cells.size = size) (hsz : 0 < size)
    (v : Value) (n : Nat) (xs : List Value) (hown : w.ownsRow base e size v n xs)
    (x : Value) (m : Nat) (news : List Value) (hl : news.length = m * size) (hx : View w x m news) (h1 : ∀ u ∈ news, u.oneCell' = true)
    (h63 : n + m ≤ maxLen) (hbytes : (n + m) * bytes ≤ 140737488355328) (hbase : base ≤ w.heap.size) :
    ∃ v' w', (Builtin.append_ #[t, t] ty #[v, x]).run P w = .ok v' w' ∧ w'.ownsRow base e size v' (n + m) (xs ++ news) ∧ w.grownBy w' v.ownBlock ∧ Fresh w v v' := by
  obtain ⟨A, c, rfl, hv⟩ := hx
  cases A with
  | none =>
    have hnil : news = [] := by
      rcases hv with hv | ⟨b, off, h, _⟩
      · exact hv
      · cases h
    subst hnil
    obtain rfl : m = 0 := by
      rw [List.length_nil] at hl
      rcases Nat.mul_eq_zero.1 hl.symm with h | h
      · exact h
      · omega
    refine ⟨v, w, run_app_none w t ty e i ht hi v n base xs size hown c (by omega), by rw [List.append_nil]; exact hown, ⟨rfl, rfl, rfl, Nat.le_refl _, fun _ _ _ => rfl⟩, Or.inl rfl⟩
  | some a =>
    refine run_app w base t ty e i z size bytes ht hi hz hsize hby hzs hsz v n xs hown a m c news hl ?_ h1 h63 hbytes hbase
    intro j u hj
    rcases hv with hv | ⟨b, off, h, hc⟩
    · rw [hv] at hj; simp at hj
    · cases h
      have := hc j u hj
      have e : (⟨b, off, none⟩ : Addr).add j = ⟨b, off + j, none⟩ := by unfold Addr.add; split <;> simp_all
      rw [e]; exact this
theorem wp_appv {P : Program} (w : World) {o : Oper} {a : Act} {K : Act → World → Prop} {Q : Exit → Act → World → Prop} (s x : Operand) (t : TypeId)
    (ho : o.op = .call { callee := .builtin .append, args := #[s, x], argTypes := #[t, t] })
    (base : Nat) (e : TypeId) (i : TypeInfo) (z : Value) (size bytes : Nat) (ht : P.underlying t = some (.slice e)) (hi : P.info? e = some i) (hz : i.zero = some z)
    (hsize : i.size = size) (hby : i.bytes = bytes) (hzs : z.cells.size = size) (hsz : 0 < size)
    (v : Value) (n : Nat) (xs : List Value) (hs : a.eval s = v) (hown : w.ownsRow base e size v n xs)
    (y : Value) (m : Nat) (news : List Value) (hx : a.eval x = y) (hl : news.length = m * size) (hy : View w y m news) (h1 : ∀ u ∈ news, u.oneCell' = true)
    (h63 : n + m ≤ maxLen) (hbytes : (n + m) * bytes ≤ 140737488355328) (hbase : base ≤ w.heap.size)
    (h : ∀ v' w', w'.ownsRow base e size v' (n + m) (xs ++ news) → w.grownBy w' v.ownBlock → Fresh w v v' → K (a.put o.dst v') w') : o.wp P a w K Q := by
  obtain ⟨v', w', hr, h2, h3, h4⟩ := run_appv (P := P) w base t o.type e i z size bytes ht hi hz hsize hby hzs hsz v n xs hown y m news hl hy h1 h63 hbytes hbase
  unfold Oper.wp execOp
  simp only [ho, resolve, invoke, builtin, Sem.run_bind, Sem.run_pure, Result.andThen_ok, List.map_toArray, List.map_cons, List.map_nil, hs, hx, hr]
  exact h v' w' h2 h3 h4
theorem wpl_appv {P : Program} (w : World) {ops : Array Oper} {rest : List Oper} {o : Oper} {a : Act} {Q : Exit → Act → World → Prop} (hgd : o.guard = none) (s x : Operand) (t : TypeId)
    (ho : o.op = .call { callee := .builtin .append, args := #[s, x], argTypes := #[t, t] })
    (base : Nat) (e : TypeId) (i : TypeInfo) (z : Value) (size bytes : Nat) (ht : P.underlying t = some (.slice e)) (hi : P.info? e = some i) (hz : i.zero = some z)
    (hsize : i.size = size) (hby : i.bytes = bytes) (hzs : z.cells.size = size) (hsz : 0 < size)
    (v : Value) (n : Nat) (xs : List Value) (hs : a.eval s = v) (hown : w.ownsRow base e size v n xs)
    (y : Value) (m : Nat) (news : List Value) (hx : a.eval x = y) (hl : news.length = m * size) (hy : View w y m news) (h1 : ∀ u ∈ news, u.oneCell' = true)
    (h63 : n + m ≤ maxLen) (hbytes : (n + m) * bytes ≤ 140737488355328) (hbase : base ≤ w.heap.size)
    (h : ∀ v' w', w'.ownsRow base e size v' (n + m) (xs ++ news) → w.grownBy w' v.ownBlock → Fresh w v v' → wpList P ops Q rest (a.put o.dst v') w') : wpList P ops Q (o :: rest) a w :=
  wpList_plain hgd fun _ hK => wp_appv w s x t ho base e i z size bytes ht hi hz hsize hby hzs hsz v n xs hs hown y m news hx hl hy h1 h63 hbytes hbase fun v' w' h2 h3 h4 => hK _ _ (h v' w' h2 h3 h4)
theorem step_appv {P : Program} (w : World) {ops : Array Oper} {o : Oper} {a : Act} {K : Act → World → Prop} {Q : Exit → Act → World → Prop} {E : Prop} (hgd : o.guard = none) (s x : Operand) (t : TypeId)
    (ho : o.op = .call { callee := .builtin .append, args := #[s, x], argTypes := #[t, t] })
    (base : Nat) (e : TypeId) (i : TypeInfo) (z : Value) (size bytes : Nat) (ht : P.underlying t = some (.slice e)) (hi : P.info? e = some i) (hz : i.zero = some z)
    (hsize : i.size = size) (hby : i.bytes = bytes) (hzs : z.cells.size = size) (hsz : 0 < size)
    (v : Value) (n : Nat) (xs : List Value) (hs : a.eval s = v) (hown : w.ownsRow base e size v n xs)
    (y : Value) (m : Nat) (news : List Value) (hx : a.eval x = y) (hl : news.length = m * size) (hy : View w y m news) (h1 : ∀ u ∈ news, u.oneCell' = true)
    (h63 : n + m ≤ maxLen) (hbytes : (n + m) * bytes ≤ 140737488355328) (hbase : base ≤ w.heap.size)
    (h : ∀ v' w', w'.ownsRow base e size v' (n + m) (xs ++ news) → w.grownBy w' v.ownBlock → Fresh w v v' → K (a.put o.dst v') w') :
    if Region.wanted o (yielded ops a.tmps) = true then Oper.wp P o a w K Q else E := by
  have hw : Region.wanted o (yielded ops a.tmps) = true := by simp [Region.wanted, hgd]
  rw [if_pos hw]
  exact wp_appv w s x t ho base e i z size bytes ht hi hz hsize hby hzs hsz v n xs hs hown y m news hx hl hy h1 h63 hbytes hbase h
/-- A block of cells read as a slice of them. -/
theorem view_cells {w : World} {B : Nat} {cs : List Value} {A : Array Value} {t : TypeId} {fz : Nat × Nat} (hb : w.heap[B]? = some (.cells A t fz)) (hA : A = cs.toArray) (n c : Nat) : View w (.slice (some ⟨B, 0, none⟩) n c) n cs := by
  subst hA
  refine ⟨_, _, rfl, Or.inr ⟨B, 0, rfl, fun j u hj => ?_⟩⟩
  rw [Nat.zero_add, cell_of_row w B j _ t fz hb]
  simpa using hj
/-- A slice's view stands where new blocks alone turned. -/
theorem View.old {S : List Nat} {w w' : World} {v : Value} {n : Nat} {cs : List Value} (h : View w v n cs) (hf : Fr S w w') (hS : ∀ k ∈ S, w.heap.size ≤ k) : View w' v n cs := by
  obtain ⟨A, c, rfl, h⟩ := h
  refine ⟨A, c, rfl, ?_⟩
  rcases h with h | ⟨b, off, rfl, hc⟩
  · exact Or.inl h
  · refine Or.inr ⟨b, off, rfl, fun j u hj => ?_⟩
    have hb := World.block_lt_of_cell? w _ (hc j u hj)
    exact hf.cell (hc j u hj) (fun hk => by have := hS _ hk; simp at hb this; omega)
theorem own_blk {w : World} {g base : Nat} {e : TypeId} (h : w.heap[g]? = some (.cells #[] e (0, 0))) (hb : base ≤ g) (size : Nat) : w.ownsRow base e size (.slice (some ⟨g, 0, none⟩) 0 0) 0 [] :=
  ⟨by simp, Or.inr ⟨g, 0, #[], rfl, hb, h, Nat.le_refl _, by decide, by simp, by simp⟩⟩
theorem enc_mem {α : Type} {enc : α → List Value} (h1 : ∀ x, ∀ u ∈ enc x, u.oneCell' = true) (l : List α) : ∀ u ∈ l.flatMap enc, u.oneCell' = true := fun u hu => by
  obtain ⟨x, _, hx⟩ := List.mem_flatMap.1 hu
  exact h1 x u hx
theorem bytes_ok {n bytes : Nat} (hl : n ≤ 1000000) (hb : bytes ≤ 1000) : n * bytes ≤ 140737488355328 :=
  Nat.le_trans (Nat.mul_le_mul hl hb) (by decide)
/-- 'append(append(T{}, l...), x)' in a region that draws, the first append: E, the empty row, stands in block g. -/
theorem step_first {P : Program} {w : World} {ops : Array Oper} {o : Oper} {a : Act} {K : Act → World → Prop} {Q : Exit → Act → World → Prop} {E : Prop} (y : World) (s x : Operand) (t : TypeId)
    (e : TypeId) (i : TypeInfo) (z : Value) (size bytes : Nat) (ht : P.underlying t = some (.slice e)) (hi : P.info? e = some i) (hz : i.zero = some z)
    (hsize : i.size = size) (hby : i.bytes = bytes) (hzs : z.cells.size = size) (hsz : 0 < size) (hbm : bytes ≤ 1000)
    {α : Type} (enc : α → List Value) (hk : ∀ x, (enc x).length = size) (h1 : ∀ x, ∀ u ∈ enc x, u.oneCell' = true) (l : List α) (hl : l.length ≤ 1000000) (v : Value) (hv : View y v l.length (l.flatMap enc))
    (hgd : o.guard = none) (ho : o.op = .call { callee := .builtin .append, args := #[s, x], argTypes := #[t, t] }) (g : Nat) (hs : a.eval s = .slice (some ⟨g, 0, none⟩) 0 0) (hx : a.eval x = v)
    (hf : Fr [] y w) (hg : w.heap[g]? = some (.cells #[] e (0, 0))) (hgy : y.heap.size ≤ g)
    (h : ∀ v' w', w'.ownsRow y.heap.size e size v' l.length (l.flatMap enc) → Fr [] y w' → (∀ b o, w.heap[b]? = some o → b ≠ g → w'.heap[b]? = some o) → K (a.put o.dst v') w') :
    if Region.wanted o (yielded ops a.tmps) = true then Oper.wp P o a w K Q else E := by
  have hown := own_blk hg hgy size
  refine step_appv w hgd s x t ho y.heap.size e i z size bytes ht hi hz hsize hby hzs hsz _ 0 [] hs hown v l.length _ hx (flat_len size enc hk l) (hv.fr hf (by simp)) (enc_mem h1 l) (by unfold maxLen; omega) (by rw [Nat.zero_add]; exact bytes_ok hl hbm) hf.size ?_
  intro v' w' h2 h3 _
  rw [Nat.zero_add, List.nil_append] at h2
  exact h v' w' h2 (hf.app hown (Nat.le_refl _) h3) (fun b o hb hne => grown_blk h3 hb (by simp [Value.ownBlock]; omega))
/-- The second append: x stands in block B. -/
theorem step_second {P : Program} {w : World} {ops : Array Oper} {o : Oper} {a : Act} {K : Act → World → Prop} {Q : Exit → Act → World → Prop} {E : Prop} (y : World) (s x : Operand) (t : TypeId)
    (e : TypeId) (i : TypeInfo) (z : Value) (size bytes : Nat) (ht : P.underlying t = some (.slice e)) (hi : P.info? e = some i) (hz : i.zero = some z)
    (hsize : i.size = size) (hby : i.bytes = bytes) (hzs : z.cells.size = size) (hsz : 0 < size) (hbm : bytes ≤ 1000)
    {α : Type} (enc : α → List Value) (hk : ∀ x, (enc x).length = size) (h1 : ∀ x, ∀ u ∈ enc x, u.oneCell' = true) (l : List α) (hl : l.length < 1000000) (u : α) (v : Value)
    (hgd : o.guard = none) (ho : o.op = .call { callee := .builtin .append, args := #[s, x], argTypes := #[t, t] }) (hs : a.eval s = v) (B c : Nat) (hx : a.eval x = .slice (some ⟨B, 0, none⟩) 1 c)
    (hf : Fr [] y w) (hown : w.ownsRow y.heap.size e size v l.length (l.flatMap enc)) {A : Array Value} {tB : TypeId} {fz : Nat × Nat} (hB : w.heap[B]? = some (.cells A tB fz)) (hA : A = (enc u).toArray)
    (h : ∀ v' w', w'.ownsRow y.heap.size e size v' (l ++ [u]).length ((l ++ [u]).flatMap enc) → Fr [] y w' → K (a.put o.dst v') w') :
    if Region.wanted o (yielded ops a.tmps) = true then Oper.wp P o a w K Q else E := by
  refine step_appv w hgd s x t ho y.heap.size e i z size bytes ht hi hz hsize hby hzs hsz v l.length _ hs hown _ 1 (enc u) hx (by rw [hk, Nat.one_mul]) (view_cells hB hA 1 c) (h1 u) (by unfold maxLen; omega) (bytes_ok (by omega) hbm) hf.size ?_
  intro v' w' h2 h3 _
  rw [← flat_snoc] at h2
  exact h v' w' (by rw [List.length_append]; exact h2) (hf.app hown (Nat.le_refl _) h3)
end Go.Proofs.Ytlhkgalmiajinaa
