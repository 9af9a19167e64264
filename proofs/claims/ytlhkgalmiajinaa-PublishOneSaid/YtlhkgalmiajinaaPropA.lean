/- What the rules of package prop come to: bits, of, set, Kind, May. No condition. -/
import Derived.Test.YtlhkgalmiajinaaSlices
import Derived.Test.YtlhkgalmiajinaaProg
namespace Go.Proofs.Ytlhkgalmiajinaa
open Go.RowKit

/-- Bits as one number. -/
def orB (l : List Nat) : Int := l.foldl (fun n k => bits .or .i64 n (2 ^ k)) 0
theorem orB_snoc (l : List Nat) (k : Nat) (h : k < l.length) : orB (l.take (k + 1)) = bits .or .i64 (orB (l.take k)) (2 ^ l[k]) := by
  rw [List.take_succ_eq_append_getElem h, orB, List.foldl_append]; rfl
theorem wrap_pow (x : Nat) (h : x < 32) : wrap64 (2 ^ x) = 2 ^ x := by
  have h1 : (2 : Int) ^ x ≤ 2 ^ 31 := by exact_mod_cast Nat.pow_le_pow_right (by decide) (show x ≤ 31 by omega)
  have h2 : (0 : Int) < 2 ^ x := Int.pow_pos (by decide)
  unfold wrap64; omega
def intC (k : Nat) : List Value := [.int .i64 (k : Int)]
theorem intC_len (x : Nat) : (intC x).length = 1 := rfl
set_option maxHeartbeats 1000000 in
theorem bits_any (v : Value) (l : List Nat) (w : World) (hv : View w v l.length (l.flatMap intC)) (h0 : 0 < l.length) (hl : l.length < 1000) (hk : ∀ x ∈ l, x < 32) :
    Calls Try.prog 114 #[v] w fun e w' => e = .returned (.int .i64 (orB l)) ∧ w = w' := by
  obtain ⟨b, off, c, rfl, hb, hc⟩ := hv.at intC_len (by decide) h0
  have HC := Lib.hid hc
  have HK := Lib.hid hk
  clear hc hv hk
  go_enter Try.func114, Try.ntmps114
  go_wp2
  go_loop [3, 8] (fun n i => ∃ k : Nat, i = .int .i64 k ∧ k ≤ l.length ∧ n = .int .i64 (orB (l.take k))) (fun _ i => l.length - (intOf i).toNat)
  case atStart => exact ⟨0, rfl, by omega, rfl⟩
  case round =>
    obtain ⟨k, rfl, hk, rfl⟩ := hrel
    by_cases hlt : k < l.length
    · have c0 : w.cell? ⟨b, off + k * 1, none⟩ = some (.int .i64 (l[k] : Int)) := HC.out k hlt 0 _ rfl
      rw [Nat.mul_one] at c0
      have hx := HK.out l[k] (List.getElem_mem hlt)
      have HS := Lib.hid (orB_snoc l k hlt)
      obtain ⟨x, hxx⟩ : ∃ x, l[k] = x := ⟨_, rfl⟩
      rw [hxx] at c0 hx HS
      clear hxx
      go_wp2
      go_round
      case rel => exact ⟨k + 1, by go_num, by omega, by rw [HS.out, wrap_pow x hx]⟩
      case measure => simp [intOf]; omega
    · go_wp2
      go_ret
      rw [List.take_of_length_le (by omega)]
      exact ⟨rfl, rfl⟩
theorem bitsN_any (H : Nat) (l : List Nat) (w : World) (n : Nat) (hn : n = l.length) (cs : Array Value) (hcs : cs = (l.flatMap intC).toArray) (h : w.heap[H]? = some (.cells cs 3 (0, 0))) (h0 : 0 < l.length) (hl : l.length < 1000) (hk : (l.all fun x => decide (x < 32)) = true) :
    Calls Try.prog 114 #[.slice (some ⟨H, 0, none⟩) n n] w fun e w' => e = .returned (.int .i64 (orB l)) ∧ w = w' := by
  subst hn hcs
  refine bits_any _ l w ⟨_, _, rfl, Or.inr ⟨H, 0, rfl, fun j u hj => ?_⟩⟩ h0 hl (fun x hx => by simpa using List.all_eq_true.1 hk x hx)
  rw [cell_of_row w H (0 + j) _ _ _ h, Nat.zero_add]
  simpa using hj
theorem acks_any (w : World) :
    Calls Try.prog 115 #[] w fun e w' => e = .returned (.int .i64 51956) ∧ Fr [] w w' := by
  go_enter Try.func115, Try.ntmps115
  go_wp2_with fail
  refine (bitsN_any w.heap.size [2, 4, 5, 6, 7, 9, 11, 14, 15] _ 9 rfl _ rfl (blk_new _ _) (by decide) (by decide) (by decide)).mono ?_
  rintro _ w1 ⟨rfl, rfl⟩
  rw [show orB [2, 4, 5, 6, 7, 9, 11, 14, 15] = 51956 from by decide +kernel]
  go_wp2
  go_ret
  exact ⟨rfl, (Fr.refl _ _).alloc _⟩
structure Rule where
  kind : Int
  inn : Int
  least : Nat
  most : Nat
  many : Int
/-- The rules, by the identifier. -/
def ruleOf (id : Int) : Rule :=
  if id = 1 then ⟨1, 65544, 0, 1, 0⟩ else if id = 2 then ⟨3, 65544, 0, 4294967295, 0⟩ else if id = 3 then ⟨5, 65544, 0, 0, 0⟩ else if id = 8 then ⟨5, 65544, 0, 0, 0⟩
  else if id = 9 then ⟨6, 65544, 0, 0, 0⟩ else if id = 11 then ⟨4, 264, 1, 268435455, 8⟩ else if id = 17 then ⟨3, 16390, 0, 4294967295, 0⟩ else if id = 18 then ⟨5, 4, 0, 0, 0⟩
  else if id = 19 then ⟨2, 4, 0, 65535, 0⟩ else if id = 21 then ⟨5, 32774, 0, 0, 0⟩ else if id = 22 then ⟨6, 32774, 0, 0, 0⟩ else if id = 23 then ⟨1, 2, 0, 1, 0⟩ else if id = 25 then ⟨1, 2, 0, 1, 0⟩
  else if id = 24 then ⟨3, 65536, 0, 4294967295, 0⟩ else if id = 26 then ⟨5, 4, 0, 0, 0⟩ else if id = 28 then ⟨5, 16388, 0, 0, 0⟩ else if id = 31 then ⟨5, 51956, 0, 0, 0⟩
  else if id = 33 then ⟨2, 6, 1, 65535, 0⟩ else if id = 34 then ⟨2, 6, 0, 65535, 0⟩ else if id = 35 then ⟨2, 8, 0, 65535, 0⟩ else if id = 36 then ⟨1, 4, 0, 1, 0⟩ else if id = 37 then ⟨1, 4, 0, 1, 0⟩
  else if id = 40 then ⟨1, 4, 0, 1, 0⟩ else if id = 41 then ⟨1, 4, 0, 1, 0⟩ else if id = 42 then ⟨1, 4, 0, 1, 0⟩ else if id = 38 then ⟨7, 118782, 0, 0, 118782⟩ else if id = 39 then ⟨3, 6, 1, 4294967295, 0⟩ else ⟨0, 0, 0, 0, 0⟩
def ruleV (r : Rule) : Value := .agg #[.int .i64 r.kind, .int .i64 r.inn, .int .u32 r.least, .int .u32 r.most, .int .i64 r.many]
theorem blk_atH (w : World) (o : Obj) (H : Nat) (hH : w.heap.size = H) : (w.alloc o).heap[H]? = some o := by subst hH; exact blk_new w o
set_option maxRecDepth 100000 in
theorem of1_any (w : World) : Calls Try.prog 99 #[.int .i64 1] w fun e w' => e = .returned (ruleV ⟨1, 65544, 0, 1, 0⟩) ∧ Fr [] w w' := by
  have hor : bits .or .i64 8 65536 = 65544 := by decide +kernel
  go_enter Try.func99, Try.ntmps99
  go_wp2_with fail
  refine (bitsN_any _ [3] _ 1 rfl _ rfl (blk_atH _ _ _ (by simp)) (by decide) (by decide) (by decide)).mono ?_
  rintro _ w1 ⟨rfl, rfl⟩
  rw [show orB [3] = 8 from by decide +kernel]
  go_wp2
  refine bodyPost_ret (v := .agg #[.int .i64 1, .int .i64 65544, .int .u32 0, .int .u32 1, .int .i64 0]) (by simp [results, Try.results99, go_sem, *]) rfl ?_
  exact ⟨rfl, (by repeat (first | exact Fr.refl _ _ | (with_reducible apply Fr.alloc) | (with_reducible refine Fr.setCell ?_ (Or.inl (by simp)) _)))⟩
set_option maxRecDepth 100000 in
theorem of2_any (w : World) : Calls Try.prog 99 #[.int .i64 2] w fun e w' => e = .returned (ruleV ⟨3, 65544, 0, 4294967295, 0⟩) ∧ Fr [] w w' := by
  have hor : bits .or .i64 8 65536 = 65544 := by decide +kernel
  go_enter Try.func99, Try.ntmps99
  go_wp2_with fail
  refine (bitsN_any _ [3] _ 1 rfl _ rfl (blk_atH _ _ _ (by simp)) (by decide) (by decide) (by decide)).mono ?_
  rintro _ w1 ⟨rfl, rfl⟩
  rw [show orB [3] = 8 from by decide +kernel]
  go_wp2
  refine bodyPost_ret (v := .agg #[.int .i64 3, .int .i64 65544, .int .u32 0, .int .u32 4294967295, .int .i64 0]) (by simp [results, Try.results99, go_sem, *]) rfl ?_
  exact ⟨rfl, (by repeat (first | exact Fr.refl _ _ | (with_reducible apply Fr.alloc) | (with_reducible refine Fr.setCell ?_ (Or.inl (by simp)) _)))⟩
set_option maxRecDepth 100000 in
theorem of3_any (w : World) : Calls Try.prog 99 #[.int .i64 3] w fun e w' => e = .returned (ruleV ⟨5, 65544, 0, 0, 0⟩) ∧ Fr [] w w' := by
  have hor : bits .or .i64 8 65536 = 65544 := by decide +kernel
  go_enter Try.func99, Try.ntmps99
  go_wp2_with fail
  refine (bitsN_any _ [3] _ 1 rfl _ rfl (blk_atH _ _ _ (by simp)) (by decide) (by decide) (by decide)).mono ?_
  rintro _ w1 ⟨rfl, rfl⟩
  rw [show orB [3] = 8 from by decide +kernel]
  go_wp2
  refine bodyPost_ret (v := .agg #[.int .i64 5, .int .i64 65544, .int .u32 0, .int .u32 0, .int .i64 0]) (by simp [results, Try.results99, go_sem, *]) rfl ?_
  exact ⟨rfl, (by repeat (first | exact Fr.refl _ _ | (with_reducible apply Fr.alloc) | (with_reducible refine Fr.setCell ?_ (Or.inl (by simp)) _)))⟩
set_option maxRecDepth 100000 in
theorem of8_any (w : World) : Calls Try.prog 99 #[.int .i64 8] w fun e w' => e = .returned (ruleV ⟨5, 65544, 0, 0, 0⟩) ∧ Fr [] w w' := by
  have hor : bits .or .i64 8 65536 = 65544 := by decide +kernel
  go_enter Try.func99, Try.ntmps99
  go_wp2_with fail
  refine (bitsN_any _ [3] _ 1 rfl _ rfl (blk_atH _ _ _ (by simp)) (by decide) (by decide) (by decide)).mono ?_
  rintro _ w1 ⟨rfl, rfl⟩
  rw [show orB [3] = 8 from by decide +kernel]
  go_wp2
  refine bodyPost_ret (v := .agg #[.int .i64 5, .int .i64 65544, .int .u32 0, .int .u32 0, .int .i64 0]) (by simp [results, Try.results99, go_sem, *]) rfl ?_
  exact ⟨rfl, (by repeat (first | exact Fr.refl _ _ | (with_reducible apply Fr.alloc) | (with_reducible refine Fr.setCell ?_ (Or.inl (by simp)) _)))⟩
set_option maxRecDepth 100000 in
theorem of9_any (w : World) : Calls Try.prog 99 #[.int .i64 9] w fun e w' => e = .returned (ruleV ⟨6, 65544, 0, 0, 0⟩) ∧ Fr [] w w' := by
  have hor : bits .or .i64 8 65536 = 65544 := by decide +kernel
  go_enter Try.func99, Try.ntmps99
  go_wp2_with fail
  refine (bitsN_any _ [3] _ 1 rfl _ rfl (blk_atH _ _ _ (by simp)) (by decide) (by decide) (by decide)).mono ?_
  rintro _ w1 ⟨rfl, rfl⟩
  rw [show orB [3] = 8 from by decide +kernel]
  go_wp2
  refine bodyPost_ret (v := .agg #[.int .i64 6, .int .i64 65544, .int .u32 0, .int .u32 0, .int .i64 0]) (by simp [results, Try.results99, go_sem, *]) rfl ?_
  exact ⟨rfl, (by repeat (first | exact Fr.refl _ _ | (with_reducible apply Fr.alloc) | (with_reducible refine Fr.setCell ?_ (Or.inl (by simp)) _)))⟩
set_option maxRecDepth 100000 in
theorem of24_any (w : World) : Calls Try.prog 99 #[.int .i64 24] w fun e w' => e = .returned (ruleV ⟨3, 65536, 0, 4294967295, 0⟩) ∧ Fr [] w w' := by
  have hor : bits .or .i64 8 65536 = 65544 := by decide +kernel
  go_enter Try.func99, Try.ntmps99
  go_wp2_with fail
  refine (bitsN_any _ [3] _ 1 rfl _ rfl (blk_atH _ _ _ (by simp)) (by decide) (by decide) (by decide)).mono ?_
  rintro _ w1 ⟨rfl, rfl⟩
  rw [show orB [3] = 8 from by decide +kernel]
  go_wp2
  refine bodyPost_ret (v := .agg #[.int .i64 3, .int .i64 65536, .int .u32 0, .int .u32 4294967295, .int .i64 0]) (by simp [results, Try.results99, go_sem, *]) rfl ?_
  exact ⟨rfl, (by repeat (first | exact Fr.refl _ _ | (with_reducible apply Fr.alloc) | (with_reducible refine Fr.setCell ?_ (Or.inl (by simp)) _)))⟩
set_option maxRecDepth 100000 in
theorem of17_any (w : World) : Calls Try.prog 99 #[.int .i64 17] w fun e w' => e = .returned (ruleV ⟨3, 16390, 0, 4294967295, 0⟩) ∧ Fr [] w w' := by
  have hor : bits .or .i64 8 65536 = 65544 := by decide +kernel
  go_enter Try.func99, Try.ntmps99
  go_wp2_with fail
  refine (bitsN_any _ [3] _ 1 rfl _ rfl (blk_atH _ _ _ (by simp)) (by decide) (by decide) (by decide)).mono ?_
  rintro _ w1 ⟨rfl, rfl⟩
  rw [show orB [3] = 8 from by decide +kernel]
  go_wp2_with fail
  refine (bitsN_any _ [1, 2, 14] _ 3 rfl _ rfl (blk_atH _ _ _ (by simp)) (by decide) (by decide) (by decide)).mono ?_
  rintro _ w1 ⟨rfl, rfl⟩
  rw [show orB [1, 2, 14] = 16390 from by decide +kernel]
  go_wp2
  refine bodyPost_ret (v := .agg #[.int .i64 3, .int .i64 16390, .int .u32 0, .int .u32 4294967295, .int .i64 0]) (by simp [results, Try.results99, go_sem, *]) rfl ?_
  exact ⟨rfl, (by repeat (first | exact Fr.refl _ _ | (with_reducible apply Fr.alloc) | (with_reducible refine Fr.setCell ?_ (Or.inl (by simp)) _)))⟩
set_option maxRecDepth 100000 in
theorem of18_any (w : World) : Calls Try.prog 99 #[.int .i64 18] w fun e w' => e = .returned (ruleV ⟨5, 4, 0, 0, 0⟩) ∧ Fr [] w w' := by
  have hor : bits .or .i64 8 65536 = 65544 := by decide +kernel
  go_enter Try.func99, Try.ntmps99
  go_wp2_with fail
  refine (bitsN_any _ [3] _ 1 rfl _ rfl (blk_atH _ _ _ (by simp)) (by decide) (by decide) (by decide)).mono ?_
  rintro _ w1 ⟨rfl, rfl⟩
  rw [show orB [3] = 8 from by decide +kernel]
  go_wp2_with fail
  refine (bitsN_any _ [2] _ 1 rfl _ rfl (blk_atH _ _ _ (by simp)) (by decide) (by decide) (by decide)).mono ?_
  rintro _ w1 ⟨rfl, rfl⟩
  rw [show orB [2] = 4 from by decide +kernel]
  go_wp2
  refine bodyPost_ret (v := .agg #[.int .i64 5, .int .i64 4, .int .u32 0, .int .u32 0, .int .i64 0]) (by simp [results, Try.results99, go_sem, *]) rfl ?_
  exact ⟨rfl, (by repeat (first | exact Fr.refl _ _ | (with_reducible apply Fr.alloc) | (with_reducible refine Fr.setCell ?_ (Or.inl (by simp)) _)))⟩
set_option maxRecDepth 100000 in
theorem of19_any (w : World) : Calls Try.prog 99 #[.int .i64 19] w fun e w' => e = .returned (ruleV ⟨2, 4, 0, 65535, 0⟩) ∧ Fr [] w w' := by
  have hor : bits .or .i64 8 65536 = 65544 := by decide +kernel
  go_enter Try.func99, Try.ntmps99
  go_wp2_with fail
  refine (bitsN_any _ [3] _ 1 rfl _ rfl (blk_atH _ _ _ (by simp)) (by decide) (by decide) (by decide)).mono ?_
  rintro _ w1 ⟨rfl, rfl⟩
  rw [show orB [3] = 8 from by decide +kernel]
  go_wp2_with fail
  refine (bitsN_any _ [2] _ 1 rfl _ rfl (blk_atH _ _ _ (by simp)) (by decide) (by decide) (by decide)).mono ?_
  rintro _ w1 ⟨rfl, rfl⟩
  rw [show orB [2] = 4 from by decide +kernel]
  go_wp2
  refine bodyPost_ret (v := .agg #[.int .i64 2, .int .i64 4, .int .u32 0, .int .u32 65535, .int .i64 0]) (by simp [results, Try.results99, go_sem, *]) rfl ?_
  exact ⟨rfl, (by repeat (first | exact Fr.refl _ _ | (with_reducible apply Fr.alloc) | (with_reducible refine Fr.setCell ?_ (Or.inl (by simp)) _)))⟩
set_option maxRecDepth 100000 in
theorem of21_any (w : World) : Calls Try.prog 99 #[.int .i64 21] w fun e w' => e = .returned (ruleV ⟨5, 32774, 0, 0, 0⟩) ∧ Fr [] w w' := by
  have hor : bits .or .i64 8 65536 = 65544 := by decide +kernel
  go_enter Try.func99, Try.ntmps99
  go_wp2_with fail
  refine (bitsN_any _ [3] _ 1 rfl _ rfl (blk_atH _ _ _ (by simp)) (by decide) (by decide) (by decide)).mono ?_
  rintro _ w1 ⟨rfl, rfl⟩
  rw [show orB [3] = 8 from by decide +kernel]
  go_wp2_with fail
  refine (bitsN_any _ [1, 2, 15] _ 3 rfl _ rfl (blk_atH _ _ _ (by simp)) (by decide) (by decide) (by decide)).mono ?_
  rintro _ w1 ⟨rfl, rfl⟩
  rw [show orB [1, 2, 15] = 32774 from by decide +kernel]
  go_wp2
  refine bodyPost_ret (v := .agg #[.int .i64 5, .int .i64 32774, .int .u32 0, .int .u32 0, .int .i64 0]) (by simp [results, Try.results99, go_sem, *]) rfl ?_
  exact ⟨rfl, (by repeat (first | exact Fr.refl _ _ | (with_reducible apply Fr.alloc) | (with_reducible refine Fr.setCell ?_ (Or.inl (by simp)) _)))⟩
set_option maxRecDepth 100000 in
theorem of22_any (w : World) : Calls Try.prog 99 #[.int .i64 22] w fun e w' => e = .returned (ruleV ⟨6, 32774, 0, 0, 0⟩) ∧ Fr [] w w' := by
  have hor : bits .or .i64 8 65536 = 65544 := by decide +kernel
  go_enter Try.func99, Try.ntmps99
  go_wp2_with fail
  refine (bitsN_any _ [3] _ 1 rfl _ rfl (blk_atH _ _ _ (by simp)) (by decide) (by decide) (by decide)).mono ?_
  rintro _ w1 ⟨rfl, rfl⟩
  rw [show orB [3] = 8 from by decide +kernel]
  go_wp2_with fail
  refine (bitsN_any _ [1, 2, 15] _ 3 rfl _ rfl (blk_atH _ _ _ (by simp)) (by decide) (by decide) (by decide)).mono ?_
  rintro _ w1 ⟨rfl, rfl⟩
  rw [show orB [1, 2, 15] = 32774 from by decide +kernel]
  go_wp2
  refine bodyPost_ret (v := .agg #[.int .i64 6, .int .i64 32774, .int .u32 0, .int .u32 0, .int .i64 0]) (by simp [results, Try.results99, go_sem, *]) rfl ?_
  exact ⟨rfl, (by repeat (first | exact Fr.refl _ _ | (with_reducible apply Fr.alloc) | (with_reducible refine Fr.setCell ?_ (Or.inl (by simp)) _)))⟩
set_option maxRecDepth 100000 in
theorem of23_any (w : World) : Calls Try.prog 99 #[.int .i64 23] w fun e w' => e = .returned (ruleV ⟨1, 2, 0, 1, 0⟩) ∧ Fr [] w w' := by
  have hor : bits .or .i64 8 65536 = 65544 := by decide +kernel
  go_enter Try.func99, Try.ntmps99
  go_wp2_with fail
  refine (bitsN_any _ [3] _ 1 rfl _ rfl (blk_atH _ _ _ (by simp)) (by decide) (by decide) (by decide)).mono ?_
  rintro _ w1 ⟨rfl, rfl⟩
  rw [show orB [3] = 8 from by decide +kernel]
  go_wp2_with fail
  refine (bitsN_any _ [1] _ 1 rfl _ rfl (blk_atH _ _ _ (by simp)) (by decide) (by decide) (by decide)).mono ?_
  rintro _ w1 ⟨rfl, rfl⟩
  rw [show orB [1] = 2 from by decide +kernel]
  go_wp2
  refine bodyPost_ret (v := .agg #[.int .i64 1, .int .i64 2, .int .u32 0, .int .u32 1, .int .i64 0]) (by simp [results, Try.results99, go_sem, *]) rfl ?_
  exact ⟨rfl, (by repeat (first | exact Fr.refl _ _ | (with_reducible apply Fr.alloc) | (with_reducible refine Fr.setCell ?_ (Or.inl (by simp)) _)))⟩
set_option maxRecDepth 100000 in
theorem of25_any (w : World) : Calls Try.prog 99 #[.int .i64 25] w fun e w' => e = .returned (ruleV ⟨1, 2, 0, 1, 0⟩) ∧ Fr [] w w' := by
  have hor : bits .or .i64 8 65536 = 65544 := by decide +kernel
  go_enter Try.func99, Try.ntmps99
  go_wp2_with fail
  refine (bitsN_any _ [3] _ 1 rfl _ rfl (blk_atH _ _ _ (by simp)) (by decide) (by decide) (by decide)).mono ?_
  rintro _ w1 ⟨rfl, rfl⟩
  rw [show orB [3] = 8 from by decide +kernel]
  go_wp2_with fail
  refine (bitsN_any _ [1] _ 1 rfl _ rfl (blk_atH _ _ _ (by simp)) (by decide) (by decide) (by decide)).mono ?_
  rintro _ w1 ⟨rfl, rfl⟩
  rw [show orB [1] = 2 from by decide +kernel]
  go_wp2
  refine bodyPost_ret (v := .agg #[.int .i64 1, .int .i64 2, .int .u32 0, .int .u32 1, .int .i64 0]) (by simp [results, Try.results99, go_sem, *]) rfl ?_
  exact ⟨rfl, (by repeat (first | exact Fr.refl _ _ | (with_reducible apply Fr.alloc) | (with_reducible refine Fr.setCell ?_ (Or.inl (by simp)) _)))⟩
set_option maxRecDepth 100000 in
theorem of26_any (w : World) : Calls Try.prog 99 #[.int .i64 26] w fun e w' => e = .returned (ruleV ⟨5, 4, 0, 0, 0⟩) ∧ Fr [] w w' := by
  have hor : bits .or .i64 8 65536 = 65544 := by decide +kernel
  go_enter Try.func99, Try.ntmps99
  go_wp2_with fail
  refine (bitsN_any _ [3] _ 1 rfl _ rfl (blk_atH _ _ _ (by simp)) (by decide) (by decide) (by decide)).mono ?_
  rintro _ w1 ⟨rfl, rfl⟩
  rw [show orB [3] = 8 from by decide +kernel]
  go_wp2_with fail
  refine (bitsN_any _ [2] _ 1 rfl _ rfl (blk_atH _ _ _ (by simp)) (by decide) (by decide) (by decide)).mono ?_
  rintro _ w1 ⟨rfl, rfl⟩
  rw [show orB [2] = 4 from by decide +kernel]
  go_wp2
  refine bodyPost_ret (v := .agg #[.int .i64 5, .int .i64 4, .int .u32 0, .int .u32 0, .int .i64 0]) (by simp [results, Try.results99, go_sem, *]) rfl ?_
  exact ⟨rfl, (by repeat (first | exact Fr.refl _ _ | (with_reducible apply Fr.alloc) | (with_reducible refine Fr.setCell ?_ (Or.inl (by simp)) _)))⟩
set_option maxRecDepth 100000 in
theorem of28_any (w : World) : Calls Try.prog 99 #[.int .i64 28] w fun e w' => e = .returned (ruleV ⟨5, 16388, 0, 0, 0⟩) ∧ Fr [] w w' := by
  have hor : bits .or .i64 8 65536 = 65544 := by decide +kernel
  go_enter Try.func99, Try.ntmps99
  go_wp2_with fail
  refine (bitsN_any _ [3] _ 1 rfl _ rfl (blk_atH _ _ _ (by simp)) (by decide) (by decide) (by decide)).mono ?_
  rintro _ w1 ⟨rfl, rfl⟩
  rw [show orB [3] = 8 from by decide +kernel]
  go_wp2_with fail
  refine (bitsN_any _ [2, 14] _ 2 rfl _ rfl (blk_atH _ _ _ (by simp)) (by decide) (by decide) (by decide)).mono ?_
  rintro _ w1 ⟨rfl, rfl⟩
  rw [show orB [2, 14] = 16388 from by decide +kernel]
  go_wp2
  refine bodyPost_ret (v := .agg #[.int .i64 5, .int .i64 16388, .int .u32 0, .int .u32 0, .int .i64 0]) (by simp [results, Try.results99, go_sem, *]) rfl ?_
  exact ⟨rfl, (by repeat (first | exact Fr.refl _ _ | (with_reducible apply Fr.alloc) | (with_reducible refine Fr.setCell ?_ (Or.inl (by simp)) _)))⟩
set_option maxRecDepth 100000 in
theorem of33_any (w : World) : Calls Try.prog 99 #[.int .i64 33] w fun e w' => e = .returned (ruleV ⟨2, 6, 1, 65535, 0⟩) ∧ Fr [] w w' := by
  have hor : bits .or .i64 8 65536 = 65544 := by decide +kernel
  go_enter Try.func99, Try.ntmps99
  go_wp2_with fail
  refine (bitsN_any _ [3] _ 1 rfl _ rfl (blk_atH _ _ _ (by simp)) (by decide) (by decide) (by decide)).mono ?_
  rintro _ w1 ⟨rfl, rfl⟩
  rw [show orB [3] = 8 from by decide +kernel]
  go_wp2_with fail
  refine (bitsN_any _ [1, 2] _ 2 rfl _ rfl (blk_atH _ _ _ (by simp)) (by decide) (by decide) (by decide)).mono ?_
  rintro _ w1 ⟨rfl, rfl⟩
  rw [show orB [1, 2] = 6 from by decide +kernel]
  go_wp2
  refine bodyPost_ret (v := .agg #[.int .i64 2, .int .i64 6, .int .u32 1, .int .u32 65535, .int .i64 0]) (by simp [results, Try.results99, go_sem, *]) rfl ?_
  exact ⟨rfl, (by repeat (first | exact Fr.refl _ _ | (with_reducible apply Fr.alloc) | (with_reducible refine Fr.setCell ?_ (Or.inl (by simp)) _)))⟩
set_option maxRecDepth 100000 in
theorem of34_any (w : World) : Calls Try.prog 99 #[.int .i64 34] w fun e w' => e = .returned (ruleV ⟨2, 6, 0, 65535, 0⟩) ∧ Fr [] w w' := by
  have hor : bits .or .i64 8 65536 = 65544 := by decide +kernel
  go_enter Try.func99, Try.ntmps99
  go_wp2_with fail
  refine (bitsN_any _ [3] _ 1 rfl _ rfl (blk_atH _ _ _ (by simp)) (by decide) (by decide) (by decide)).mono ?_
  rintro _ w1 ⟨rfl, rfl⟩
  rw [show orB [3] = 8 from by decide +kernel]
  go_wp2_with fail
  refine (bitsN_any _ [1, 2] _ 2 rfl _ rfl (blk_atH _ _ _ (by simp)) (by decide) (by decide) (by decide)).mono ?_
  rintro _ w1 ⟨rfl, rfl⟩
  rw [show orB [1, 2] = 6 from by decide +kernel]
  go_wp2
  refine bodyPost_ret (v := .agg #[.int .i64 2, .int .i64 6, .int .u32 0, .int .u32 65535, .int .i64 0]) (by simp [results, Try.results99, go_sem, *]) rfl ?_
  exact ⟨rfl, (by repeat (first | exact Fr.refl _ _ | (with_reducible apply Fr.alloc) | (with_reducible refine Fr.setCell ?_ (Or.inl (by simp)) _)))⟩
set_option maxRecDepth 100000 in
theorem of35_any (w : World) : Calls Try.prog 99 #[.int .i64 35] w fun e w' => e = .returned (ruleV ⟨2, 8, 0, 65535, 0⟩) ∧ Fr [] w w' := by
  have hor : bits .or .i64 8 65536 = 65544 := by decide +kernel
  go_enter Try.func99, Try.ntmps99
  go_wp2_with fail
  refine (bitsN_any _ [3] _ 1 rfl _ rfl (blk_atH _ _ _ (by simp)) (by decide) (by decide) (by decide)).mono ?_
  rintro _ w1 ⟨rfl, rfl⟩
  rw [show orB [3] = 8 from by decide +kernel]
  go_wp2_with fail
  refine (bitsN_any _ [3] _ 1 rfl _ rfl (blk_atH _ _ _ (by simp)) (by decide) (by decide) (by decide)).mono ?_
  rintro _ w1 ⟨rfl, rfl⟩
  rw [show orB [3] = 8 from by decide +kernel]
  go_wp2
  refine bodyPost_ret (v := .agg #[.int .i64 2, .int .i64 8, .int .u32 0, .int .u32 65535, .int .i64 0]) (by simp [results, Try.results99, go_sem, *]) rfl ?_
  exact ⟨rfl, (by repeat (first | exact Fr.refl _ _ | (with_reducible apply Fr.alloc) | (with_reducible refine Fr.setCell ?_ (Or.inl (by simp)) _)))⟩
set_option maxRecDepth 100000 in
theorem of36_any (w : World) : Calls Try.prog 99 #[.int .i64 36] w fun e w' => e = .returned (ruleV ⟨1, 4, 0, 1, 0⟩) ∧ Fr [] w w' := by
  have hor : bits .or .i64 8 65536 = 65544 := by decide +kernel
  go_enter Try.func99, Try.ntmps99
  go_wp2_with fail
  refine (bitsN_any _ [3] _ 1 rfl _ rfl (blk_atH _ _ _ (by simp)) (by decide) (by decide) (by decide)).mono ?_
  rintro _ w1 ⟨rfl, rfl⟩
  rw [show orB [3] = 8 from by decide +kernel]
  go_wp2_with fail
  refine (bitsN_any _ [2] _ 1 rfl _ rfl (blk_atH _ _ _ (by simp)) (by decide) (by decide) (by decide)).mono ?_
  rintro _ w1 ⟨rfl, rfl⟩
  rw [show orB [2] = 4 from by decide +kernel]
  go_wp2
  refine bodyPost_ret (v := .agg #[.int .i64 1, .int .i64 4, .int .u32 0, .int .u32 1, .int .i64 0]) (by simp [results, Try.results99, go_sem, *]) rfl ?_
  exact ⟨rfl, (by repeat (first | exact Fr.refl _ _ | (with_reducible apply Fr.alloc) | (with_reducible refine Fr.setCell ?_ (Or.inl (by simp)) _)))⟩
set_option maxRecDepth 100000 in
theorem of37_any (w : World) : Calls Try.prog 99 #[.int .i64 37] w fun e w' => e = .returned (ruleV ⟨1, 4, 0, 1, 0⟩) ∧ Fr [] w w' := by
  have hor : bits .or .i64 8 65536 = 65544 := by decide +kernel
  go_enter Try.func99, Try.ntmps99
  go_wp2_with fail
  refine (bitsN_any _ [3] _ 1 rfl _ rfl (blk_atH _ _ _ (by simp)) (by decide) (by decide) (by decide)).mono ?_
  rintro _ w1 ⟨rfl, rfl⟩
  rw [show orB [3] = 8 from by decide +kernel]
  go_wp2_with fail
  refine (bitsN_any _ [2] _ 1 rfl _ rfl (blk_atH _ _ _ (by simp)) (by decide) (by decide) (by decide)).mono ?_
  rintro _ w1 ⟨rfl, rfl⟩
  rw [show orB [2] = 4 from by decide +kernel]
  go_wp2
  refine bodyPost_ret (v := .agg #[.int .i64 1, .int .i64 4, .int .u32 0, .int .u32 1, .int .i64 0]) (by simp [results, Try.results99, go_sem, *]) rfl ?_
  exact ⟨rfl, (by repeat (first | exact Fr.refl _ _ | (with_reducible apply Fr.alloc) | (with_reducible refine Fr.setCell ?_ (Or.inl (by simp)) _)))⟩
set_option maxRecDepth 100000 in
theorem of40_any (w : World) : Calls Try.prog 99 #[.int .i64 40] w fun e w' => e = .returned (ruleV ⟨1, 4, 0, 1, 0⟩) ∧ Fr [] w w' := by
  have hor : bits .or .i64 8 65536 = 65544 := by decide +kernel
  go_enter Try.func99, Try.ntmps99
  go_wp2_with fail
  refine (bitsN_any _ [3] _ 1 rfl _ rfl (blk_atH _ _ _ (by simp)) (by decide) (by decide) (by decide)).mono ?_
  rintro _ w1 ⟨rfl, rfl⟩
  rw [show orB [3] = 8 from by decide +kernel]
  go_wp2_with fail
  refine (bitsN_any _ [2] _ 1 rfl _ rfl (blk_atH _ _ _ (by simp)) (by decide) (by decide) (by decide)).mono ?_
  rintro _ w1 ⟨rfl, rfl⟩
  rw [show orB [2] = 4 from by decide +kernel]
  go_wp2
  refine bodyPost_ret (v := .agg #[.int .i64 1, .int .i64 4, .int .u32 0, .int .u32 1, .int .i64 0]) (by simp [results, Try.results99, go_sem, *]) rfl ?_
  exact ⟨rfl, (by repeat (first | exact Fr.refl _ _ | (with_reducible apply Fr.alloc) | (with_reducible refine Fr.setCell ?_ (Or.inl (by simp)) _)))⟩
set_option maxRecDepth 100000 in
theorem of41_any (w : World) : Calls Try.prog 99 #[.int .i64 41] w fun e w' => e = .returned (ruleV ⟨1, 4, 0, 1, 0⟩) ∧ Fr [] w w' := by
  have hor : bits .or .i64 8 65536 = 65544 := by decide +kernel
  go_enter Try.func99, Try.ntmps99
  go_wp2_with fail
  refine (bitsN_any _ [3] _ 1 rfl _ rfl (blk_atH _ _ _ (by simp)) (by decide) (by decide) (by decide)).mono ?_
  rintro _ w1 ⟨rfl, rfl⟩
  rw [show orB [3] = 8 from by decide +kernel]
  go_wp2_with fail
  refine (bitsN_any _ [2] _ 1 rfl _ rfl (blk_atH _ _ _ (by simp)) (by decide) (by decide) (by decide)).mono ?_
  rintro _ w1 ⟨rfl, rfl⟩
  rw [show orB [2] = 4 from by decide +kernel]
  go_wp2
  refine bodyPost_ret (v := .agg #[.int .i64 1, .int .i64 4, .int .u32 0, .int .u32 1, .int .i64 0]) (by simp [results, Try.results99, go_sem, *]) rfl ?_
  exact ⟨rfl, (by repeat (first | exact Fr.refl _ _ | (with_reducible apply Fr.alloc) | (with_reducible refine Fr.setCell ?_ (Or.inl (by simp)) _)))⟩
set_option maxRecDepth 100000 in
theorem of42_any (w : World) : Calls Try.prog 99 #[.int .i64 42] w fun e w' => e = .returned (ruleV ⟨1, 4, 0, 1, 0⟩) ∧ Fr [] w w' := by
  have hor : bits .or .i64 8 65536 = 65544 := by decide +kernel
  go_enter Try.func99, Try.ntmps99
  go_wp2_with fail
  refine (bitsN_any _ [3] _ 1 rfl _ rfl (blk_atH _ _ _ (by simp)) (by decide) (by decide) (by decide)).mono ?_
  rintro _ w1 ⟨rfl, rfl⟩
  rw [show orB [3] = 8 from by decide +kernel]
  go_wp2_with fail
  refine (bitsN_any _ [2] _ 1 rfl _ rfl (blk_atH _ _ _ (by simp)) (by decide) (by decide) (by decide)).mono ?_
  rintro _ w1 ⟨rfl, rfl⟩
  rw [show orB [2] = 4 from by decide +kernel]
  go_wp2
  refine bodyPost_ret (v := .agg #[.int .i64 1, .int .i64 4, .int .u32 0, .int .u32 1, .int .i64 0]) (by simp [results, Try.results99, go_sem, *]) rfl ?_
  exact ⟨rfl, (by repeat (first | exact Fr.refl _ _ | (with_reducible apply Fr.alloc) | (with_reducible refine Fr.setCell ?_ (Or.inl (by simp)) _)))⟩
set_option maxRecDepth 100000 in
theorem of39_any (w : World) : Calls Try.prog 99 #[.int .i64 39] w fun e w' => e = .returned (ruleV ⟨3, 6, 1, 4294967295, 0⟩) ∧ Fr [] w w' := by
  have hor : bits .or .i64 8 65536 = 65544 := by decide +kernel
  go_enter Try.func99, Try.ntmps99
  go_wp2_with fail
  refine (bitsN_any _ [3] _ 1 rfl _ rfl (blk_atH _ _ _ (by simp)) (by decide) (by decide) (by decide)).mono ?_
  rintro _ w1 ⟨rfl, rfl⟩
  rw [show orB [3] = 8 from by decide +kernel]
  go_wp2_with fail
  refine (bitsN_any _ [1, 2] _ 2 rfl _ rfl (blk_atH _ _ _ (by simp)) (by decide) (by decide) (by decide)).mono ?_
  rintro _ w1 ⟨rfl, rfl⟩
  rw [show orB [1, 2] = 6 from by decide +kernel]
  go_wp2
  refine bodyPost_ret (v := .agg #[.int .i64 3, .int .i64 6, .int .u32 1, .int .u32 4294967295, .int .i64 0]) (by simp [results, Try.results99, go_sem, *]) rfl ?_
  exact ⟨rfl, (by repeat (first | exact Fr.refl _ _ | (with_reducible apply Fr.alloc) | (with_reducible refine Fr.setCell ?_ (Or.inl (by simp)) _)))⟩
set_option maxRecDepth 100000 in
theorem of11_any (w : World) : Calls Try.prog 99 #[.int .i64 11] w fun e w' => e = .returned (ruleV ⟨4, 264, 1, 268435455, 8⟩) ∧ Fr [] w w' := by
  have hor : bits .or .i64 8 65536 = 65544 := by decide +kernel
  go_enter Try.func99, Try.ntmps99
  go_wp2_with fail
  refine (bitsN_any _ [3] _ 1 rfl _ rfl (blk_atH _ _ _ (by simp)) (by decide) (by decide) (by decide)).mono ?_
  rintro _ w1 ⟨rfl, rfl⟩
  rw [show orB [3] = 8 from by decide +kernel]
  go_wp2_with fail
  refine (bitsN_any _ [3, 8] _ 2 rfl _ rfl (blk_atH _ _ _ (by simp)) (by decide) (by decide) (by decide)).mono ?_
  rintro _ w1 ⟨rfl, rfl⟩
  rw [show orB [3, 8] = 264 from by decide +kernel]
  go_wp2_with fail
  refine (bitsN_any _ [3] _ 1 rfl _ rfl (blk_atH _ _ _ (by simp)) (by decide) (by decide) (by decide)).mono ?_
  rintro _ w1 ⟨rfl, rfl⟩
  rw [show orB [3] = 8 from by decide +kernel]
  go_wp2
  refine bodyPost_ret (v := .agg #[.int .i64 4, .int .i64 264, .int .u32 1, .int .u32 268435455, .int .i64 8]) (by simp [results, Try.results99, go_sem, *]) rfl ?_
  exact ⟨rfl, (by repeat (first | exact Fr.refl _ _ | (with_reducible apply Fr.alloc) | (with_reducible refine Fr.setCell ?_ (Or.inl (by simp)) _)))⟩
end Go.Proofs.Ytlhkgalmiajinaa
