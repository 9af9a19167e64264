/- What the rules of package prop come to: bits, of, set, Kind, May. No condition. -/
import Derived.Test.YthioageiebchlaaBase
import Derived.Test.YthioageiebchlaaPr
import Derived.Test.YthioageiebchlaaProg
namespace Go.Proofs.Ythioageiebchlaa
open Go.RowKit

/-- Bits as one number. -/
def orB (l : List Nat) : Int := l.foldl (fun n k => bits .or .i64 n (2 ^ k)) 0
theorem orB_snoc (l : List Nat) (k : Nat) (h : k < l.length) : orB (l.take (k + 1)) = bits .or .i64 (orB (l.take k)) (2 ^ l[k]) := by
  rw [List.take_succ_eq_append_getElem h, orB, List.foldl_append]; rfl
theorem wrap_pow (x : Nat) (h : x < 32) : wrap64 (2 ^ x) = 2 ^ x := by
  have h1 : (2 : Int) ^ x ≤ 2 ^ 31 := by exact_mod_cast Nat.pow_le_pow_right (by decide) (show x ≤ 31 by omega)
  have h2 : (0 : Int) < 2 ^ x := Int.pow_pos (by decide)
  unfold wrap64; omega
def intC (k : Nat) : List Value := [.int .i64 (k : Int)]
theorem intC_len (x : Nat) : (intC x).length = 1 := rfl
set_option maxHeartbeats 1000000 in
theorem bits_any (v : Value) (l : List Nat) (w : World) (hv : View w v l.length (l.flatMap intC)) (h0 : 0 < l.length) (hl : l.length < 1000) (hk : ∀ x ∈ l, x < 32) :
    Calls Try.prog 97 #[v] w fun e w' => e = .returned (.int .i64 (orB l)) ∧ w = w' := by
  obtain ⟨b, off, c, rfl, hb, hc⟩ := hv.at intC_len (by decide) h0
  have HC := Lib.hid hc
  have HK := Lib.hid hk
  clear hc hv hk
  go_enter Try.func97, Try.ntmps97
  go_wp2
  go_loop [3, 8] (fun n i => ∃ k : Nat, i = .int .i64 k ∧ k ≤ l.length ∧ n = .int .i64 (orB (l.take k))) (fun _ i => l.length - (intOf i).toNat)
  case atStart => exact ⟨0, rfl, by omega, rfl⟩
  case round =>
    obtain ⟨k, rfl, hk, rfl⟩ := hrel
    by_cases hlt : k < l.length
    · have c0 : w.cell? ⟨b, off + k * 1, none⟩ = some (.int .i64 (l[k] : Int)) := HC.out k hlt 0 _ rfl
      rw [Nat.mul_one] at c0
      have hx := HK.out l[k] (List.getElem_mem hlt)
      have HS := Lib.hid (orB_snoc l k hlt)
      obtain ⟨x, hxx⟩ : ∃ x, l[k] = x := ⟨_, rfl⟩
      rw [hxx] at c0 hx HS
      clear hxx
      go_wp2
      go_round
      case rel => exact ⟨k + 1, by go_num, by omega, by rw [HS.out, wrap_pow x hx]⟩
      case measure => simp [intOf]; omega
    · go_wp2
      go_ret
      rw [List.take_of_length_le (by omega)]
      exact ⟨rfl, rfl⟩
theorem bitsN_any (H : Nat) (l : List Nat) (w : World) (n : Nat) (hn : n = l.length) (cs : Array Value) (hcs : cs = (l.flatMap intC).toArray) (h : w.heap[H]? = some (.cells cs 3 (0, 0))) (h0 : 0 < l.length) (hl : l.length < 1000) (hk : (l.all fun x => decide (x < 32)) = true) :
    Calls Try.prog 97 #[.slice (some ⟨H, 0, none⟩) n n] w fun e w' => e = .returned (.int .i64 (orB l)) ∧ w = w' := by
  subst hn hcs
  refine bits_any _ l w ⟨_, _, rfl, Or.inr ⟨H, 0, rfl, fun j u hj => ?_⟩⟩ h0 hl (fun x hx => by simpa using List.all_eq_true.1 hk x hx)
  rw [cell_of_row w H (0 + j) _ _ _ h, Nat.zero_add]
  simpa using hj
theorem acks_any (w : World) :
    Calls Try.prog 98 #[] w fun e w' => e = .returned (.int .i64 51956) ∧ Fr [] w w' := by
  go_enter Try.func98, Try.ntmps98
  go_wp2_with fail
  refine (bitsN_any w.heap.size [2, 4, 5, 6, 7, 9, 11, 14, 15] _ 9 rfl _ rfl (blk_new _ _) (by decide) (by decide) (by decide)).mono ?_
  rintro _ w1 ⟨rfl, rfl⟩
  rw [show orB [2, 4, 5, 6, 7, 9, 11, 14, 15] = 51956 from by decide +kernel]
  go_wp2
  go_ret
  exact ⟨rfl, (Fr.refl _ _).alloc _⟩
structure Rule where
  kind : Int
  inn : Int
  least : Nat
  most : Nat
  many : Int
/-- The rules, by the identifier. -/
def ruleOf (id : Int) : Rule :=
  if id = 1 then ⟨1, 65544, 0, 1, 0⟩ else if id = 2 then ⟨3, 65544, 0, 4294967295, 0⟩ else if id = 3 then ⟨5, 65544, 0, 0, 0⟩ else if id = 8 then ⟨5, 65544, 0, 0, 0⟩
  else if id = 9 then ⟨6, 65544, 0, 0, 0⟩ else if id = 11 then ⟨4, 264, 1, 268435455, 8⟩ else if id = 17 then ⟨3, 16390, 0, 4294967295, 0⟩ else if id = 18 then ⟨5, 4, 0, 0, 0⟩
  else if id = 19 then ⟨2, 4, 0, 65535, 0⟩ else if id = 21 then ⟨5, 32774, 0, 0, 0⟩ else if id = 22 then ⟨6, 32774, 0, 0, 0⟩ else if id = 23 then ⟨1, 2, 0, 1, 0⟩ else if id = 25 then ⟨1, 2, 0, 1, 0⟩
  else if id = 24 then ⟨3, 65536, 0, 4294967295, 0⟩ else if id = 26 then ⟨5, 4, 0, 0, 0⟩ else if id = 28 then ⟨5, 16388, 0, 0, 0⟩ else if id = 31 then ⟨5, 51956, 0, 0, 0⟩
  else if id = 33 then ⟨2, 6, 1, 65535, 0⟩ else if id = 34 then ⟨2, 6, 0, 65535, 0⟩ else if id = 35 then ⟨2, 8, 0, 65535, 0⟩ else if id = 36 then ⟨1, 4, 0, 1, 0⟩ else if id = 37 then ⟨1, 4, 0, 1, 0⟩
  else if id = 40 then ⟨1, 4, 0, 1, 0⟩ else if id = 41 then ⟨1, 4, 0, 1, 0⟩ else if id = 42 then ⟨1, 4, 0, 1, 0⟩ else if id = 38 then ⟨7, 118782, 0, 0, 118782⟩ else if id = 39 then ⟨3, 6, 1, 4294967295, 0⟩ else ⟨0, 0, 0, 0, 0⟩
def ruleV (r : Rule) : Value := .agg #[.int .i64 r.kind, .int .i64 r.inn, .int .u32 r.least, .int .u32 r.most, .int .i64 r.many]
theorem blk_atH (w : World) (o : Obj) (H : Nat) (hH : w.heap.size = H) : (w.alloc o).heap[H]? = some o := by subst hH; exact blk_new w o
set_option maxRecDepth 100000 in
theorem of1_any (w : World) : Calls Try.prog 81 #[.int .i64 1] w fun e w' => e = .returned (ruleV ⟨1, 65544, 0, 1, 0⟩) ∧ Fr [] w w' := by
  have hor : bits .or .i64 8 65536 = 65544 := by decide +kernel
  go_enter Try.func81, Try.ntmps81
  go_wp2_with fail
  refine (bitsN_any _ [3] _ 1 rfl _ rfl (blk_atH _ _ _ (by simp)) (by decide) (by decide) (by decide)).mono ?_
  rintro _ w1 ⟨rfl, rfl⟩
  rw [show orB [3] = 8 from by decide +kernel]
  go_wp2
  refine bodyPost_ret (v := .agg #[.int .i64 1, .int .i64 65544, .int .u32 0, .int .u32 1, .int .i64 0]) (by simp [results, Try.results81, go_sem, *]) rfl ?_
  exact ⟨rfl, (by repeat (first | exact Fr.refl _ _ | (with_reducible apply Fr.alloc) | (with_reducible refine Fr.setCell ?_ (Or.inl (by simp)) _)))⟩
set_option maxRecDepth 100000 in
theorem of2_any (w : World) : Calls Try.prog 81 #[.int .i64 2] w fun e w' => e = .returned (ruleV ⟨3, 65544, 0, 4294967295, 0⟩) ∧ Fr [] w w' := by
  have hor : bits .or .i64 8 65536 = 65544 := by decide +kernel
  go_enter Try.func81, Try.ntmps81
  go_wp2_with fail
  refine (bitsN_any _ [3] _ 1 rfl _ rfl (blk_atH _ _ _ (by simp)) (by decide) (by decide) (by decide)).mono ?_
  rintro _ w1 ⟨rfl, rfl⟩
  rw [show orB [3] = 8 from by decide +kernel]
  go_wp2
  refine bodyPost_ret (v := .agg #[.int .i64 3, .int .i64 65544, .int .u32 0, .int .u32 4294967295, .int .i64 0]) (by simp [results, Try.results81, go_sem, *]) rfl ?_
  exact ⟨rfl, (by repeat (first | exact Fr.refl _ _ | (with_reducible apply Fr.alloc) | (with_reducible refine Fr.setCell ?_ (Or.inl (by simp)) _)))⟩
set_option maxRecDepth 100000 in
theorem of3_any (w : World) : Calls Try.prog 81 #[.int .i64 3] w fun e w' => e = .returned (ruleV ⟨5, 65544, 0, 0, 0⟩) ∧ Fr [] w w' := by
  have hor : bits .or .i64 8 65536 = 65544 := by decide +kernel
  go_enter Try.func81, Try.ntmps81
  go_wp2_with fail
  refine (bitsN_any _ [3] _ 1 rfl _ rfl (blk_atH _ _ _ (by simp)) (by decide) (by decide) (by decide)).mono ?_
  rintro _ w1 ⟨rfl, rfl⟩
  rw [show orB [3] = 8 from by decide +kernel]
  go_wp2
  refine bodyPost_ret (v := .agg #[.int .i64 5, .int .i64 65544, .int .u32 0, .int .u32 0, .int .i64 0]) (by simp [results, Try.results81, go_sem, *]) rfl ?_
  exact ⟨rfl, (by repeat (first | exact Fr.refl _ _ | (with_reducible apply Fr.alloc) | (with_reducible refine Fr.setCell ?_ (Or.inl (by simp)) _)))⟩
set_option maxRecDepth 100000 in
theorem of8_any (w : World) : Calls Try.prog 81 #[.int .i64 8] w fun e w' => e = .returned (ruleV ⟨5, 65544, 0, 0, 0⟩) ∧ Fr [] w w' := by
  have hor : bits .or .i64 8 65536 = 65544 := by decide +kernel
  go_enter Try.func81, Try.ntmps81
  go_wp2_with fail
  refine (bitsN_any _ [3] _ 1 rfl _ rfl (blk_atH _ _ _ (by simp)) (by decide) (by decide) (by decide)).mono ?_
  rintro _ w1 ⟨rfl, rfl⟩
  rw [show orB [3] = 8 from by decide +kernel]
  go_wp2
  refine bodyPost_ret (v := .agg #[.int .i64 5, .int .i64 65544, .int .u32 0, .int .u32 0, .int .i64 0]) (by simp [results, Try.results81, go_sem, *]) rfl ?_
  exact ⟨rfl, (by repeat (first | exact Fr.refl _ _ | (with_reducible apply Fr.alloc) | (with_reducible refine Fr.setCell ?_ (Or.inl (by simp)) _)))⟩
set_option maxRecDepth 100000 in
theorem of9_any (w : World) : Calls Try.prog 81 #[.int .i64 9] w fun e w' => e = .returned (ruleV ⟨6, 65544, 0, 0, 0⟩) ∧ Fr [] w w' := by
  have hor : bits .or .i64 8 65536 = 65544 := by decide +kernel
  go_enter Try.func81, Try.ntmps81
  go_wp2_with fail
  refine (bitsN_any _ [3] _ 1 rfl _ rfl (blk_atH _ _ _ (by simp)) (by decide) (by decide) (by decide)).mono ?_
  rintro _ w1 ⟨rfl, rfl⟩
  rw [show orB [3] = 8 from by decide +kernel]
  go_wp2
  refine bodyPost_ret (v := .agg #[.int .i64 6, .int .i64 65544, .int .u32 0, .int .u32 0, .int .i64 0]) (by simp [results, Try.results81, go_sem, *]) rfl ?_
  exact ⟨rfl, (by repeat (first | exact Fr.refl _ _ | (with_reducible apply Fr.alloc) | (with_reducible refine Fr.setCell ?_ (Or.inl (by simp)) _)))⟩
set_option maxRecDepth 100000 in
theorem of24_any (w : World) : Calls Try.prog 81 #[.int .i64 24] w fun e w' => e = .returned (ruleV ⟨3, 65536, 0, 4294967295, 0⟩) ∧ Fr [] w w' := by
  have hor : bits .or .i64 8 65536 = 65544 := by decide +kernel
  go_enter Try.func81, Try.ntmps81
  go_wp2_with fail
  refine (bitsN_any _ [3] _ 1 rfl _ rfl (blk_atH _ _ _ (by simp)) (by decide) (by decide) (by decide)).mono ?_
  rintro _ w1 ⟨rfl, rfl⟩
  rw [show orB [3] = 8 from by decide +kernel]
  go_wp2
  refine bodyPost_ret (v := .agg #[.int .i64 3, .int .i64 65536, .int .u32 0, .int .u32 4294967295, .int .i64 0]) (by simp [results, Try.results81, go_sem, *]) rfl ?_
  exact ⟨rfl, (by repeat (first | exact Fr.refl _ _ | (with_reducible apply Fr.alloc) | (with_reducible refine Fr.setCell ?_ (Or.inl (by simp)) _)))⟩
set_option maxRecDepth 100000 in
theorem of17_any (w : World) : Calls Try.prog 81 #[.int .i64 17] w fun e w' => e = .returned (ruleV ⟨3, 16390, 0, 4294967295, 0⟩) ∧ Fr [] w w' := by
  have hor : bits .or .i64 8 65536 = 65544 := by decide +kernel
  go_enter Try.func81, Try.ntmps81
  go_wp2_with fail
  refine (bitsN_any _ [3] _ 1 rfl _ rfl (blk_atH _ _ _ (by simp)) (by decide) (by decide) (by decide)).mono ?_
  rintro _ w1 ⟨rfl, rfl⟩
  rw [show orB [3] = 8 from by decide +kernel]
  go_wp2_with fail
  refine (bitsN_any _ [1, 2, 14] _ 3 rfl _ rfl (blk_atH _ _ _ (by simp)) (by decide) (by decide) (by decide)).mono ?_
  rintro _ w1 ⟨rfl, rfl⟩
  rw [show orB [1, 2, 14] = 16390 from by decide +kernel]
  go_wp2
  refine bodyPost_ret (v := .agg #[.int .i64 3, .int .i64 16390, .int .u32 0, .int .u32 4294967295, .int .i64 0]) (by simp [results, Try.results81, go_sem, *]) rfl ?_
  exact ⟨rfl, (by repeat (first | exact Fr.refl _ _ | (with_reducible apply Fr.alloc) | (with_reducible refine Fr.setCell ?_ (Or.inl (by simp)) _)))⟩
set_option maxRecDepth 100000 in
theorem of18_any (w : World) : Calls Try.prog 81 #[.int .i64 18] w fun e w' => e = .returned (ruleV ⟨5, 4, 0, 0, 0⟩) ∧ Fr [] w w' := by
  have hor : bits .or .i64 8 65536 = 65544 := by decide +kernel
  go_enter Try.func81, Try.ntmps81
  go_wp2_with fail
  refine (bitsN_any _ [3] _ 1 rfl _ rfl (blk_atH _ _ _ (by simp)) (by decide) (by decide) (by decide)).mono ?_
  rintro _ w1 ⟨rfl, rfl⟩
  rw [show orB [3] = 8 from by decide +kernel]
  go_wp2_with fail
  refine (bitsN_any _ [2] _ 1 rfl _ rfl (blk_atH _ _ _ (by simp)) (by decide) (by decide) (by decide)).mono ?_
  rintro _ w1 ⟨rfl, rfl⟩
  rw [show orB [2] = 4 from by decide +kernel]
  go_wp2
  refine bodyPost_ret (v := .agg #[.int .i64 5, .int .i64 4, .int .u32 0, .int .u32 0, .int .i64 0]) (by simp [results, Try.results81, go_sem, *]) rfl ?_
  exact ⟨rfl, (by repeat (first | exact Fr.refl _ _ | (with_reducible apply Fr.alloc) | (with_reducible refine Fr.setCell ?_ (Or.inl (by simp)) _)))⟩
set_option maxRecDepth 100000 in
theorem of19_any (w : World) : Calls Try.prog 81 #[.int .i64 19] w fun e w' => e = .returned (ruleV ⟨2, 4, 0, 65535, 0⟩) ∧ Fr [] w w' := by
  have hor : bits .or .i64 8 65536 = 65544 := by decide +kernel
  go_enter Try.func81, Try.ntmps81
  go_wp2_with fail
  refine (bitsN_any _ [3] _ 1 rfl _ rfl (blk_atH _ _ _ (by simp)) (by decide) (by decide) (by decide)).mono ?_
  rintro _ w1 ⟨rfl, rfl⟩
  rw [show orB [3] = 8 from by decide +kernel]
  go_wp2_with fail
  refine (bitsN_any _ [2] _ 1 rfl _ rfl (blk_atH _ _ _ (by simp)) (by decide) (by decide) (by decide)).mono ?_
  rintro _ w1 ⟨rfl, rfl⟩
  rw [show orB [2] = 4 from by decide +kernel]
  go_wp2
  refine bodyPost_ret (v := .agg #[.int .i64 2, .int .i64 4, .int .u32 0, .int .u32 65535, .int .i64 0]) (by simp [results, Try.results81, go_sem, *]) rfl ?_
  exact ⟨rfl, (by repeat (first | exact Fr.refl _ _ | (with_reducible apply Fr.alloc) | (with_reducible refine Fr.setCell ?_ (Or.inl (by simp)) _)))⟩
set_option maxRecDepth 100000 in
theorem of21_any (w : World) : Calls Try.prog 81 #[.int .i64 21] w fun e w' => e = .returned (ruleV ⟨5, 32774, 0, 0, 0⟩) ∧ Fr [] w w' := by
  have hor : bits .or .i64 8 65536 = 65544 := by decide +kernel
  go_enter Try.func81, Try.ntmps81
  go_wp2_with fail
  refine (bitsN_any _ [3] _ 1 rfl _ rfl (blk_atH _ _ _ (by simp)) (by decide) (by decide) (by decide)).mono ?_
  rintro _ w1 ⟨rfl, rfl⟩
  rw [show orB [3] = 8 from by decide +kernel]
  go_wp2_with fail
  refine (bitsN_any _ [1, 2, 15] _ 3 rfl _ rfl (blk_atH _ _ _ (by simp)) (by decide) (by decide) (by decide)).mono ?_
  rintro _ w1 ⟨rfl, rfl⟩
  rw [show orB [1, 2, 15] = 32774 from by decide +kernel]
  go_wp2
  refine bodyPost_ret (v := .agg #[.int .i64 5, .int .i64 32774, .int .u32 0, .int .u32 0, .int .i64 0]) (by simp [results, Try.results81, go_sem, *]) rfl ?_
  exact ⟨rfl, (by repeat (first | exact Fr.refl _ _ | (with_reducible apply Fr.alloc) | (with_reducible refine Fr.setCell ?_ (Or.inl (by simp)) _)))⟩
set_option maxRecDepth 100000 in
theorem of22_any (w : World) : Calls Try.prog 81 #[.int .i64 22] w fun e w' => e = .returned (ruleV ⟨6, 32774, 0, 0, 0⟩) ∧ Fr [] w w' := by
  have hor : bits .or .i64 8 65536 = 65544 := by decide +kernel
  go_enter Try.func81, Try.ntmps81
  go_wp2_with fail
  refine (bitsN_any _ [3] _ 1 rfl _ rfl (blk_atH _ _ _ (by simp)) (by decide) (by decide) (by decide)).mono ?_
  rintro _ w1 ⟨rfl, rfl⟩
  rw [show orB [3] = 8 from by decide +kernel]
  go_wp2_with fail
  refine (bitsN_any _ [1, 2, 15] _ 3 rfl _ rfl (blk_atH _ _ _ (by simp)) (by decide) (by decide) (by decide)).mono ?_
  rintro _ w1 ⟨rfl, rfl⟩
  rw [show orB [1, 2, 15] = 32774 from by decide +kernel]
  go_wp2
  refine bodyPost_ret (v := .agg #[.int .i64 6, .int .i64 32774, .int .u32 0, .int .u32 0, .int .i64 0]) (by simp [results, Try.results81, go_sem, *]) rfl ?_
  exact ⟨rfl, (by repeat (first | exact Fr.refl _ _ | (with_reducible apply Fr.alloc) | (with_reducible refine Fr.setCell ?_ (Or.inl (by simp)) _)))⟩
set_option maxRecDepth 100000 in
theorem of23_any (w : World) : Calls Try.prog 81 #[.int .i64 23] w fun e w' => e = .returned (ruleV ⟨1, 2, 0, 1, 0⟩) ∧ Fr [] w w' := by
  have hor : bits .or .i64 8 65536 = 65544 := by decide +kernel
  go_enter Try.func81, Try.ntmps81
  go_wp2_with fail
  refine (bitsN_any _ [3] _ 1 rfl _ rfl (blk_atH _ _ _ (by simp)) (by decide) (by decide) (by decide)).mono ?_
  rintro _ w1 ⟨rfl, rfl⟩
  rw [show orB [3] = 8 from by decide +kernel]
  go_wp2_with fail
  refine (bitsN_any _ [1] _ 1 rfl _ rfl (blk_atH _ _ _ (by simp)) (by decide) (by decide) (by decide)).mono ?_
  rintro _ w1 ⟨rfl, rfl⟩
  rw [show orB [1] = 2 from by decide +kernel]
  go_wp2
  refine bodyPost_ret (v := .agg #[.int .i64 1, .int .i64 2, .int .u32 0, .int .u32 1, .int .i64 0]) (by simp [results, Try.results81, go_sem, *]) rfl ?_
  exact ⟨rfl, (by repeat (first | exact Fr.refl _ _ | (with_reducible apply Fr.alloc) | (with_reducible refine Fr.setCell ?_ (Or.inl (by simp)) _)))⟩
set_option maxRecDepth 100000 in
theorem of25_any (w : World) : Calls Try.prog 81 #[.int .i64 25] w fun e w' => e = .returned (ruleV ⟨1, 2, 0, 1, 0⟩) ∧ Fr [] w w' := by
  have hor : bits .or .i64 8 65536 = 65544 := by decide +kernel
  go_enter Try.func81, Try.ntmps81
  go_wp2_with fail
  refine (bitsN_any _ [3] _ 1 rfl _ rfl (blk_atH _ _ _ (by simp)) (by decide) (by decide) (by decide)).mono ?_
  rintro _ w1 ⟨rfl, rfl⟩
  rw [show orB [3] = 8 from by decide +kernel]
  go_wp2_with fail
  refine (bitsN_any _ [1] _ 1 rfl _ rfl (blk_atH _ _ _ (by simp)) (by decide) (by decide) (by decide)).mono ?_
  rintro _ w1 ⟨rfl, rfl⟩
  rw [show orB [1] = 2 from by decide +kernel]
  go_wp2
  refine bodyPost_ret (v := .agg #[.int .i64 1, .int .i64 2, .int .u32 0, .int .u32 1, .int .i64 0]) (by simp [results, Try.results81, go_sem, *]) rfl ?_
  exact ⟨rfl, (by repeat (first | exact Fr.refl _ _ | (with_reducible apply Fr.alloc) | (with_reducible refine Fr.setCell ?_ (Or.inl (by simp)) _)))⟩
set_option maxRecDepth 100000 in
theorem of26_any (w : World) : Calls Try.prog 81 #[.int .i64 26] w fun e w' => e = .returned (ruleV ⟨5, 4, 0, 0, 0⟩) ∧ Fr [] w w' := by
  have hor : bits .or .i64 8 65536 = 65544 := by decide +kernel
  go_enter Try.func81, Try.ntmps81
  go_wp2_with fail
  refine (bitsN_any _ [3] _ 1 rfl _ rfl (blk_atH _ _ _ (by simp)) (by decide) (by decide) (by decide)).mono ?_
  rintro _ w1 ⟨rfl, rfl⟩
  rw [show orB [3] = 8 from by decide +kernel]
  go_wp2_with fail
  refine (bitsN_any _ [2] _ 1 rfl _ rfl (blk_atH _ _ _ (by simp)) (by decide) (by decide) (by decide)).mono ?_
  rintro _ w1 ⟨rfl, rfl⟩
  rw [show orB [2] = 4 from by decide +kernel]
  go_wp2
  refine bodyPost_ret (v := .agg #[.int .i64 5, .int .i64 4, .int .u32 0, .int .u32 0, .int .i64 0]) (by simp [results, Try.results81, go_sem, *]) rfl ?_
  exact ⟨rfl, (by repeat (first | exact Fr.refl _ _ | (with_reducible apply Fr.alloc) | (with_reducible refine Fr.setCell ?_ (Or.inl (by simp)) _)))⟩
set_option maxRecDepth 100000 in
theorem of28_any (w : World) : Calls Try.prog 81 #[.int .i64 28] w fun e w' => e = .returned (ruleV ⟨5, 16388, 0, 0, 0⟩) ∧ Fr [] w w' := by
  have hor : bits .or .i64 8 65536 = 65544 := by decide +kernel
  go_enter Try.func81, Try.ntmps81
  go_wp2_with fail
  refine (bitsN_any _ [3] _ 1 rfl _ rfl (blk_atH _ _ _ (by simp)) (by decide) (by decide) (by decide)).mono ?_
  rintro _ w1 ⟨rfl, rfl⟩
  rw [show orB [3] = 8 from by decide +kernel]
  go_wp2_with fail
  refine (bitsN_any _ [2, 14] _ 2 rfl _ rfl (blk_atH _ _ _ (by simp)) (by decide) (by decide) (by decide)).mono ?_
  rintro _ w1 ⟨rfl, rfl⟩
  rw [show orB [2, 14] = 16388 from by decide +kernel]
  go_wp2
  refine bodyPost_ret (v := .agg #[.int .i64 5, .int .i64 16388, .int .u32 0, .int .u32 0, .int .i64 0]) (by simp [results, Try.results81, go_sem, *]) rfl ?_
  exact ⟨rfl, (by repeat (first | exact Fr.refl _ _ | (with_reducible apply Fr.alloc) | (with_reducible refine Fr.setCell ?_ (Or.inl (by simp)) _)))⟩
set_option maxRecDepth 100000 in
theorem of33_any (w : World) : Calls Try.prog 81 #[.int .i64 33] w fun e w' => e = .returned (ruleV ⟨2, 6, 1, 65535, 0⟩) ∧ Fr [] w w' := by
  have hor : bits .or .i64 8 65536 = 65544 := by decide +kernel
  go_enter Try.func81, Try.ntmps81
  go_wp2_with fail
  refine (bitsN_any _ [3] _ 1 rfl _ rfl (blk_atH _ _ _ (by simp)) (by decide) (by decide) (by decide)).mono ?_
  rintro _ w1 ⟨rfl, rfl⟩
  rw [show orB [3] = 8 from by decide +kernel]
  go_wp2_with fail
  refine (bitsN_any _ [1, 2] _ 2 rfl _ rfl (blk_atH _ _ _ (by simp)) (by decide) (by decide) (by decide)).mono ?_
  rintro _ w1 ⟨rfl, rfl⟩
  rw [show orB [1, 2] = 6 from by decide +kernel]
  go_wp2
  refine bodyPost_ret (v := .agg #[.int .i64 2, .int .i64 6, .int .u32 1, .int .u32 65535, .int .i64 0]) (by simp [results, Try.results81, go_sem, *]) rfl ?_
  exact ⟨rfl, (by repeat (first | exact Fr.refl _ _ | (with_reducible apply Fr.alloc) | (with_reducible refine Fr.setCell ?_ (Or.inl (by simp)) _)))⟩
set_option maxRecDepth 100000 in
theorem of34_any (w : World) : Calls Try.prog 81 #[.int .i64 34] w fun e w' => e = .returned (ruleV ⟨2, 6, 0, 65535, 0⟩) ∧ Fr [] w w' := by
  have hor : bits .or .i64 8 65536 = 65544 := by decide +kernel
  go_enter Try.func81, Try.ntmps81
  go_wp2_with fail
  refine (bitsN_any _ [3] _ 1 rfl _ rfl (blk_atH _ _ _ (by simp)) (by decide) (by decide) (by decide)).mono ?_
  rintro _ w1 ⟨rfl, rfl⟩
  rw [show orB [3] = 8 from by decide +kernel]
  go_wp2_with fail
  refine (bitsN_any _ [1, 2] _ 2 rfl _ rfl (blk_atH _ _ _ (by simp)) (by decide) (by decide) (by decide)).mono ?_
  rintro _ w1 ⟨rfl, rfl⟩
  rw [show orB [1, 2] = 6 from by decide +kernel]
  go_wp2
  refine bodyPost_ret (v := .agg #[.int .i64 2, .int .i64 6, .int .u32 0, .int .u32 65535, .int .i64 0]) (by simp [results, Try.results81, go_sem, *]) rfl ?_
  exact ⟨rfl, (by repeat (first | exact Fr.refl _ _ | (with_reducible apply Fr.alloc) | (with_reducible refine Fr.setCell ?_ (Or.inl (by simp)) _)))⟩
set_option maxRecDepth 100000 in
theorem of35_any (w : World) : Calls Try.prog 81 #[.int .i64 35] w fun e w' => e = .returned (ruleV ⟨2, 8, 0, 65535, 0⟩) ∧ Fr [] w w' := by
  have hor : bits .or .i64 8 65536 = 65544 := by decide +kernel
  go_enter Try.func81, Try.ntmps81
  go_wp2_with fail
  refine (bitsN_any _ [3] _ 1 rfl _ rfl (blk_atH _ _ _ (by simp)) (by decide) (by decide) (by decide)).mono ?_
  rintro _ w1 ⟨rfl, rfl⟩
  rw [show orB [3] = 8 from by decide +kernel]
  go_wp2_with fail
  refine (bitsN_any _ [3] _ 1 rfl _ rfl (blk_atH _ _ _ (by simp)) (by decide) (by decide) (by decide)).mono ?_
  rintro _ w1 ⟨rfl, rfl⟩
  rw [show orB [3] = 8 from by decide +kernel]
  go_wp2
  refine bodyPost_ret (v := .agg #[.int .i64 2, .int .i64 8, .int .u32 0, .int .u32 65535, .int .i64 0]) (by simp [results, Try.results81, go_sem, *]) rfl ?_
  exact ⟨rfl, (by repeat (first | exact Fr.refl _ _ | (with_reducible apply Fr.alloc) | (with_reducible refine Fr.setCell ?_ (Or.inl (by simp)) _)))⟩
set_option maxRecDepth 100000 in
theorem of36_any (w : World) : Calls Try.prog 81 #[.int .i64 36] w fun e w' => e = .returned (ruleV ⟨1, 4, 0, 1, 0⟩) ∧ Fr [] w w' := by
  have hor : bits .or .i64 8 65536 = 65544 := by decide +kernel
  go_enter Try.func81, Try.ntmps81
  go_wp2_with fail
  refine (bitsN_any _ [3] _ 1 rfl _ rfl (blk_atH _ _ _ (by simp)) (by decide) (by decide) (by decide)).mono ?_
  rintro _ w1 ⟨rfl, rfl⟩
  rw [show orB [3] = 8 from by decide +kernel]
  go_wp2_with fail
  refine (bitsN_any _ [2] _ 1 rfl _ rfl (blk_atH _ _ _ (by simp)) (by decide) (by decide) (by decide)).mono ?_
  rintro _ w1 ⟨rfl, rfl⟩
  rw [show orB [2] = 4 from by decide +kernel]
  go_wp2
  refine bodyPost_ret (v := .agg #[.int .i64 1, .int .i64 4, .int .u32 0, .int .u32 1, .int .i64 0]) (by simp [results, Try.results81, go_sem, *]) rfl ?_
  exact ⟨rfl, (by repeat (first | exact Fr.refl _ _ | (with_reducible apply Fr.alloc) | (with_reducible refine Fr.setCell ?_ (Or.inl (by simp)) _)))⟩
set_option maxRecDepth 100000 in
theorem of37_any (w : World) : Calls Try.prog 81 #[.int .i64 37] w fun e w' => e = .returned (ruleV ⟨1, 4, 0, 1, 0⟩) ∧ Fr [] w w' := by
  have hor : bits .or .i64 8 65536 = 65544 := by decide +kernel
  go_enter Try.func81, Try.ntmps81
  go_wp2_with fail
  refine (bitsN_any _ [3] _ 1 rfl _ rfl (blk_atH _ _ _ (by simp)) (by decide) (by decide) (by decide)).mono ?_
  rintro _ w1 ⟨rfl, rfl⟩
  rw [show orB [3] = 8 from by decide +kernel]
  go_wp2_with fail
  refine (bitsN_any _ [2] _ 1 rfl _ rfl (blk_atH _ _ _ (by simp)) (by decide) (by decide) (by decide)).mono ?_
  rintro _ w1 ⟨rfl, rfl⟩
  rw [show orB [2] = 4 from by decide +kernel]
  go_wp2
  refine bodyPost_ret (v := .agg #[.int .i64 1, .int .i64 4, .int .u32 0, .int .u32 1, .int .i64 0]) (by simp [results, Try.results81, go_sem, *]) rfl ?_
  exact ⟨rfl, (by repeat (first | exact Fr.refl _ _ | (with_reducible apply Fr.alloc) | (with_reducible refine Fr.setCell ?_ (Or.inl (by simp)) _)))⟩
set_option maxRecDepth 100000 in
theorem of40_any (w : World) : Calls Try.prog 81 #[.int .i64 40] w fun e w' => e = .returned (ruleV ⟨1, 4, 0, 1, 0⟩) ∧ Fr [] w w' := by
  have hor : bits .or .i64 8 65536 = 65544 := by decide +kernel
  go_enter Try.func81, Try.ntmps81
  go_wp2_with fail
  refine (bitsN_any _ [3] _ 1 rfl _ rfl (blk_atH _ _ _ (by simp)) (by decide) (by decide) (by decide)).mono ?_
  rintro _ w1 ⟨rfl, rfl⟩
  rw [show orB [3] = 8 from by decide +kernel]
  go_wp2_with fail
  refine (bitsN_any _ [2] _ 1 rfl _ rfl (blk_atH _ _ _ (by simp)) (by decide) (by decide) (by decide)).mono ?_
  rintro _ w1 ⟨rfl, rfl⟩
  rw [show orB [2] = 4 from by decide +kernel]
  go_wp2
  refine bodyPost_ret (v := .agg #[.int .i64 1, .int .i64 4, .int .u32 0, .int .u32 1, .int .i64 0]) (by simp [results, Try.results81, go_sem, *]) rfl ?_
  exact ⟨rfl, (by repeat (first | exact Fr.refl _ _ | (with_reducible apply Fr.alloc) | (with_reducible refine Fr.setCell ?_ (Or.inl (by simp)) _)))⟩
set_option maxRecDepth 100000 in
theorem of41_any (w : World) : Calls Try.prog 81 #[.int .i64 41] w fun e w' => e = .returned (ruleV ⟨1, 4, 0, 1, 0⟩) ∧ Fr [] w w' := by
  have hor : bits .or .i64 8 65536 = 65544 := by decide +kernel
  go_enter Try.func81, Try.ntmps81
  go_wp2_with fail
  refine (bitsN_any _ [3] _ 1 rfl _ rfl (blk_atH _ _ _ (by simp)) (by decide) (by decide) (by decide)).mono ?_
  rintro _ w1 ⟨rfl, rfl⟩
  rw [show orB [3] = 8 from by decide +kernel]
  go_wp2_with fail
  refine (bitsN_any _ [2] _ 1 rfl _ rfl (blk_atH _ _ _ (by simp)) (by decide) (by decide) (by decide)).mono ?_
  rintro _ w1 ⟨rfl, rfl⟩
  rw [show orB [2] = 4 from by decide +kernel]
  go_wp2
  refine bodyPost_ret (v := .agg #[.int .i64 1, .int .i64 4, .int .u32 0, .int .u32 1, .int .i64 0]) (by simp [results, Try.results81, go_sem, *]) rfl ?_
  exact ⟨rfl, (by repeat (first | exact Fr.refl _ _ | (with_reducible apply Fr.alloc) | (with_reducible refine Fr.setCell ?_ (Or.inl (by simp)) _)))⟩
set_option maxRecDepth 100000 in
theorem of42_any (w : World) : Calls Try.prog 81 #[.int .i64 42] w fun e w' => e = .returned (ruleV ⟨1, 4, 0, 1, 0⟩) ∧ Fr [] w w' := by
  have hor : bits .or .i64 8 65536 = 65544 := by decide +kernel
  go_enter Try.func81, Try.ntmps81
  go_wp2_with fail
  refine (bitsN_any _ [3] _ 1 rfl _ rfl (blk_atH _ _ _ (by simp)) (by decide) (by decide) (by decide)).mono ?_
  rintro _ w1 ⟨rfl, rfl⟩
  rw [show orB [3] = 8 from by decide +kernel]
  go_wp2_with fail
  refine (bitsN_any _ [2] _ 1 rfl _ rfl (blk_atH _ _ _ (by simp)) (by decide) (by decide) (by decide)).mono ?_
  rintro _ w1 ⟨rfl, rfl⟩
  rw [show orB [2] = 4 from by decide +kernel]
  go_wp2
  refine bodyPost_ret (v := .agg #[.int .i64 1, .int .i64 4, .int .u32 0, .int .u32 1, .int .i64 0]) (by simp [results, Try.results81, go_sem, *]) rfl ?_
  exact ⟨rfl, (by repeat (first | exact Fr.refl _ _ | (with_reducible apply Fr.alloc) | (with_reducible refine Fr.setCell ?_ (Or.inl (by simp)) _)))⟩
set_option maxRecDepth 100000 in
theorem of39_any (w : World) : Calls Try.prog 81 #[.int .i64 39] w fun e w' => e = .returned (ruleV ⟨3, 6, 1, 4294967295, 0⟩) ∧ Fr [] w w' := by
  have hor : bits .or .i64 8 65536 = 65544 := by decide +kernel
  go_enter Try.func81, Try.ntmps81
  go_wp2_with fail
  refine (bitsN_any _ [3] _ 1 rfl _ rfl (blk_atH _ _ _ (by simp)) (by decide) (by decide) (by decide)).mono ?_
  rintro _ w1 ⟨rfl, rfl⟩
  rw [show orB [3] = 8 from by decide +kernel]
  go_wp2_with fail
  refine (bitsN_any _ [1, 2] _ 2 rfl _ rfl (blk_atH _ _ _ (by simp)) (by decide) (by decide) (by decide)).mono ?_
  rintro _ w1 ⟨rfl, rfl⟩
  rw [show orB [1, 2] = 6 from by decide +kernel]
  go_wp2
  refine bodyPost_ret (v := .agg #[.int .i64 3, .int .i64 6, .int .u32 1, .int .u32 4294967295, .int .i64 0]) (by simp [results, Try.results81, go_sem, *]) rfl ?_
  exact ⟨rfl, (by repeat (first | exact Fr.refl _ _ | (with_reducible apply Fr.alloc) | (with_reducible refine Fr.setCell ?_ (Or.inl (by simp)) _)))⟩
set_option maxRecDepth 100000 in
theorem of11_any (w : World) : Calls Try.prog 81 #[.int .i64 11] w fun e w' => e = .returned (ruleV ⟨4, 264, 1, 268435455, 8⟩) ∧ Fr [] w w' := by
  have hor : bits .or .i64 8 65536 = 65544 := by decide +kernel
  go_enter Try.func81, Try.ntmps81
  go_wp2_with fail
  refine (bitsN_any _ [3] _ 1 rfl _ rfl (blk_atH _ _ _ (by simp)) (by decide) (by decide) (by decide)).mono ?_
  rintro _ w1 ⟨rfl, rfl⟩
  rw [show orB [3] = 8 from by decide +kernel]
  go_wp2_with fail
  refine (bitsN_any _ [3, 8] _ 2 rfl _ rfl (blk_atH _ _ _ (by simp)) (by decide) (by decide) (by decide)).mono ?_
  rintro _ w1 ⟨rfl, rfl⟩
  rw [show orB [3, 8] = 264 from by decide +kernel]
  go_wp2_with fail
  refine (bitsN_any _ [3] _ 1 rfl _ rfl (blk_atH _ _ _ (by simp)) (by decide) (by decide) (by decide)).mono ?_
  rintro _ w1 ⟨rfl, rfl⟩
  rw [show orB [3] = 8 from by decide +kernel]
  go_wp2
  refine bodyPost_ret (v := .agg #[.int .i64 4, .int .i64 264, .int .u32 1, .int .u32 268435455, .int .i64 8]) (by simp [results, Try.results81, go_sem, *]) rfl ?_
  exact ⟨rfl, (by repeat (first | exact Fr.refl _ _ | (with_reducible apply Fr.alloc) | (with_reducible refine Fr.setCell ?_ (Or.inl (by simp)) _)))⟩
end Go.Proofs.Ythioageiebchlaa
namespace Go.Proofs.Ythioageiebchlaa
open Go.RowKit

theorem blk5_facts {w : World} {b : Nat} {t : TypeId} {v0 v1 v2 v3 v4 : Value} (h : w.heap[b]? = some (.cells #[v0, v1, v2, v3, v4] t (0, 0))) :
    (w.cell? ⟨b, 0, none⟩ = some v0 ∧ w.cell? ⟨b, 1, none⟩ = some v1 ∧ w.cell? ⟨b, 2, none⟩ = some v2 ∧ w.cell? ⟨b, 3, none⟩ = some v3 ∧ w.cell? ⟨b, 4, none⟩ = some v4) ∧ (w.frozen? ⟨b, 0, none⟩ = false ∧ w.frozen? ⟨b, 1, none⟩ = false ∧ w.frozen? ⟨b, 2, none⟩ = false ∧ w.frozen? ⟨b, 3, none⟩ = false ∧ w.frozen? ⟨b, 4, none⟩ = false) ∧ b < w.heap.size :=
  ⟨⟨blk_cell h 0, blk_cell h 1, blk_cell h 2, blk_cell h 3, blk_cell h 4⟩, ⟨blk_frozen h 0, blk_frozen h 1, blk_frozen h 2, blk_frozen h 3, blk_frozen h 4⟩, blk_lt h⟩
def set5 (w : World) (b : Nat) (v0 v1 v2 v3 v4 : Value) : World := ((((w.setCell ⟨b, 0, none⟩ v0).setCell ⟨b, 1, none⟩ v1).setCell ⟨b, 2, none⟩ v2).setCell ⟨b, 3, none⟩ v3).setCell ⟨b, 4, none⟩ v4
theorem blk5_set {w : World} {b : Nat} {t : TypeId} {v0 v1 v2 v3 v4 : Value} (h : w.heap[b]? = some (.cells #[v0, v1, v2, v3, v4] t (0, 0))) (x0 x1 x2 x3 x4 : Value) : (set5 w b x0 x1 x2 x3 x4).heap[b]? = some (.cells #[x0, x1, x2, x3, x4] t (0, 0)) :=
  blk_set (blk_set (blk_set (blk_set (blk_set h 0 x0) 1 x1) 2 x2) 3 x3) 4 x4
theorem fr5_set {S : List Nat} {w w' : World} (h : Fr S w w') {b : Nat} (hb : w.heap.size ≤ b) (x0 x1 x2 x3 x4 : Value) : Fr S w (set5 w' b x0 x1 x2 x3 x4) :=
  ((((h.setCell (Or.inl hb) _).setCell (Or.inl hb) _).setCell (Or.inl hb) _).setCell (Or.inl hb) _).setCell (Or.inl hb) _
set_option maxRecDepth 100000 in
theorem of31_any (w : World) : Calls Try.prog 81 #[.int .i64 31] w fun e w' => e = .returned (ruleV ⟨5, 51956, 0, 0, 0⟩) ∧ Fr [] w w' := by
  have hor : bits .or .i64 8 65536 = 65544 := by decide +kernel
  go_enter Try.func81, Try.ntmps81
  go_wp2_with fail
  refine (bitsN_any _ [3] _ 1 rfl _ rfl (blk_atH _ _ _ (by simp)) (by decide) (by decide) (by decide)).mono ?_
  rintro _ w1 ⟨rfl, rfl⟩
  rw [show orB [3] = 8 from by decide +kernel]
  go_wp2_with fail
  refine (acks_any _).mono ?_
  rintro _ W ⟨rfl, hf⟩
  have hb := hf.blk (b := w.heap.size) (blk_old (blk_new w _) _) (by simp)
  have hff : Fr [] w W := (((Fr.refl [] w).alloc _).alloc _).trans hf (by simp)
  clear hf
  obtain ⟨⟨hs0, hs1, hs2, hs3, hs4⟩, ⟨hz0, hz1, hz2, hz3, hz4⟩, hsz⟩ := blk5_facts hb
  have HB := Lib.hid (blk5_set hb (.int .i64 5) (.int .i64 51956) (.int .u32 0) (.int .u32 0) (.int .i64 0))
  have HF := Lib.hid (fr5_set hff (b := w.heap.size) (Nat.le_refl _) (.int .i64 5) (.int .i64 51956) (.int .u32 0) (.int .u32 0) (.int .i64 0))
  clear hff hb
  go_wp2
  obtain ⟨W5, hW5⟩ : ∃ W5, W5 = set5 W w.heap.size (.int .i64 5) (.int .i64 51956) (.int .u32 0) (.int .u32 0) (.int .i64 0) := ⟨_, rfl⟩
  have hb5 := HB.out
  have hf5 := HF.out
  rw [← hW5] at hb5 hf5
  rw [set5] at hW5
  rw [← hW5]
  clear hW5 HB HF hs0 hs1 hs2 hs3 hs4 hz0 hz1 hz2 hz3 hz4
  obtain ⟨⟨hs0, hs1, hs2, hs3, hs4⟩, ⟨hz0, hz1, hz2, hz3, hz4⟩, _⟩ := blk5_facts hb5
  clear hb5 hz0 hz1 hz2 hz3 hz4
  refine bodyPost_ret (v := .agg #[.int .i64 5, .int .i64 51956, .int .u32 0, .int .u32 0, .int .i64 0]) (by simp [results, Try.results81, go_sem, hs0, hs1, hs2, hs3, hs4]) rfl ?_
  exact ⟨rfl, hf5⟩
set_option maxRecDepth 100000 in
theorem of38_any (w : World) : Calls Try.prog 81 #[.int .i64 38] w fun e w' => e = .returned (ruleV ⟨7, 118782, 0, 0, 118782⟩) ∧ Fr [] w w' := by
  have hor : bits .or .i64 8 65536 = 65544 := by decide +kernel
  have hor1 : bits .or .i64 51956 65544 = 117500 := by decide +kernel
  have hor2 : bits .or .i64 117500 1282 = 118782 := by decide +kernel
  go_enter Try.func81, Try.ntmps81
  go_wp2_with fail
  refine (bitsN_any _ [3] _ 1 rfl _ rfl (blk_atH _ _ _ (by simp)) (by decide) (by decide) (by decide)).mono ?_
  rintro _ w1 ⟨rfl, rfl⟩
  rw [show orB [3] = 8 from by decide +kernel]
  go_wp2_with fail
  refine (acks_any _).mono ?_
  rintro _ w1 ⟨rfl, hf⟩
  have hb := hf.blk (b := w.heap.size) (blk_old (blk_new w _) _) (by simp)
  have hff : Fr [] w w1 := (((Fr.refl [] w).alloc _).alloc _).trans hf (by simp)
  clear hf
  go_wp2_with fail
  refine (bitsN_any _ [1, 8, 10] _ 3 rfl _ rfl (blk_atH _ _ _ (by simp)) (by decide) (by decide) (by decide)).mono ?_
  rintro _ w1 ⟨rfl, rfl⟩
  rw [show orB [1, 8, 10] = 1282 from by decide +kernel]
  replace hb := blk_old hb (.cells (List.flatMap intC [1, 8, 10]).toArray 3)
  replace hff := hff.alloc (.cells (List.flatMap intC [1, 8, 10]).toArray 3)
  go_wp2_with fail
  refine (acks_any _).mono ?_
  rintro _ w2 ⟨rfl, hf⟩
  replace hb := hf.blk hb (by simp)
  replace hff := hff.trans hf (by simp)
  clear hf
  replace hb := blk_old hb (.cells (List.flatMap intC [1, 8, 10]).toArray 3)
  replace hff := hff.alloc (.cells (List.flatMap intC [1, 8, 10]).toArray 3)
  go_wp2_with fail
  refine (bitsN_any _ [1, 8, 10] _ 3 rfl _ rfl (blk_atH _ _ _ (by simp)) (by decide) (by decide) (by decide)).mono ?_
  rintro _ W ⟨rfl, hW⟩
  rw [show orB [1, 8, 10] = 1282 from by decide +kernel]
  replace hb := (show W.heap[w.heap.size]? = _ from hW ▸ hb)
  replace hff : Fr [] w W := hW ▸ hff
  clear hW
  obtain ⟨⟨hs0, hs1, hs2, hs3, hs4⟩, ⟨hz0, hz1, hz2, hz3, hz4⟩, hsz⟩ := blk5_facts hb
  have HB := Lib.hid (blk5_set hb (.int .i64 7) (.int .i64 118782) (.int .u32 0) (.int .u32 0) (.int .i64 118782))
  have HF := Lib.hid (fr5_set hff (b := w.heap.size) (Nat.le_refl _) (.int .i64 7) (.int .i64 118782) (.int .u32 0) (.int .u32 0) (.int .i64 118782))
  clear hff hb
  go_wp2
  obtain ⟨W5, hW5⟩ : ∃ W5, W5 = set5 W w.heap.size (.int .i64 7) (.int .i64 118782) (.int .u32 0) (.int .u32 0) (.int .i64 118782) := ⟨_, rfl⟩
  have hb5 := HB.out
  have hf5 := HF.out
  rw [← hW5] at hb5 hf5
  rw [set5] at hW5
  rw [← hW5]
  clear hW5 HB HF hs0 hs1 hs2 hs3 hs4 hz0 hz1 hz2 hz3 hz4
  obtain ⟨⟨hs0, hs1, hs2, hs3, hs4⟩, ⟨hz0, hz1, hz2, hz3, hz4⟩, _⟩ := blk5_facts hb5
  clear hb5 hz0 hz1 hz2 hz3 hz4
  refine bodyPost_ret (v := .agg #[.int .i64 7, .int .i64 118782, .int .u32 0, .int .u32 0, .int .i64 118782]) (by simp [results, Try.results81, go_sem, hs0, hs1, hs2, hs3, hs4]) rfl ?_
  exact ⟨rfl, hf5⟩
set_option maxRecDepth 100000 in
set_option maxHeartbeats 2000000 in
theorem of0_any (id : Int) (w : World) (h1 : ¬ id = 1) (h2 : ¬ id = 2) (h3 : ¬ id = 3) (h8 : ¬ id = 8) (h9 : ¬ id = 9) (h11 : ¬ id = 11) (h17 : ¬ id = 17) (h18 : ¬ id = 18) (h19 : ¬ id = 19) (h21 : ¬ id = 21) (h22 : ¬ id = 22) (h23 : ¬ id = 23) (h25 : ¬ id = 25) (h24 : ¬ id = 24) (h26 : ¬ id = 26) (h28 : ¬ id = 28) (h31 : ¬ id = 31) (h33 : ¬ id = 33) (h34 : ¬ id = 34) (h35 : ¬ id = 35) (h36 : ¬ id = 36) (h37 : ¬ id = 37) (h40 : ¬ id = 40) (h41 : ¬ id = 41) (h42 : ¬ id = 42) (h38 : ¬ id = 38) (h39 : ¬ id = 39) : Calls Try.prog 81 #[.int .i64 id] w fun e w' => e = .returned (ruleV ⟨0, 0, 0, 0, 0⟩) ∧ Fr [] w w' := by
  have hor : bits .or .i64 8 65536 = 65544 := by decide +kernel
  have n1 : (id == 1) = false := by simpa using h1
  have n2 : (id == 2) = false := by simpa using h2
  have n3 : (id == 3) = false := by simpa using h3
  have n8 : (id == 8) = false := by simpa using h8
  have n9 : (id == 9) = false := by simpa using h9
  have n11 : (id == 11) = false := by simpa using h11
  have n17 : (id == 17) = false := by simpa using h17
  have n18 : (id == 18) = false := by simpa using h18
  have n19 : (id == 19) = false := by simpa using h19
  have n21 : (id == 21) = false := by simpa using h21
  have n22 : (id == 22) = false := by simpa using h22
  have n23 : (id == 23) = false := by simpa using h23
  have n25 : (id == 25) = false := by simpa using h25
  have n24 : (id == 24) = false := by simpa using h24
  have n26 : (id == 26) = false := by simpa using h26
  have n28 : (id == 28) = false := by simpa using h28
  have n31 : (id == 31) = false := by simpa using h31
  have n33 : (id == 33) = false := by simpa using h33
  have n34 : (id == 34) = false := by simpa using h34
  have n35 : (id == 35) = false := by simpa using h35
  have n36 : (id == 36) = false := by simpa using h36
  have n37 : (id == 37) = false := by simpa using h37
  have n40 : (id == 40) = false := by simpa using h40
  have n41 : (id == 41) = false := by simpa using h41
  have n42 : (id == 42) = false := by simpa using h42
  have n38 : (id == 38) = false := by simpa using h38
  have n39 : (id == 39) = false := by simpa using h39
  clear h1 h2 h3 h8 h9 h11 h17 h18 h19 h21 h22 h23 h25 h24 h26 h28 h31 h33 h34 h35 h36 h37 h40 h41 h42 h38 h39
  go_enter Try.func81, Try.ntmps81
  go_wp2_with fail
  refine (bitsN_any _ [3] _ 1 rfl _ rfl (blk_atH _ _ _ (by simp)) (by decide) (by decide) (by decide)).mono ?_
  rintro _ w1 ⟨rfl, rfl⟩
  rw [show orB [3] = 8 from by decide +kernel]
  go_wp2
  refine bodyPost_ret (v := .agg #[.int .i64 0, .int .i64 0, .int .u32 0, .int .u32 0, .int .i64 0]) (by simp [results, Try.results81, go_sem, *]) rfl ?_
  exact ⟨rfl, (by repeat (first | exact Fr.refl _ _ | (with_reducible apply Fr.alloc) | (with_reducible refine Fr.setCell ?_ (Or.inl (by simp)) _)))⟩
end Go.Proofs.Ythioageiebchlaa
namespace Go.Proofs.Ythioageiebchlaa
open Go.RowKit

theorem of_any (id : Int) (w : World) : Calls Try.prog 81 #[.int .i64 id] w fun e w' => e = .returned (.agg #[.int .i64 (ruleOf id).kind, .int .i64 (ruleOf id).inn, .int .u32 (ruleOf id).least, .int .u32 (ruleOf id).most, .int .i64 (ruleOf id).many]) ∧ Fr [] w w' := by
  by_cases h1 : id = 1
  · subst h1; exact of1_any w
  by_cases h2 : id = 2
  · subst h2; exact of2_any w
  by_cases h3 : id = 3
  · subst h3; exact of3_any w
  by_cases h8 : id = 8
  · subst h8; exact of8_any w
  by_cases h9 : id = 9
  · subst h9; exact of9_any w
  by_cases h11 : id = 11
  · subst h11; exact of11_any w
  by_cases h17 : id = 17
  · subst h17; exact of17_any w
  by_cases h18 : id = 18
  · subst h18; exact of18_any w
  by_cases h19 : id = 19
  · subst h19; exact of19_any w
  by_cases h21 : id = 21
  · subst h21; exact of21_any w
  by_cases h22 : id = 22
  · subst h22; exact of22_any w
  by_cases h23 : id = 23
  · subst h23; exact of23_any w
  by_cases h25 : id = 25
  · subst h25; exact of25_any w
  by_cases h24 : id = 24
  · subst h24; exact of24_any w
  by_cases h26 : id = 26
  · subst h26; exact of26_any w
  by_cases h28 : id = 28
  · subst h28; exact of28_any w
  by_cases h31 : id = 31
  · subst h31; exact of31_any w
  by_cases h33 : id = 33
  · subst h33; exact of33_any w
  by_cases h34 : id = 34
  · subst h34; exact of34_any w
  by_cases h35 : id = 35
  · subst h35; exact of35_any w
  by_cases h36 : id = 36
  · subst h36; exact of36_any w
  by_cases h37 : id = 37
  · subst h37; exact of37_any w
  by_cases h40 : id = 40
  · subst h40; exact of40_any w
  by_cases h41 : id = 41
  · subst h41; exact of41_any w
  by_cases h42 : id = 42
  · subst h42; exact of42_any w
  by_cases h38 : id = 38
  · subst h38; exact of38_any w
  by_cases h39 : id = 39
  · subst h39; exact of39_any w
  have e : ruleOf id = ⟨0, 0, 0, 0, 0⟩ := by
    unfold ruleOf
    rw [if_neg h1, if_neg h2, if_neg h3, if_neg h8, if_neg h9, if_neg h11, if_neg h17, if_neg h18, if_neg h19, if_neg h21, if_neg h22, if_neg h23, if_neg h25, if_neg h24, if_neg h26, if_neg h28, if_neg h31, if_neg h33, if_neg h34, if_neg h35, if_neg h36, if_neg h37, if_neg h40, if_neg h41, if_neg h42, if_neg h38, if_neg h39]
  rw [e]
  exact of0_any id w h1 h2 h3 h8 h9 h11 h17 h18 h19 h21 h22 h23 h25 h24 h26 h28 h31 h33 h34 h35 h36 h37 h40 h41 h42 h38 h39
theorem field_kind (W : World) (a b e : Int) (c d : Int) : (Instr.field 132 (.agg #[.int .i64 a, .int .i64 b, .int .u32 c, .int .u32 d, .int .i64 e]) 0).run Try.prog W = .ok (.int .i64 a) W := by kernel_rfl
theorem field_in (W : World) (a b e : Int) (c d : Int) : (Instr.field 132 (.agg #[.int .i64 a, .int .i64 b, .int .u32 c, .int .u32 d, .int .i64 e]) 1).run Try.prog W = .ok (.int .i64 b) W := by kernel_rfl
/-- The bit of a packet. -/
def setN (kind : Int) (isWill : Bool) : Int := if isWill = true then 65536 else if kind < 1 ∨ 15 < kind then 0 else 2 ^ kind.toNat
theorem set_any (kind : Int) (isWill : Bool) (w : World) : Calls Try.prog 82 #[.int .i64 kind, .bool isWill] w fun e w' => e = .returned (.int .i64 (setN kind isWill)) ∧ w = w' := by
  cases isWill
  · by_cases h1 : kind < 1
    · have H : Hid (setN kind false = 0) := Lib.hid (by rw [setN, if_neg (by decide), if_pos (Or.inl h1)])
      go_enter Try.func82, Try.ntmps82
      go_wp2
      go_ret
      rw [H.out]
      exact ⟨rfl, rfl⟩
    by_cases h2 : 15 < kind
    · have H : Hid (setN kind false = 0) := Lib.hid (by rw [setN, if_neg (by decide), if_pos (Or.inr h2)])
      go_enter Try.func82, Try.ntmps82
      go_wp2
      go_ret
      rw [H.out]
      exact ⟨rfl, rfl⟩
    · obtain ⟨k, rfl⟩ := Int.eq_ofNat_of_zero_le (show 0 ≤ kind by omega)
      have H : Hid (setN k false = 2 ^ k) := Lib.hid (by rw [setN, if_neg (by decide), if_neg (by omega), Int.toNat_natCast])
      have H2 : Hid (wrap64 (2 ^ k) = 2 ^ k) := Lib.hid (wrap_pow k (by omega))
      go_enter Try.func82, Try.ntmps82
      go_wp2
      go_ret
      rw [H.out]
      exact ⟨ret_int (by rw [H2.out]), rfl⟩
  · go_enter Try.func82, Try.ntmps82
    go_wp2
    go_ret
    exact ⟨rfl, rfl⟩
set_option maxRecDepth 100000 in
theorem pkind_any (id : Int) (w : World) : Calls Try.prog 86 #[.int .i64 id] w fun e w' => e = .returned (.int .i64 (ruleOf id).kind) ∧ Fr [] w w' := by
  have hfl := field_kind
  go_enter Try.func86, Try.ntmps86
  go_wp2_with fail
  refine (of_any id _).mono ?_
  rintro _ w1 ⟨rfl, hf⟩
  go_wp2
  go_ret
  exact ⟨rfl, hf⟩
/-- May it be there? -/
def mayB (id kind : Int) (isWill : Bool) : Bool := !(bits .and .i64 (ruleOf id).inn (setN kind isWill) == 0)
def manyB (id kind : Int) (isWill : Bool) : Bool := !(bits .and .i64 (ruleOf id).many (setN kind isWill) == 0)
end Go.Proofs.Ythioageiebchlaa
