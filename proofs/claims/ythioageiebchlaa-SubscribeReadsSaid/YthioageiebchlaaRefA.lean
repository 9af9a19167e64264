/- What the references of layer 1 (and the sign's spelling of layer 2) come to: the same words as the program's. Conditions: numbers within their kinds, strings that may be. -/
import Derived.Test.YthioageiebchlaaProg
import Derived.Test.YthioageiebchlaaBase
import Derived.Test.YthioageiebchlaaPure
import Derived.Laws.ResultCell
import Derived.Test.YthioageiebchlaaWord
namespace Go.Proofs.Ythioageiebchlaa
open Go.RowKit

theorem conv_lit (w : World) (l : List UInt8) : (convert 31 9 (.slice (some ⟨w.heap.size, 0, none⟩) l.length l.length)).run Try.prog (w.alloc (.cells (bytesV l).toArray 5)) = .ok (.string ⟨l.toArray⟩) (w.alloc (.cells (bytesV l).toArray 5)) := by
  have hc : ∀ j, j < l.length → (w.alloc (.cells (bytesV l).toArray 5)).cell? ⟨w.heap.size, 0 + j, none⟩ = some (.int .u8 ((l.map fun c => (c.toNat : Int)).getD j 0)) := by
    intro j hj
    rw [World.cell?_alloc_at _ _ _ _ rfl]
    simp [bytesV, List.getD, hj]
  have hr := run_convert_bytes_arg (P := Try.prog) (w.alloc (.cells (bytesV l).toArray 5)) 31 5 Try.underlying31 Try.underlying5 w.heap.size 0 l.length l.length (l.map fun c => (c.toNat : Int)) (by simp) hc 9 Try.underlying9
  have e : strOfNums (l.map fun c => (c.toNat : Int)) = ⟨l.toArray⟩ := by
    apply ByteArray.ext
    apply Array.ext'
    rw [strOfNums_data]
    simp only [List.map_map]
    exact map_b8 l
  rw [hr, e]
theorem u8b (a : Int) (h : 0 ≤ a ∧ a < 256) : (Value.int .u8 ((b8 a.toNat).toNat : Int)) = .int .u8 a := by rw [b8_toNat]; congr 1; omega
theorem conv1 (a : Int) (h : 0 ≤ a ∧ a < 256) (w : World) : (convert 31 9 (.slice (some ⟨w.heap.size, 0, none⟩) 1 1)).run Try.prog (w.alloc (.cells #[.int .u8 a] 5)) = .ok (.string ⟨[b8 a.toNat].toArray⟩) (w.alloc (.cells #[.int .u8 a] 5)) := by
  have := conv_lit w [b8 a.toNat]
  simp only [bytesV, List.map_cons, List.map_nil, u8b a h] at this
  exact this
theorem conv2 (a b : Int) (h : 0 ≤ a ∧ a < 256) (h' : 0 ≤ b ∧ b < 256) (w : World) : (convert 31 9 (.slice (some ⟨w.heap.size, 0, none⟩) 2 2)).run Try.prog (w.alloc (.cells #[.int .u8 a, .int .u8 b] 5)) = .ok (.string ⟨[b8 a.toNat, b8 b.toNat].toArray⟩) (w.alloc (.cells #[.int .u8 a, .int .u8 b] 5)) := by
  have := conv_lit w [b8 a.toNat, b8 b.toNat]
  simp only [bytesV, List.map_cons, List.map_nil, u8b a h, u8b b h'] at this
  exact this
theorem conv3 (a b c : Int) (h : 0 ≤ a ∧ a < 256) (h' : 0 ≤ b ∧ b < 256) (h'' : 0 ≤ c ∧ c < 256) (w : World) : (convert 31 9 (.slice (some ⟨w.heap.size, 0, none⟩) 3 3)).run Try.prog (w.alloc (.cells #[.int .u8 a, .int .u8 b, .int .u8 c] 5)) = .ok (.string ⟨[b8 a.toNat, b8 b.toNat, b8 c.toNat].toArray⟩) (w.alloc (.cells #[.int .u8 a, .int .u8 b, .int .u8 c] 5)) := by
  have := conv_lit w [b8 a.toNat, b8 b.toNat, b8 c.toNat]
  simp only [bytesV, List.map_cons, List.map_nil, u8b a h, u8b b h', u8b c h''] at this
  exact this
theorem conv4 (a b c d : Int) (h : 0 ≤ a ∧ a < 256) (h' : 0 ≤ b ∧ b < 256) (h'' : 0 ≤ c ∧ c < 256) (h3 : 0 ≤ d ∧ d < 256) (w : World) : (convert 31 9 (.slice (some ⟨w.heap.size, 0, none⟩) 4 4)).run Try.prog (w.alloc (.cells #[.int .u8 a, .int .u8 b, .int .u8 c, .int .u8 d] 5)) = .ok (.string ⟨[b8 a.toNat, b8 b.toNat, b8 c.toNat, b8 d.toNat].toArray⟩) (w.alloc (.cells #[.int .u8 a, .int .u8 b, .int .u8 c, .int .u8 d] 5)) := by
  have := conv_lit w [b8 a.toNat, b8 b.toNat, b8 c.toNat, b8 d.toNat]
  simp only [bytesV, List.map_cons, List.map_nil, u8b a h, u8b b h', u8b c h'', u8b d h3] at this
  exact this
theorem rtwo_any (n : Int) (w : World) (h0 : 0 ≤ n) (h1 : n < 4294967296) :
    Calls Try.prog 45 #[.int .u32 n] w fun e w' => e = .returned (.string ⟨(two n.toNat).toArray⟩) ∧ Fr [] w w' := by
  have hcv := conv2 (n / 256 % 256) (n % 256) (by omega) (by omega)
  go_enter Try.func45, Try.ntmps45
  go_wp2
  go_ret
  refine ⟨ret_str ?_, (Fr.refl _ _).alloc _⟩
  rw [two, b8_eq (show (n / 256 % 256).toNat % 256 = n.toNat / 256 % 256 by omega), b8_eq (show (n % 256).toNat % 256 = n.toNat % 256 by omega)]
theorem rfour_any (n : Int) (w : World) (h0 : 0 ≤ n) (h1 : n < 4294967296) :
    Calls Try.prog 90 #[.int .u32 n] w fun e w' => e = .returned (.string ⟨(four n.toNat).toArray⟩) ∧ Fr [] w w' := by
  go_enter Try.func90, Try.ntmps90
  go_wp2_with fail
  refine (rtwo_any _ w (by omega) (by omega)).mono ?_
  rintro e w1 ⟨rfl, hf1⟩
  go_wp2_with fail
  refine (rtwo_any _ w1 (by omega) (by omega)).mono ?_
  rintro e w2 ⟨rfl, hf2⟩
  have hl1 : (two (n / 65536).toNat).length = 2 := rfl
  have hl2 : (two n.toNat).length = 2 := rfl
  go_wp2
  go_ret
  refine ⟨?_, hf1.trans hf2 (by simp)⟩
  rw [four, show n.toNat / 65536 = (n / 65536).toNat from by omega, ← ByteArray.mk_append_mk]
  rfl
theorem rdata_any (s : List UInt8) (w : World) (hs : s.length ≤ 9223372036854775807) :
    Calls Try.prog 47 #[.string ⟨s.toArray⟩] w fun e w' => e = .returned (.string ⟨(dataB s).toArray⟩) ∧ Fr [] w w' := by
  by_cases hb : (65535 : Int) < s.length
  · have ht : (s.take 65535).length = 65535 := by rw [List.length_take]; omega
    have hl2 : (two 65535).length = 2 := rfl
    go_enter Try.func47, Try.ntmps47
    go_wp2_with fail
    rw [show min 65535 s.length = 65535 from by omega, ex_take]
    refine (rtwo_any _ w (by omega) (by omega)).mono ?_
    rintro e w1 ⟨rfl, hf1⟩
    rw [show ((65535 : Nat) : Int).toNat = 65535 from rfl]
    go_wp2
    go_ret
    refine ⟨?_, hf1⟩
    rw [dataB, ht, ← ByteArray.mk_append_mk]
    rfl
  · have ht : s.take 65535 = s := List.take_of_length_le (by omega)
    go_enter Try.func47, Try.ntmps47
    go_wp2_with fail
    refine (rtwo_any _ w (by omega) (by omega)).mono ?_
    rintro e w1 ⟨rfl, hf1⟩
    have hl2 : (two s.length).length = 2 := rfl
    rw [Int.toNat_natCast]
    go_wp2
    go_ret
    refine ⟨?_, hf1⟩
    rw [dataB, ht, ← ByteArray.mk_append_mk]
    rfl
set_option maxHeartbeats 1000000 in
theorem rvar_any (n : Int) (w : World) (h0 : 0 ≤ n) (h1 : n < 4294967296) :
    Calls Try.prog 69 #[.int .u32 n] w fun e w' => e = .returned (.string ⟨(var n.toNat).toArray⟩) ∧ Fr [] w w' := by
  obtain ⟨n0, rfl⟩ := Int.eq_ofNat_of_zero_le h0
  rw [Int.toNat_natCast]
  have hcv := conv1
  have Hcv := Lib.hid hcv
  clear hcv
  have HV : ∃ m : Nat, (if (268435455 : Int) < n0 then 268435455 else (n0 : Int)) = m ∧ m < 268435456 ∧ var n0 = varB 3 m := by
    refine ⟨vmin n0, ?_, ?_, rfl⟩ <;> unfold vmin <;> split <;> (try split) <;> omega
  obtain ⟨m, hm1, hm2, hm3⟩ := HV
  have H1 := Lib.hid hm1
  have H3 := Lib.hid hm3
  clear hm1 hm3
  have key : ∀ (k : Nat), Hid (k = m) → Calls Try.prog 69 #[.int .u32 (n0 : Int)] w fun e w' => e = .returned (.string ⟨(var n0).toArray⟩) ∧ Fr [] w w' := by
    intro k hk
    by_cases hb : (268435455 : Int) < n0
    all_goals
      have hk2 : k = if (268435455 : Int) < n0 then 268435455 else n0 := by
        have h1 := H1.out
        have h2 := hk.out
        split <;> rename_i hs
        · rw [if_pos hs] at h1; omega
        · rw [if_neg hs] at h1; omega
      first | rw [if_pos hb] at hk2 | rw [if_neg hb] at hk2
      have Hk2 := Lib.hid hk2
      clear hk2
      go_enter Try.func69, Try.ntmps69
      go_wp2
      go_loopw [0, 3, 4] (fun v s i wr => ∃ (j q : Nat) (l : List UInt8), v = .int .u32 q ∧ s = .string ⟨l.toArray⟩ ∧ i = .int .i64 j ∧ j ≤ 3 ∧ q < 128 ^ (4 - j) ∧ l.length ≤ j ∧ l ++ varB (3 - j) q = var n0 ∧ Fr [] w wr) (fun _ _ i _ => 3 - (intOf i).toNat)
      case atStart =>
        refine ⟨0, k, [], ?_, rfl, rfl, by omega, ?_, by simp, ?_, Fr.refl _ _⟩
        · have := Hk2.out; subst this; rfl
        · have := hk.out; omega
        · have := hk.out; rw [H3.out, this]; rfl
      case round =>
        obtain ⟨j, q, l, rfl, rfl, rfl, hj, hq, hl, hvar, hf⟩ := hrel
        have hq4 : q < 268435456 := by
          have : 128 ^ (4 - j) ≤ 128 ^ 4 := Nat.pow_le_pow_right (by decide) (by omega)
          omega
        have Hq := Lib.hid hq
        have Hvar := Lib.hid hvar
        clear hq hvar hm2
        by_cases hj3 : (j : Int) < 3
        · by_cases hq1 : 128 ≤ (q : Int)
          · have hc := Hcv.out ((128 + (q : Int) % 128)) (by omega)
            go_wp2
            rw [ByteArray.mk_append_mk]
            go_roundw
            case rel =>
              refine ⟨j + 1, q / 128, l ++ [b8 (128 + q % 128)], by go_num, rfl, by go_num, by omega, ?_, by simp; omega, ?_, (by repeat (first | exact Fr.refl _ _ | assumption | (with_reducible apply Fr.alloc) | (with_reducible apply Fr.drew) | (with_reducible apply Fr.drewN) | (with_reducible refine Fr.setCell ?_ (Or.inl (by (try simp) <;> omega)) _) | (refine Fr.trans ?_ (by assumption) (by simp))))⟩
              · have := Hq.out
                rw [show 4 - j = (4 - (j + 1)) + 1 from by omega, Nat.pow_succ] at this
                omega
              · rw [← Hvar.out, show 3 - j = (3 - (j + 1)) + 1 from by omega, varB_on' _ _ (by omega), List.append_assoc, Nat.add_comm 128]
                rfl
            case measure => simp [intOf]; omega
          · have hc := Hcv.out (q : Int) (by omega)
            have hq8 : (q : Int) < 256 := by omega
            go_wp2
            rw [ByteArray.mk_append_mk]
            go_ret
            refine ⟨ret_str ?_, (by repeat (first | exact Fr.refl _ _ | assumption | (with_reducible apply Fr.alloc) | (with_reducible apply Fr.drew) | (with_reducible apply Fr.drewN) | (with_reducible refine Fr.setCell ?_ (Or.inl (by (try simp) <;> omega)) _) | (refine Fr.trans ?_ (by assumption) (by simp))))⟩
            rw [← Hvar.out, varB_last' _ _ (by omega)]
        · have hq8 : (q : Int) < 128 := by
            have := Hq.out
            rw [show 4 - j = 1 from by omega] at this
            omega
          have hc := Hcv.out (q : Int) (by omega)
          go_wp2
          rw [ByteArray.mk_append_mk]
          go_ret
          refine ⟨ret_str ?_, (by repeat (first | exact Fr.refl _ _ | assumption | (with_reducible apply Fr.alloc) | (with_reducible apply Fr.drew) | (with_reducible apply Fr.drewN) | (with_reducible refine Fr.setCell ?_ (Or.inl (by (try simp) <;> omega)) _) | (refine Fr.trans ?_ (by assumption) (by simp))))⟩
          rw [← Hvar.out, varB_last' _ _ (by omega)]
  exact key m (Lib.hid rfl)
theorem rraw_any (r : Rd) (n : Int) (w : World) (hs : r.s.length ≤ 9223372036854775807) :
    Calls Try.prog 78 #[.agg #[.string ⟨r.s.toArray⟩, .int .i64 r.e], .int .i64 n] w fun e w' => e = .returned (.tuple #[.agg #[.string ⟨(r.raw n.toNat).2.s.toArray⟩, .int .i64 (r.raw n.toNat).2.e], .string ⟨(r.raw n.toNat).1.toArray⟩]) ∧ Fr [] w w' := by
  by_cases he : r.e = 0
  · have h1 : (r.e == 0) = true := by simpa using he
    have h2 : (r.e != 0) = false := by simpa using he
    have He := Lib.hid he
    clear he
    by_cases hl : (r.s.length : Int) < n
    · have hn : ¬ n < 0 := by omega
      go_enter Try.func78, Try.ntmps78
      go_wp2
      go_returns
      rw [Rd.raw_end r _ He.out (by omega)]
      exact ⟨rfl, (by repeat (first | exact Fr.refl _ _ | assumption | (with_reducible apply Fr.alloc) | (with_reducible apply Fr.drew) | (with_reducible apply Fr.drewN) | (with_reducible refine Fr.setCell ?_ (Or.inl (by (try simp) <;> omega)) _) | (refine Fr.trans ?_ (by assumption) (by simp))))⟩
    · by_cases hn : n < 0
      · go_enter Try.func78, Try.ntmps78
        go_wp2
        go_region
        all_goals
          go_wp2
          go_returns
          rw [Rd.raw_ok r _ He.out (by omega), show n.toNat = 0 from by omega]
          simp only [ex_take, List.take_length, List.take_zero, List.drop_zero]
          exact ⟨rfl, (by repeat (first | exact Fr.refl _ _ | assumption | (with_reducible apply Fr.alloc) | (with_reducible apply Fr.drew) | (with_reducible apply Fr.drewN) | (with_reducible refine Fr.setCell ?_ (Or.inl (by (try simp) <;> omega)) _) | (refine Fr.trans ?_ (by assumption) (by simp))))⟩
      · go_enter Try.func78, Try.ntmps78
        go_wp2
        go_region
        all_goals
          go_wp2
          go_returns
          rw [Rd.raw_ok r _ He.out (by omega), ex_take, ex_drop _ _ _ (Nat.le_refl _)]
          exact ⟨rfl, (by repeat (first | exact Fr.refl _ _ | assumption | (with_reducible apply Fr.alloc) | (with_reducible apply Fr.drew) | (with_reducible apply Fr.drewN) | (with_reducible refine Fr.setCell ?_ (Or.inl (by (try simp) <;> omega)) _) | (refine Fr.trans ?_ (by assumption) (by simp))))⟩
  · have h1 : (r.e == 0) = false := by simpa using he
    have h2 : (r.e != 0) = true := by simpa using he
    go_enter Try.func78, Try.ntmps78
    go_wp2
    go_returns
    rw [Rd.raw_bad r _ he]
    exact ⟨rfl, (by repeat (first | exact Fr.refl _ _ | assumption | (with_reducible apply Fr.alloc) | (with_reducible apply Fr.drew) | (with_reducible apply Fr.drewN) | (with_reducible refine Fr.setCell ?_ (Or.inl (by (try simp) <;> omega)) _) | (refine Fr.trans ?_ (by assumption) (by simp))))⟩
set_option maxHeartbeats 1000000 in
theorem rnum_any (r : Rd) (n : Int) (w : World) (hs : r.s.length ≤ 9223372036854775807) (h0 : 0 ≤ n) (h4 : n ≤ 4) :
    Calls Try.prog 58 #[.agg #[.string ⟨r.s.toArray⟩, .int .i64 r.e], .int .i64 n] w fun e w' => e = .returned (.tuple #[.agg #[.string ⟨(r.num n.toNat).2.s.toArray⟩, .int .i64 (r.num n.toNat).2.e], .int .u32 (r.num n.toNat).1]) ∧ Fr [] w w' := by
  go_enter Try.func58, Try.ntmps58
  go_wp2_with fail
  refine (rraw_any r n _ hs).mono ?_
  rintro e w1 ⟨rfl, hf1⟩
  have hk : w1.heap[w.heap.size]? = some (.cells #[.string ⟨r.s.toArray⟩, .int .i64 r.e] 99 (0, 0)) := hf1.blk (blk_old (blk_new _ _) _) (by simp)
  have hk2 : w1.heap[w.heap.size + 1]? = some (.cells #[.string ⟨[].toArray⟩, .int .i64 0] 99 (0, 0)) := hf1.blk (blk_at1 _ _ _) (by simp)
  obtain ⟨c0, c1, f0, f1, hbl⟩ := blk2_facts hk
  obtain ⟨d0, d1, g0, g1, hbl2⟩ := blk2_facts hk2
  clear hk hk2
  have hl := r.raw_len n.toNat
  obtain ⟨⟨l, q⟩, hq⟩ : ∃ q, r.raw n.toNat = q := ⟨_, rfl⟩
  rw [hq] at hl ⊢
  have Hq := Lib.hid hq
  clear hq
  have hl4 : l.length ≤ 4 := by simp at hl; omega
  go_wp2
  go_loop [7, 8] (fun v i => ∃ k : Nat, k ≤ l.length ∧ i = .int .i64 k ∧ v = .int .u32 (beN (l.take k) : Int)) (fun _ i => l.length - (intOf i).toNat)
  case atStart => exact ⟨0, by omega, rfl, rfl⟩
  case round =>
    obtain ⟨k, hk, rfl, rfl⟩ := hrel
    by_cases hlt : k < l.length
    · have hv := beN_lt (l.take k)
      have hb2 : beN (l.take k) < 16777216 := by
        refine Nat.lt_of_lt_of_le hv ?_
        have hl3 : (l.take k).length ≤ 3 := by simp; omega
        exact Nat.le_trans (Nat.pow_le_pow_right (by omega) hl3) (by decide)
      clear hv
      have hix := idx_nat l k
      obtain ⟨y, hy⟩ : ∃ y, (l.getD k 0).toNat = y := ⟨_, rfl⟩
      have hyl : y < 256 := by rw [← hy]; exact (l.getD k 0).toNat_lt
      rw [hy] at hix
      have HS := beN_snoc l k hlt
      rw [show l[k].toNat = y from by rw [← hy, List.getD_eq_getElem?_getD, List.getElem?_eq_getElem hlt]; rfl] at HS
      have HS := Lib.hid HS
      clear hy
      go_wp2
      go_round
      case rel => exact ⟨k + 1, by omega, by go_num, by rw [HS.out]; go_num⟩
      case measure => simp [intOf]; omega
    · go_wp2
      refine bodyPost_ret (v := .tuple #[.agg #[.string ⟨q.s.toArray⟩, .int .i64 q.e], .int .u32 (beN (l.take k) : Int)]) (by simp [results, Try.results58, go_sem, *]) rfl ?_
      rw [Rd.num, Hq.out]
      have e : l.take k = l := List.take_of_length_le (by omega)
      rw [e]
      exact ⟨rfl, (by repeat (first | exact Fr.refl _ _ | assumption | (with_reducible apply Fr.alloc) | (with_reducible apply Fr.drew) | (with_reducible apply Fr.drewN) | (with_reducible refine Fr.setCell ?_ (Or.inl (by (try simp) <;> omega)) _) | (refine Fr.trans ?_ (by assumption) (by simp))))⟩
set_option linter.unusedVariables false in
theorem rvar_step (k v c U : Nat) (hk : k ≤ 3) (hU : U = 128 ^ k) (hv : v < 128 ^ k) (hc : c < 256) : ((v : Int) + (U : Int) * ((c : Int) % 128) % 4294967296) % 4294967296 = ((v + c % 128 * U : Nat) : Int) ∧ v + c % 128 * U < 128 ^ (k + 1) ∧ (U : Int) * 128 % 4294967296 = ((U * 128 : Nat) : Int) ∧ U ≤ 2097152 := by
  subst hU
  match k, hk with
  | 0, _ => omega
  | 1, _ => omega
  | 2, _ => omega
  | 3, _ => omega
set_option maxHeartbeats 2000000 in
set_option maxRecDepth 100000 in
theorem rtakevar_any (r : Rd) (w : World) (hs : r.s.length ≤ 9223372036854775807) :
    Calls Try.prog 92 #[.agg #[.string ⟨r.s.toArray⟩, .int .i64 r.e]] w fun e w' => e = .returned (.tuple #[.agg #[.string ⟨r.var.2.s.toArray⟩, .int .i64 r.var.2.e], .int .u32 r.var.1]) ∧ Fr [] w w' := by
  go_enter Try.func92, Try.ntmps92
  go_wp2
  go_loopw [4, 5, 6] (fun v u i wr => ∃ (k vv U : Nat) (q : Rd), i = .int .i64 k ∧ v = .int .u32 vv ∧ u = .int .u32 U ∧ (k ≤ 3 ∧ vv < 128 ^ k ∧ U = 128 ^ k ∧ q.varGo U vv (3 - k) = r.var ∨ k = 4 ∧ r.var = (0, ⟨q.s, 2⟩)) ∧
      wr.heap[w.heap.size]? = some (.cells #[.string ⟨q.s.toArray⟩, .int .i64 q.e] 99 (0, 0)) ∧ wr.heap[w.heap.size + 1]? = some (.cells #[.string ⟨[].toArray⟩, .int .i64 0] 99 (0, 0)) ∧ Fr [] w wr ∧ q.s.length ≤ 9223372036854775807) (fun _ _ i _ => 4 - (intOf i).toNat)
  case atStart =>
    exact ⟨0, 0, 1, r, rfl, rfl, rfl, Or.inl ⟨by decide, by decide, rfl, rfl⟩, blk_old (blk_new _ _) _, blk_at1 _ _ _, (by repeat (first | exact Fr.refl _ _ | assumption | (with_reducible apply Fr.alloc) | (with_reducible apply Fr.drew) | (with_reducible apply Fr.drewN) | (with_reducible refine Fr.setCell ?_ (Or.inl (by (try simp) <;> omega)) _) | (refine Fr.trans ?_ (by assumption) (by simp)))), hs⟩
  case round =>
    obtain ⟨k, v, U, q, rfl, rfl, rfl, hor, hb1, hb2, hf, hl⟩ := hrel
    obtain ⟨c0, c1, f0, f1, hlt1⟩ := blk2_facts hb1
    obtain ⟨d0, d1, g0, g1, hlt2⟩ := blk2_facts hb2
    rcases hor with ⟨hk, hv, hU, hq⟩ | ⟨rfl, hq⟩
    rotate_left
    · have Hq := Lib.hid hq
      clear hq
      go_wp2
      refine bodyPost_ret (v := .tuple #[.agg #[.string ⟨q.s.toArray⟩, .int .i64 2], .int .u32 0]) (by simp [results, Try.results92, go_sem, *]) rfl ?_
      rw [Hq.out]
      exact ⟨rfl, (by repeat (first | exact Fr.refl _ _ | assumption | (with_reducible apply Fr.alloc) | (with_reducible apply Fr.drew) | (with_reducible apply Fr.drewN) | (with_reducible refine Fr.setCell ?_ (Or.inl (by (try simp) <;> omega)) _) | (refine Fr.trans ?_ (by assumption) (by simp))))⟩
    have hkI : (k : Int) ≤ 3 := by omega
    have HU := Lib.hid hU
    clear hU
    go_wp2_with fail
    refine (rnum_any q 1 _ hl (by decide) (by decide)).mono ?_
    rintro e w1 ⟨rfl, hf1⟩
    rw [show (1 : Int).toNat = 1 from rfl]
    clear c0 c1 f0 f1 d0 d1 g0 g1
    have hb1 := hf1.blk hb1 (by simp)
    have hb2 := hf1.blk hb2 (by simp)
    obtain ⟨c0, c1, f0, f1, hlt1⟩ := blk2_facts hb1
    obtain ⟨d0, d1, g0, g1, hlt2⟩ := blk2_facts hb2
    have hff := hf.trans hf1 (by simp)
    have hc := q.num_lt 1
    obtain ⟨⟨c, q1⟩, hq1⟩ : ∃ x, q.num 1 = x := ⟨_, rfl⟩
    have hl1 : q1.s.length ≤ 9223372036854775807 := by have := q.raw_left 1; rw [show (q.raw 1).2 = q1 from congrArg Prod.snd hq1] at this; omega
    rw [hq1] at hc ⊢
    simp only at hc
    have hc256 : c < 256 := by omega
    clear hc
    have Hq := Lib.hid hq
    have Hq1 := Lib.hid hq1
    have Hff := Lib.hid hff
    have Hb1 := Lib.hid hb1
    have Hb2 := Lib.hid hb2
    have hm := rvar_step k v c U hk HU.out hv hc256
    have hu := hm.2.2.2
    have Hm := Lib.hid hm
    clear hf hf1 hq hq1 hff hb1 hb2 hm
    by_cases he : q1.e = 0
    · have h1 : (q1.e == 0) = true := by simpa using he
      have h2 : (q1.e != 0) = false := by simpa using he
      have He := Lib.hid he
      clear he
      by_cases hc1 : (c : Int) < 128
      · by_cases hz : c = 0
        · subst hz
          by_cases hk0 : 0 < k
          · go_wp2
            refine bodyPost_ret (v := .tuple #[.agg #[.string ⟨q1.s.toArray⟩, .int .i64 2], .int .u32 0]) (by simp [results, Try.results92, go_sem, *]) rfl ?_
            rw [← Hq.out, varGo_zero _ _ _ _ _ Hq1.out He.out (by rw [HU.out]; exact Nat.lt_of_lt_of_le (by decide) (Nat.pow_le_pow_right (n := 128) (by decide) (show 1 ≤ k by omega)))]
            have hff := Hff.out
            exact ⟨rfl, (by repeat (first | exact Fr.refl _ _ | assumption | (with_reducible apply Fr.alloc) | (with_reducible apply Fr.drew) | (with_reducible apply Fr.drewN) | (with_reducible refine Fr.setCell ?_ (Or.inl (by (try simp) <;> omega)) _) | (refine Fr.trans ?_ (by assumption) (by simp))))⟩
          · obtain rfl : k = 0 := by omega
            obtain rfl : v = 0 := by simpa using hv
            have hU1 : U = 1 := by have h := HU.out; rw [h]
            subst hU1
            go_wp2
            refine bodyPost_ret (v := .tuple #[.agg #[.string ⟨q1.s.toArray⟩, .int .i64 q1.e], .int .u32 0]) (by simp [results, Try.results92, go_sem, *]) rfl ?_
            rw [← Hq.out, varGo_last _ _ _ _ _ _ Hq1.out He.out (by omega) (fun _ => rfl)]
            have hff := Hff.out
            exact ⟨rfl, (by repeat (first | exact Fr.refl _ _ | assumption | (with_reducible apply Fr.alloc) | (with_reducible apply Fr.drew) | (with_reducible apply Fr.drewN) | (with_reducible refine Fr.setCell ?_ (Or.inl (by (try simp) <;> omega)) _) | (refine Fr.trans ?_ (by assumption) (by simp))))⟩
        · have hz1 : ((c : Int) == 0) = false := by simpa using hz
          go_wp2
          rw [Hm.out.1]
          refine bodyPost_ret (v := .tuple #[.agg #[.string ⟨q1.s.toArray⟩, .int .i64 q1.e], .int .u32 ((v + c % 128 * U : Nat) : Int)]) (by simp [results, Try.results92, go_sem, *]) rfl ?_
          rw [← Hq.out, varGo_last _ _ _ _ _ _ Hq1.out He.out (by omega) (fun h => absurd h hz), Nat.mod_eq_of_lt (show c < 128 by omega)]
          have hff := Hff.out
          exact ⟨rfl, (by repeat (first | exact Fr.refl _ _ | assumption | (with_reducible apply Fr.alloc) | (with_reducible apply Fr.drew) | (with_reducible apply Fr.drewN) | (with_reducible refine Fr.setCell ?_ (Or.inl (by (try simp) <;> omega)) _) | (refine Fr.trans ?_ (by assumption) (by simp))))⟩
      · by_cases hk3 : k < 3
        · go_wp2
          rw [Hm.out.1]
          go_roundw
          case rel =>
            have hff := Hff.out
            refine ⟨k + 1, v + c % 128 * U, U * 128, q1, by go_num, rfl, by go_num, Or.inl ⟨by omega, Hm.out.2.1, by rw [HU.out, Nat.pow_succ], ?_⟩, ?_, ?_, (by repeat (first | exact Fr.refl _ _ | assumption | (with_reducible apply Fr.alloc) | (with_reducible apply Fr.drew) | (with_reducible apply Fr.drewN) | (with_reducible refine Fr.setCell ?_ (Or.inl (by (try simp) <;> omega)) _) | (refine Fr.trans ?_ (by assumption) (by simp)))), hl1⟩
            · rw [← Hq.out, show 3 - k = (3 - (k + 1)) + 1 from by omega, varGo_on _ _ _ _ _ _ Hq1.out He.out (by omega)]
            · exact blk_old (blk2_set Hb1.out _ _) _
            · exact blk_old (blk_far (blk_far Hb2.out (by simp) _) (by simp) _) _
          case measure => simp [intOf]; omega
        · obtain rfl : k = 3 := by omega
          go_wp2
          rw [Hm.out.1]
          go_roundw
          case rel =>
            have hff := Hff.out
            refine ⟨4, v + c % 128 * U, U * 128, q1, by go_num, rfl, by go_num, Or.inr ⟨rfl, ?_⟩, ?_, ?_, (by repeat (first | exact Fr.refl _ _ | assumption | (with_reducible apply Fr.alloc) | (with_reducible apply Fr.drew) | (with_reducible apply Fr.drewN) | (with_reducible refine Fr.setCell ?_ (Or.inl (by (try simp) <;> omega)) _) | (refine Fr.trans ?_ (by assumption) (by simp)))), hl1⟩
            · rw [← Hq.out, show 3 - 3 = 0 from rfl, varGo_long _ _ _ _ _ Hq1.out He.out (by omega)]
            · exact blk_old (blk2_set Hb1.out _ _) _
            · exact blk_old (blk_far (blk_far Hb2.out (by simp) _) (by simp) _) _
          case measure => simp [intOf]
    · have h1 : (q1.e == 0) = false := by simpa using he
      have h2 : (q1.e != 0) = true := by simpa using he
      go_wp2
      refine bodyPost_ret (v := .tuple #[.agg #[.string ⟨q1.s.toArray⟩, .int .i64 q1.e], .int .u32 0]) (by simp [results, Try.results92, go_sem, *]) rfl ?_
      rw [← Hq.out, varGo_bad _ _ _ _ _ _ Hq1.out he]
      have hff := Hff.out
      exact ⟨rfl, (by repeat (first | exact Fr.refl _ _ | assumption | (with_reducible apply Fr.alloc) | (with_reducible apply Fr.drew) | (with_reducible apply Fr.drewN) | (with_reducible refine Fr.setCell ?_ (Or.inl (by (try simp) <;> omega)) _) | (refine Fr.trans ?_ (by assumption) (by simp))))⟩
set_option maxHeartbeats 1000000 in
theorem rtakedata_any (r : Rd) (w : World) (hs : r.s.length ≤ 9223372036854775807) :
    Calls Try.prog 76 #[.agg #[.string ⟨r.s.toArray⟩, .int .i64 r.e]] w fun e w' => e = .returned (.tuple #[.agg #[.string ⟨r.data.2.s.toArray⟩, .int .i64 r.data.2.e], .string ⟨r.data.1.toArray⟩]) ∧ Fr [] w w' := by
  go_enter Try.func76, Try.ntmps76
  go_wp2_with fail
  refine (rnum_any r 2 _ hs (by decide) (by decide)).mono ?_
  rintro e w1 ⟨rfl, hf1⟩
  rw [show (2 : Int).toNat = 2 from rfl]
  have hb1 : w1.heap[w.heap.size]? = some (.cells #[.string ⟨r.s.toArray⟩, .int .i64 r.e] 99 (0, 0)) := hf1.blk (blk_old (blk_new _ _) _) (by simp)
  have hb2 : w1.heap[w.heap.size + 1]? = some (.cells #[.string ⟨[].toArray⟩, .int .i64 0] 99 (0, 0)) := hf1.blk (blk_at1 _ _ _) (by simp)
  have hn : (r.num 2).1 < 256 ^ 2 := r.num_lt 2
  have hl : (r.num 2).2.s.length ≤ 9223372036854775807 := Nat.le_trans (r.raw_left 2) hs
  have hd : r.data = (r.num 2).2.raw (r.num 2).1 := rfl
  have Hd := Lib.hid hd
  clear hd
  obtain ⟨⟨c, q⟩, hq⟩ : ∃ x, r.num 2 = x := ⟨_, rfl⟩
  rw [hq] at hn hl Hd ⊢
  simp only at hn hl Hd
  clear hq
  obtain ⟨c0, c1, f0, f1, hlt1⟩ := blk2_facts hb1
  obtain ⟨d0, d1, g0, g1, hlt2⟩ := blk2_facts hb2
  go_wp2_with fail
  refine (rraw_any q c _ hl).mono ?_
  rintro e w2 ⟨rfl, hf2⟩
  rw [Int.toNat_natCast]
  clear c0 c1 f0 f1 hlt1 d0 d1 g0 g1 hlt2
  have hb3 := hf2.blk (blk2_set hb1 _ _) (by simp)
  have hb4 := hf2.blk (blk_far (blk_far hb2 (p := ⟨w.heap.size, 0, none⟩) (by simp) _) (p := ⟨w.heap.size, 1, none⟩) (by simp) _) (by simp)
  obtain ⟨c0, c1, f0, f1, hlt1⟩ := blk2_facts hb3
  obtain ⟨d0, d1, g0, g1, hlt2⟩ := blk2_facts hb4
  clear hb1 hb2 hb3 hb4
  obtain ⟨⟨l, p⟩, hp⟩ : ∃ x, q.raw c = x := ⟨_, rfl⟩
  rw [hp] at Hd ⊢
  clear hp
  go_wp2
  refine bodyPost_ret (v := .tuple #[.agg #[.string ⟨p.s.toArray⟩, .int .i64 p.e], .string ⟨l.toArray⟩]) (by simp [results, Try.results76, go_sem, *]) rfl ?_
  rw [Hd.out]
  exact ⟨rfl, (by repeat (first | exact Fr.refl _ _ | assumption | (with_reducible apply Fr.alloc) | (with_reducible apply Fr.drew) | (with_reducible apply Fr.drewN) | (with_reducible refine Fr.setCell ?_ (Or.inl (by (try simp) <;> omega)) _) | (refine Fr.trans ?_ (by assumption) (by simp))))⟩
end Go.Proofs.Ythioageiebchlaa
