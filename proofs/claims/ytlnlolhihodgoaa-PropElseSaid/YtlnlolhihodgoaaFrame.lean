/- What the functions of package frame come to ('chk', 'nextR'). Conditions: numbers and strings within Go's. -/
import Derived.Test.YtlnlolhihodgoaaOut
import Derived.Test.YtlnlolhihodgoaaPlainA
namespace Go.Proofs.Ytlnlolhihodgoaa
open Go.RowKit

/-- May a first byte be? -/
def chk (k f : Int) : Bool := decide (1 ≤ k ∧ k ≤ 15 ∧ 0 ≤ f ∧ f ≤ 15) && (if k = 3 then decide (f / 2 % 4 ≠ 3 ∧ (f / 2 % 4 ≠ 0 ∨ f < 8)) else if k = 6 ∨ k = 8 ∨ k = 10 then decide (f = 2) else decide (f = 0))
def chkE (k f : Int) : Int := if chk k f = true then 0 else 2
theorem chkE_no (k f : Int) (h : chk k f = false) : chkE k f = 2 := by simp [chkE, h]
theorem chkE_ok (k f : Int) (h : chk k f = true) : chkE k f = 0 := by simp [chkE, h]
theorem and8 (f : Int) (h0 : 0 ≤ f) (h1 : f ≤ 15) : bits .and .i64 f 8 = if f < 8 then 0 else 8 := by
  obtain ⟨n, rfl⟩ := Int.eq_ofNat_of_zero_le h0
  have : n ≤ 15 := by omega
  match n, this with
  | 0, _ | 1, _ | 2, _ | 3, _ | 4, _ | 5, _ | 6, _ | 7, _ | 8, _ | 9, _ | 10, _ | 11, _ | 12, _ | 13, _ | 14, _ | 15, _ => decide +kernel
set_option maxHeartbeats 1000000 in
theorem check6_any (f : Int) (w : World) :
    Calls Try.prog 23 #[.int .i64 6, .int .i64 f] w fun e w' => e = .returned (.int .i64 (chkE 6 f)) ∧ w = w' := by
  by_cases h : f = 2
  · subst h
    go_enter Try.func23, Try.ntmps23
    go_wp2
    go_ret
    exact ⟨rfl, rfl⟩
  · have h1 : (f != 2) = true := by simpa using h
    have Hc : Hid (chkE 6 f = 2) := Lib.hid (chkE_no _ _ (by simp [chk, h]))
    go_enter Try.func23, Try.ntmps23
    go_wp2
    go_ret
    rw [Hc.out]
    exact ⟨rfl, rfl⟩
set_option maxHeartbeats 1000000 in
theorem check8_any (f : Int) (w : World) :
    Calls Try.prog 23 #[.int .i64 8, .int .i64 f] w fun e w' => e = .returned (.int .i64 (chkE 8 f)) ∧ w = w' := by
  by_cases h : f = 2
  · subst h
    go_enter Try.func23, Try.ntmps23
    go_wp2
    go_ret
    exact ⟨rfl, rfl⟩
  · have h1 : (f != 2) = true := by simpa using h
    have Hc : Hid (chkE 8 f = 2) := Lib.hid (chkE_no _ _ (by simp [chk, h]))
    go_enter Try.func23, Try.ntmps23
    go_wp2
    go_ret
    rw [Hc.out]
    exact ⟨rfl, rfl⟩
set_option maxHeartbeats 1000000 in
theorem check10_any (f : Int) (w : World) :
    Calls Try.prog 23 #[.int .i64 10, .int .i64 f] w fun e w' => e = .returned (.int .i64 (chkE 10 f)) ∧ w = w' := by
  by_cases h : f = 2
  · subst h
    go_enter Try.func23, Try.ntmps23
    go_wp2
    go_ret
    exact ⟨rfl, rfl⟩
  · have h1 : (f != 2) = true := by simpa using h
    have Hc : Hid (chkE 10 f = 2) := Lib.hid (chkE_no _ _ (by simp [chk, h]))
    go_enter Try.func23, Try.ntmps23
    go_wp2
    go_ret
    rw [Hc.out]
    exact ⟨rfl, rfl⟩
set_option maxHeartbeats 2000000 in
theorem check3_any (f : Int) (w : World) (g0 : -9223372036854775808 ≤ f) (g1 : f ≤ 9223372036854775807) :
    Calls Try.prog 23 #[.int .i64 3, .int .i64 f] w fun e w' => e = .returned (.int .i64 (chkE 3 f)) ∧ w = w' := by
  by_cases h0 : f < 0
  · have Hc : Hid (chkE 3 f = 2) := Lib.hid (chkE_no _ _ (by simp [chk]; omega))
    go_enter Try.func23, Try.ntmps23
    go_wp2
    go_ret
    rw [Hc.out]
    exact ⟨rfl, rfl⟩
  by_cases h1 : 15 < f
  · have Hc : Hid (chkE 3 f = 2) := Lib.hid (chkE_no _ _ (by simp [chk]; omega))
    go_enter Try.func23, Try.ntmps23
    go_wp2
    go_ret
    rw [Hc.out]
    exact ⟨rfl, rfl⟩
  have e1 := and_i64 2 (f / 2) 3 (by decide) (by decide) (by omega) (by omega)
  have e2 := and8 f (by omega) (by omega)
  by_cases a1 : (f / 2 % 4 = 3)
  · have Hc : Hid (chkE 3 f = 2) := Lib.hid (chkE_no _ _ (by simp [chk]; omega))
    have a2 : (f / 2 % 4 == 3) = true := by simpa using a1
    clear e2
    go_enter Try.func23, Try.ntmps23
    go_wp2
    go_ret
    rw [Hc.out]
    exact ⟨rfl, rfl⟩
  have a2 : (f / 2 % 4 == 3) = false := by simpa using a1
  by_cases b1 : f / 2 % 4 = 0
  · have b2 : (f / 2 % 4 == 0) = true := by simpa using b1
    by_cases c1 : f < 8
    · have Hc : Hid (chkE 3 f = 0) := Lib.hid (chkE_ok _ _ (by simp [chk]; omega))
      rw [if_pos c1] at e2
      go_enter Try.func23, Try.ntmps23
      go_wp2
      go_ret
      rw [Hc.out]
      exact ⟨rfl, rfl⟩
    · have Hc : Hid (chkE 3 f = 2) := Lib.hid (chkE_no _ _ (by simp [chk]; omega))
      rw [if_neg c1] at e2
      go_enter Try.func23, Try.ntmps23
      go_wp2
      go_ret
      rw [Hc.out]
      exact ⟨rfl, rfl⟩
  · have b2 : (f / 2 % 4 == 0) = false := by simpa using b1
    have Hc : Hid (chkE 3 f = 0) := Lib.hid (chkE_ok _ _ (by simp [chk]; omega))
    clear e2
    go_enter Try.func23, Try.ntmps23
    go_wp2
    go_ret
    rw [Hc.out]
    exact ⟨rfl, rfl⟩
set_option maxHeartbeats 2000000 in
theorem check_any (k f : Int) (w : World) (g0 : -9223372036854775808 ≤ f) (g1 : f ≤ 9223372036854775807) :
    Calls Try.prog 23 #[.int .i64 k, .int .i64 f] w fun e w' => e = .returned (.int .i64 (chkE k f)) ∧ w = w' := by
  by_cases k3 : k = 3
  · subst k3; exact check3_any f w g0 g1
  by_cases k6 : k = 6
  · subst k6; exact check6_any f w
  by_cases k8 : k = 8
  · subst k8; exact check8_any f w
  by_cases k10 : k = 10
  · subst k10; exact check10_any f w
  have h3 : (k == 3) = false := by simpa using k3
  have h6 : (k == 6) = false := by simpa using k6
  have h8 : (k == 8) = false := by simpa using k8
  have h10 : (k == 10) = false := by simpa using k10
  by_cases h0 : k < 1
  · have Hc : Hid (chkE k f = 2) := Lib.hid (chkE_no _ _ (by simp [chk]; omega))
    clear k3 k6 k8 k10
    go_enter Try.func23, Try.ntmps23
    go_wp2
    go_ret
    rw [Hc.out]
    exact ⟨rfl, rfl⟩
  by_cases h1 : 15 < k
  · have Hc : Hid (chkE k f = 2) := Lib.hid (chkE_no _ _ (by simp [chk]; omega))
    clear k3 k6 k8 k10
    go_enter Try.func23, Try.ntmps23
    go_wp2
    go_ret
    rw [Hc.out]
    exact ⟨rfl, rfl⟩
  by_cases hf : f = 0
  · have Hc : Hid (chkE k f = 0) := Lib.hid (chkE_ok _ _ (by simp [chk, k3, k6, k8, k10]; omega))
    subst hf
    clear k3 k6 k8 k10
    go_enter Try.func23, Try.ntmps23
    go_wp2
    go_ret
    rw [Hc.out]
    exact ⟨rfl, rfl⟩
  · have Hc : Hid (chkE k f = 2) := Lib.hid (chkE_no _ _ (by simp [chk, k3, k6, k8, k10]; omega))
    have hf1 : (f != 0) = true := by simpa using hf
    clear k3 k6 k8 k10
    go_enter Try.func23, Try.ntmps23
    go_wp2
    go_ret
    rw [Hc.out]
    exact ⟨rfl, rfl⟩

/-! ### The reader -/
structure RdrAt (w : World) (b : Nat) (most : Int) (s : List UInt8) (e : Int) : Prop where
  blk : w.heap[b]? = some (.cells #[.int .i64 most, .string ⟨s.toArray⟩, .int .i64 e] 87 (0, 0))
theorem RdrAt.fr {S : List Nat} {w w' : World} {b : Nat} {most : Int} {s : List UInt8} {e : Int} (h : RdrAt w b most s e) (hf : Fr S w w') (hb : b ∉ S) : RdrAt w' b most s e := ⟨hf.blk h.blk hb⟩
theorem fnew_any (m : Int) (w : World) :
    Calls Try.prog 15 #[.int .i64 m] w fun e w' => e = .returned (.pointer (some ⟨w.heap.size, 0, none⟩)) ∧ RdrAt w' w.heap.size m [] 0 ∧ Fr [] w w' := by
  go_enter Try.func15, Try.ntmps15
  go_wp2
  go_ret
  exact ⟨rfl, ⟨blk_new _ _⟩, (Fr.refl _ _).alloc _⟩
theorem waits_any (b : Nat) (m : Int) (s : List UInt8) (x : Int) (w : World) (h : RdrAt w b m s x) :
    Calls Try.prog 22 #[.pointer (some ⟨b, 0, none⟩)] w fun e w' => e = .returned (.int .i64 s.length) ∧ w = w' := by
  obtain ⟨⟨c0, c1, c2⟩, ⟨f0, f1, f2⟩, hb⟩ := blk3_facts h.blk
  clear h
  go_enter Try.func22, Try.ntmps22
  go_wp2
  go_ret
  exact ⟨rfl, rfl⟩
theorem feed_any (b : Nat) (m : Int) (s t : List UInt8) (x : Int) (w : World) (h : RdrAt w b m s x) (hl : s.length + t.length ≤ 9223372036854775807) :
    Calls Try.prog 16 #[.pointer (some ⟨b, 0, none⟩), .string ⟨t.toArray⟩] w fun e w' => e = .returned (.tuple #[]) ∧ RdrAt w' b m (if x = 0 then s ++ t else s) x ∧ Fr [b] w w' := by
  obtain ⟨⟨c0, c1, c2⟩, ⟨f0, f1, f2⟩, hb⟩ := blk3_facts h.blk
  by_cases hx : x = 0
  · subst hx
    have H := Lib.hid h
    clear h
    have hcat : (ByteArray.mk s.toArray ++ ByteArray.mk t.toArray) = ByteArray.mk (s ++ t).toArray := ByteArray.mk_append_mk _ _
    go_enter Try.func16, Try.ntmps16
    go_wp2
    go_end0
    exact ⟨rfl, ⟨blk_set H.out.blk 1 _⟩, (Fr.refl _ _).setCell (Or.inr (by simp)) _⟩
  · have hx1 : (x == 0) = false := by simpa using hx
    have HX := Lib.hid hx
    have H := Lib.hid h
    clear h hx
    rw [if_neg HX.out]
    go_enter Try.func16, Try.ntmps16
    go_wp2
    go_end0
    exact ⟨rfl, H.out, Fr.refl _ _⟩
theorem ffail_any (b : Nat) (m : Int) (s : List UInt8) (x y : Int) (w : World) (h : RdrAt w b m s x) :
    Calls Try.prog 51 #[.pointer (some ⟨b, 0, none⟩), .int .i64 y] w fun e w' => e = .returned (.tuple #[.agg #[.int .i64 0, .int .i64 0, .string ⟨[].toArray⟩], .int .i64 y]) ∧ RdrAt w' b m [] y ∧ Fr [b] w w' := by
  obtain ⟨⟨c0, c1, c2⟩, ⟨f0, f1, f2⟩, hb⟩ := blk3_facts h.blk
  have H := Lib.hid h
  clear h
  go_enter Try.func51, Try.ntmps51
  go_wp2
  refine bodyPost_ret (v := .tuple #[.agg #[.int .i64 0, .int .i64 0, .string ⟨[].toArray⟩], .int .i64 y]) (by simp [results, Try.results51, go_sem, *]) rfl ?_
  exact ⟨rfl, ⟨blk_old (blk_set (blk_set H.out.blk 2 _) 1 _) _⟩, (((Fr.refl _ _).setCell (Or.inr (by simp)) _).setCell (Or.inr (by simp)) _).alloc _⟩
theorem fsize_any (n : Nat) (w : World) (hn : n < 4294967296) :
    Calls Try.prog 25 #[.int .i64 (n : Int)] w fun e w' => e = .returned (.int .i64 (1 + (var n).length + n)) ∧ Fr [] w w' := by
  have hv := var_len n
  have hm : (if (0 : Int) < n then (n : Int) else 0) = (n : Int) := by split <;> omega
  go_enter Try.func25, Try.ntmps25
  go_wp2_with fail
  refine (size_any (n : Int) _ (by omega) (by omega)).mono ?_
  rintro _ w1 ⟨rfl, hf⟩
  go_wp2
  go_ret
  exact ⟨rfl, hf⟩
/-- What Next comes to: the frame, the error; then the reader's bytes and its error. -/
structure Got where
  k : Int
  f : Int
  b : List UInt8
  e : Int
  s : List UInt8
  x : Int
def noF (e : Int) (s : List UInt8) (x : Int) : Got := ⟨0, 0, [], e, s, x⟩
def nextR (most : Int) (s : List UInt8) (x : Int) : Got :=
  if x ≠ 0 then noF x s x
  else if s = [] then noF 1 s 0
  else if chkE ((s.getD 0 0).toNat / 16 : Nat) ((s.getD 0 0).toNat % 16 : Nat) ≠ 0 then noF 2 [] 2
  else if (Rd.var ⟨s.drop 1, 0⟩).2.e = 1 then noF 1 s 0
  else if (Rd.var ⟨s.drop 1, 0⟩).2.e ≠ 0 then noF (Rd.var ⟨s.drop 1, 0⟩).2.e [] (Rd.var ⟨s.drop 1, 0⟩).2.e
  else if most < 1 + (var (Rd.var ⟨s.drop 1, 0⟩).1).length + (Rd.var ⟨s.drop 1, 0⟩).1 then noF 4 [] 4
  else if (Rd.var ⟨s.drop 1, 0⟩).2.s.length < (Rd.var ⟨s.drop 1, 0⟩).1 then noF 1 s 0
  else ⟨((s.getD 0 0).toNat / 16 : Nat), ((s.getD 0 0).toNat % 16 : Nat), (Rd.var ⟨s.drop 1, 0⟩).2.s.take (Rd.var ⟨s.drop 1, 0⟩).1, 0, (Rd.var ⟨s.drop 1, 0⟩).2.s.drop (Rd.var ⟨s.drop 1, 0⟩).1, 0⟩
end Go.Proofs.Ytlnlolhihodgoaa
