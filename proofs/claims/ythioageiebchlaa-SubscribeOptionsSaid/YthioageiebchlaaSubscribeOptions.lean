/- The walk of the law SubscribeOptions. -/
import Derived.Test.YthioageiebchlaaSuL
import Derived.Test.YthioageiebchlaaRefA
import Derived.Test.YthioageiebchlaaLaw
namespace Go.Proofs.Ythioageiebchlaa
open Go.RowKit
set_option linter.unusedVariables false
set_option linter.unusedSimpArgs false

theorem one_sub {l : List Sb} {n : Nat} (h : l.map sbOpt = [n]) : ∃ x, l = [x] ∧ sbOpt x = n := by
  match l, h with
  | [x], h => exact ⟨x, rfl, by simpa using h⟩
  | [], h => exact absurd h (by simp)
  | _ :: _ :: _, h => exact absurd h (by simp)
set_option maxRecDepth 100000 in
set_option maxHeartbeats 4000000 in
theorem subscribeOptions_walk (a0 : Int) (w0 : (Lit.int .u8 a0).wf = true) (w : World) :
    Calls Try.prog 3 #[.int .u8 a0] w fun e w' => e = .returned (.bool true) ∧ Fr [] w w' := by
  obtain ⟨g0, g1⟩ := wf_u8 w0
  obtain ⟨n, rfl⟩ := Int.eq_ofNat_of_zero_le g0
  clear w0
  have hn : n < 256 := by omega
  have hF := opts_fin ⟨n, hn⟩
  dsimp only at hF
  obtain ⟨hF1, hF2⟩ := hF
  have hand3 := and3u8 ⟨n, hn⟩
  dsimp only at hand3
  have hcv := conv1 (n : Int) ⟨by omega, by omega⟩ w
  rw [Int.toNat_natCast] at hcv
  obtain ⟨S, hS⟩ : ∃ S : List UInt8, [0, 1, 0, 0, 1, 97, b8 n] = S := ⟨_, rfl⟩
  have hcat : (ByteArray.mk #[0, 1, 0, 0, 1, 97]) ++ (ByteArray.mk [b8 n].toArray) = ⟨S.toArray⟩ := by
    rw [← hS, show (#[0, 1, 0, 0, 1, 97] : Array UInt8) = ([0, 1, 0, 0, 1, 97] : List UInt8).toArray from rfl, ByteArray.mk_append_mk]
    rfl
  have hSl : S.length = 7 := by rw [← hS]; rfl
  rw [hS] at hF1 hF2
  have HB := Lib.hid (suParse_b S (by omega))
  obtain ⟨⟨⟨id, lp, ss⟩, E⟩, hP⟩ : ∃ x, suParse S = x := ⟨_, rfl⟩
  rw [hP] at hF1 hF2 HB
  dsimp only at hF1 hF2
  have HP := Lib.hid hP
  have HC := Lib.hid hcat
  have hS7 : S.length ≤ 7 := by omega
  have HF2 := Lib.hid hF2
  have HF1 := Lib.hid hF1
  clear hP hcat hS hSl hF1 hF2
  go_enter Try.func3, Try.ntmps3
  go_wp2_with fail
  rw [HC.out]
  refine (suparse_any S _ (by omega)).mono ?_
  rw [HP.out]
  rintro _ y1 ⟨v1, u1, rfl, hv1, hu1, g1'⟩
  obtain ⟨A1, c1, rfl⟩ := view_shp hv1
  obtain ⟨A1', c1', rfl⟩ := view_shp hu1
  dsimp only at hv1 hu1
  unfold suC
  dsimp only
  have hb1 := blk_new y1 (.cells #[.int .u32 (id : Int), .slice A1 lp.length c1, .slice A1' ss.length c1'] 27)
  have G1 := (Fr.refl [] y1).alloc (.cells #[.int .u32 (id : Int), .slice A1 lp.length c1, .slice A1' ss.length c1'] 27)
  have HU1 := Lib.hid (hu1.old G1 (by simp))
  have HB1 := Lib.hid hb1
  have HF := Lib.hid ((((Fr.refl [] w).alloc (.cells #[.int .u8 (n : Int)] 5)).trans g1' (by simp)).trans G1 (by simp))
  clear hb1 G1 hv1 hu1 g1' hcv
  go_upto_region 2 with (fail)
  obtain ⟨X1, hX1⟩ : ∃ X, y1.heap.size = X := ⟨_, rfl⟩
  obtain ⟨z1, hz1⟩ : ∃ z, y1.alloc (.cells #[.int .u32 (id : Int), .slice A1 lp.length c1, .slice A1' ss.length c1'] 27) = z := ⟨_, rfl⟩
  rw [hX1] at HB1 ⊢
  rw [hz1] at HB1 HU1 HF ⊢
  clear hX1 hz1
  by_cases h63 : 63 < n
  · have hE : E = 2 := by have := HF1.out; rw [if_pos h63] at this; exact this
    subst hE
    have i63 : decide ((63 : Int) < (n : Int)) = true := decide_eq_true (by omega)
    have j63 : (63 : Int) < (n : Int) := by omega
    clear h63
    go_wp2_with fail
    refine (awake8_any _).mono ?_
    rintro _ z2 ⟨rfl, g2⟩
    go_wp2
    go_ret
    exact ⟨rfl, HF.out.trans g2 (by simp)⟩
  have i63 : decide ((63 : Int) < (n : Int)) = false := decide_eq_false (by omega)
  have j63 : ¬ (63 : Int) < (n : Int) := by omega
  by_cases h3 : n % 4 = 3 ∨ n / 16 = 3
  · have hE : E = 3 := by have := HF1.out; rw [if_neg h63, if_pos h3] at this; exact this
    subst hE
    by_cases hm : n % 4 = 3
    · have im : (((n % 4 : Nat) : Int) == 3) = true := by rw [hm]; rfl
      clear h63 h3 hm
      obtain ⟨m, hm⟩ : ∃ m, n % 4 = m := ⟨_, rfl⟩
      rw [hm] at hand3 im
      clear hm
      go_wp2_with fail
      refine (awake8_any _).mono ?_
      rintro _ z2 ⟨rfl, g2⟩
      go_wp2
      go_ret
      exact ⟨rfl, HF.out.trans g2 (by simp)⟩
    · have im : (((n % 4 : Nat) : Int) == 3) = false := by simp; omega
      have id16 : ((n : Int) / 16 == 3) = true := by simp; omega
      clear h63 h3 hm
      obtain ⟨m, hm⟩ : ∃ m, n % 4 = m := ⟨_, rfl⟩
      rw [hm] at hand3 im
      clear hm
      go_wp2_with fail
      refine (awake8_any _).mono ?_
      rintro _ z2 ⟨rfl, g2⟩
      go_wp2
      go_ret
      exact ⟨rfl, HF.out.trans g2 (by simp)⟩
  · have hE : E = 0 := by have := HF1.out; rw [if_neg h63, if_neg h3] at this; exact this
    subst hE
    have im : (((n % 4 : Nat) : Int) == 3) = false := by simp; omega
    have id16 : ((n : Int) / 16 == 3) = false := by simp; omega
    obtain ⟨x, hx, hxo⟩ := one_sub (HF2.out rfl)
    have hxk := HB.out.so x (by rw [hx]; simp)
    obtain ⟨bb, off, c', hsl, hbb, hc⟩ := HU1.out.at sbE_len (by decide) (by rw [hx]; exact Nat.zero_lt_one)
    rw [hx] at hsl hc HB1 ⊢
    cases hsl
    have hcell := hc 0 Nat.zero_lt_one
    have HC := Lib.hid hcell
    obtain ⟨q1, q2, q3⟩ := hxk
    have HOP := Lib.hid (fun W => psopt_any x W q1 q2)
    have HXO := Lib.hid hxo
    clear h63 h3 hx hxo hc hcell HU1 HF1 HF2 q1 q2 q3
    obtain ⟨m, hm⟩ : ∃ m, n % 4 = m := ⟨_, rfl⟩
    rw [hm] at hand3 im
    clear hm
    go_wp2_with fail
    refine (awake8_any _).mono ?_
    rintro _ z2 ⟨rfl, g2⟩
    have hcx := HC.out
    rw [show ([x] : List Sb)[0] = x from rfl] at hcx
    obtain ⟨f, q, nl, ap, h⟩ := x
    have c0 : z2.cell? ⟨bb, off, none⟩ = some (.string ⟨f.toArray⟩) := by have := g2.cell (hcx 0 _ rfl) (by simp); simpa using this
    have c1x : z2.cell? ⟨bb, off + 1, none⟩ = some (.int .u8 (q : Int)) := by have := g2.cell (hcx 1 _ rfl) (by simp); simpa using this
    have c2 : z2.cell? ⟨bb, off + 2, none⟩ = some (.bool nl) := by have := g2.cell (hcx 2 _ rfl) (by simp); simpa using this
    have c3 : z2.cell? ⟨bb, off + 3, none⟩ = some (.bool ap) := by have := g2.cell (hcx 3 _ rfl) (by simp); simpa using this
    have c4 : z2.cell? ⟨bb, off + 4, none⟩ = some (.int .u8 (h : Int)) := by have := g2.cell (hcx 4 _ rfl) (by simp); simpa using this
    have hb2 := g2.blk HB1.out (by simp)
    have HF3 := Lib.hid (HF.out.trans g2 (by simp))
    obtain ⟨⟨e0, e1, e2⟩, _, _⟩ := blk3_facts hb2
    clear hcx g2 hb2 e0 e1
    go_wp2_with fail
    refine (HOP.out _).mono ?_
    rintro _ z3 ⟨rfl, g3⟩
    rw [HXO.out]
    clear c0 c1x c2 c3 c4 e2
    go_wp2
    go_ret
    exact ⟨rfl, HF3.out.trans g3 (by simp)⟩
end Go.Proofs.Ythioageiebchlaa
