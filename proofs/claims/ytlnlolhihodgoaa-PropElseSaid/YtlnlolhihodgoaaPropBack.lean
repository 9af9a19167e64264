/- The walk of the law PropBack. -/
import Derived.Test.YtlnlolhihodgoaaPropS
namespace Go.Proofs.Ytlnlolhihodgoaa
open Go.RowKit
theorem right_all (kind : Int) (isWill : Bool) (l : List Pr) (hok : ∀ x ∈ l, x.n < 4294967296 ∧ x.s.length ≤ 9223372036854775807 ∧ x.t.length ≤ 9223372036854775807) :
    OkL kind isWill (rightGo kind isWill (fewR l)) ∧ (rightGo kind isWill (fewR l)).length ≤ 8 ∧ ∀ x ∈ rightGo kind isWill (fewR l), x.n < 4294967296 ∧ x.s.length ≤ 20 ∧ x.t.length ≤ 20 := by
  obtain ⟨hl8, hok8⟩ := fewR_ok l hok
  have h := right_ok kind isWill (fewR l) (fun x hx => by have := hok8 x hx; omega) (fewR l).length (Nat.le_refl _)
  rw [List.take_length] at h
  refine ⟨h.1, by omega, fun x hx => ?_⟩
  obtain ⟨y, hy, rfl⟩ := rightGo_mem kind isWill _ x hx
  exact rightP_small y (hok8 y hy).2.1 (hok8 y hy).2.2
set_option maxRecDepth 100000 in
set_option maxHeartbeats 4000000 in
theorem propBack_walk (A : Option Addr) (n cc : Nat) (l0 : List Pr) (kind : Int) (isWill : Bool) (tail : ByteArray) (wk : (Lit.int .i64 kind).wf = true) (wt : tail.size ≤ maxLen) (w : World) (hH : n = l0.length ∧ n ≤ 9223372036854775807 ∧ View w (.slice A n cc) l0.length (l0.flatMap prE) ∧ ∀ x ∈ l0, x.n < 4294967296 ∧ x.s.length ≤ 9223372036854775807 ∧ x.t.length ≤ 9223372036854775807) :
    Calls Try.prog 12 #[.slice A n cc, .int .i64 kind, .bool isWill, .string tail] w fun e w' => e = .returned (.bool true) ∧ Fr [] w w' := by
  obtain ⟨rfl, hn, hv, hok⟩ := hH
  obtain ⟨t, rfl, ht⟩ := str_list tail
  rw [← ht] at wt
  unfold maxLen at wt
  obtain ⟨hO, hR8, hRok⟩ := right_all kind isWill l0 hok
  have HR9 := Lib.hid (fun x hx => by obtain ⟨a, b, c⟩ := hRok x hx; exact ⟨a, by omega, by omega⟩ : ∀ x ∈ rightGo kind isWill (fewR l0), x.n < 4294967296 ∧ x.s.length ≤ 9223372036854775807 ∧ x.t.length ≤ 9223372036854775807)
  have hps := putsB_small _ (fun x hx => (hRok x hx).2)
  have hbk := Lib.hid (fun t => back_ok hO (by omega) t)
  have HV := Lib.hid hv
  have HO := Lib.hid hok
  have _ := wk
  clear hv hok hRok hO ht
  go_enter Try.func12, Try.ntmps12
  go_wp2_with fail
  refine (cut_any t 20 w wt (by decide)).mono ?_
  rintro _ _ ⟨rfl, rfl⟩
  have hk : (t.take 20).length ≤ 20 := List.length_take_le _ _
  rw [show (20 : Int).toNat = 20 from rfl]
  generalize t.take 20 = t at *
  go_wp2_with fail
  refine (awake3_any _).mono ?_
  rintro _ w1 ⟨rfl, g1⟩
  go_wp2_with fail
  refine (right_any _ l0 kind isWill _ (HV.out.fr g1 (by simp)) hn HO.out).mono ?_
  rintro _ w2 ⟨v, rfl, own2, g2⟩
  generalize rightGo kind isWill (fewR l0) = l at *
  obtain ⟨A1, cp1, rfl⟩ := own_shape own2
  have hf2 := g1.trans g2 (by simp)
  have hlow := fun k hk => (own2.lt k hk).2
  have hno := OutAt.new w2
  have own3 := own2.alloc (.cells #[.slice none 0 0] 73)
  have hf3 : Fr [] w (w2.alloc (.cells #[.slice none 0 0] 73)) := hf2.alloc _
  have z1 := g1.size
  have z2 := hf2.size
  clear own2 g1 g2 hf2 HV HO
  go_wp2_with fail
  refine (puts_any w2.heap.size w2.heap.size [] _ l _ hno (own_view own3) (by omega) HR9.out (by simp)).mono ?_
  rintro _ w3 ⟨rfl, o3, q3, ho3, g3⟩
  rw [List.nil_append] at q3
  have own4 := own_fr g3 own3 (by intro k hk h; have := hlow k hk; simp at h; omega)
  have hf4 := hf3.trans g3 (by intro x hx h; simp at h; omega)
  have z3 := g3.size
  have vl := varB_len' (putsB l).length
  have hvb : (var (putsB l).length ++ putsB l).length ≤ 10000 := by rw [List.length_append]; omega
  clear own3 hno hf3 g3
  go_wp2_with fail
  refine (outraw_any w2.heap.size o3 _ t _ q3 (by omega)).mono ?_
  rintro _ w4 ⟨rfl, o4, q4, ho4, g4⟩
  rw [World.size_alloc] at z3 ho3
  have own5 := own_fr g4 own4 (by intro k hk h; have := hlow k hk; simp at h; omega)
  have hf5 := hf4.trans g4 (by intro x hx h; simp at h; omega)
  have z4 := g4.size
  clear own4 hf4 g4 q3
  go_wp2_with fail
  refine (outtext_any _ _ _ _ q4).mono ?_
  rintro _ _ ⟨rfl, rfl⟩
  go_wp2_with fail
  refine (over_any _ _).mono ?_
  rintro _ w5 ⟨rfl, h5, g5⟩
  have own6 := own_fr g5 own5 (by simp)
  have hf6 := hf5.trans g5 (by simp)
  have z5 := g5.size
  have hS : (⟨var (putsB l).length ++ (putsB l ++ t), 0⟩ : Rd).s.length ≤ 1000000 := by rw [List.length_append] at hvb; simp only [List.length_append]; omega
  clear own5 hf5 g5 q4
  go_wp2_with fail
  refine (ptake_any w4.heap.size _ kind isWill _ h5 hS).mono ?_
  rw [hbk.out t]
  rintro _ w6 ⟨v6, rfl, ownT, _, h6, g6⟩
  have own7 := own_fr g6 own6 (by intro k hk h; have := hlow k hk; simp at h; omega)
  have hf7 := hf6.trans g6 (by intro x hx h; simp at h; omega)
  have z6 := g6.size
  obtain ⟨A6, cp6, rfl⟩ := own_shape ownT
  clear own6 hf6 g6 h5
  go_wp2_with fail
  refine (told_any _ l _ (own_view own7) (by omega)).mono ?_
  rintro _ w7 ⟨v7, rfl, ownD, g7⟩
  have ownT8 := own_fr g7 ownT (by simp)
  have h8 := h6.fr g7 (by simp)
  have hf8 := hf7.trans g7 (by simp)
  clear own7 hf7 h6 g7 ownT
  go_wp2_with fail
  refine (same3_any _ _ l l _ (own_view ownT8) (own_view ownD) (by omega) (by omega)).mono ?_
  rintro _ w8 ⟨rfl, g8⟩
  rw [show sameP l l = 0 from if_pos rfl]
  have h9 := h8.fr g8 (by simp)
  have hf9 := hf8.trans g8 (by simp)
  clear h8 hf8 g8 ownT8 ownD
  go_wp2_with fail
  refine (err_any _ _ _ h9).mono ?_
  rintro _ _ ⟨rfl, rfl⟩
  go_wp2_with fail
  refine (rest_any _ _ _ h9 (by simp; omega)).mono ?_
  rintro _ w9 ⟨rfl, h10, g10⟩
  rw [show (Rd.raw ⟨t, 0⟩ t.length).1 = t from by rw [Rd.raw_ok _ _ rfl (Nat.le_refl _), List.take_length]]
  have hf10 := hf9.trans g10 (by intro x hx h; simp at h; omega)
  clear h10 g10 hf9 h9
  go_wp2
  go_ret
  exact ⟨rfl, hf10⟩
end Go.Proofs.Ytlnlolhihodgoaa
