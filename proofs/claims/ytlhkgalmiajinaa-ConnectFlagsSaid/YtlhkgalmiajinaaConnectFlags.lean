/- The walk of the law ConnectFlags. -/
import Derived.Test.YtlhkgalmiajinaaConAwake
import Derived.Test.YtlhkgalmiajinaaLaw
namespace Go.Proofs.Ytlhkgalmiajinaa
open Go.RowKit
set_option linter.unusedVariables false
set_option linter.unusedSimpArgs false

/-- A connect of flags alone. -/
def flC (f : Nat) : Cn := ⟨false, 0, [], [], decide (f / 4 % 2 = 1), [], [], [], 0, false, decide (f / 128 % 2 = 1), decide (f / 64 % 2 = 1), [], []⟩
def flS (f : Nat) : List UInt8 := [0, 4, 77, 81, 84, 84, 5, b8 f, 0, 0, 0, 0, 0] ++ ((if decide (f / 4 % 2 = 1) = true then [0, 0, 0, 0, 0] else []) ++ ((if decide (f / 128 % 2 = 1) = true then [0, 0] else []) ++ (if decide (f / 64 % 2 = 1) = true then [0, 0] else [])))
theorem fl_all : ∀ f : Fin 256, (cnText (flC f.val)).set 7 (b8 f.val) = flS f.val ∧ 8 ≤ (cnText (flC f.val)).length ∧ (cnText (flC f.val)).length ≤ 100 ∧ (cnParse (flS f.val)).2 = (if cnBad f.val = true then 2 else 0) ∧
    cnBad f.val = !(((bits .and .u8 (f.val : Int) 1 == 0) && decide (((f.val / 8 % 4 : Nat) : Int) < 3)) && (decide (f.val / 4 % 2 = 1) || (bits .and .u8 (f.val : Int) 56 == 0))) := by
  decide +kernel
def fullC : Cn := ⟨true, 0, [], [], true, [], [], [], 0, false, true, true, [], []⟩
def fullS : List UInt8 := [0, 4, 77, 81, 84, 84, 5, 198, 0, 0, 0, 0, 0, 0, 0, 0, 0, 0, 0, 0, 0, 0]
theorem cn_plain (c : Cn) (w : World) (h1 : c.keep = 0) (h2 : c.qos = 0) (h3 : c.props = []) (h4 : c.wp = []) (h5 : c.id = []) (h6 : c.topic = []) (h7 : c.pay = []) (h8 : c.user = []) (h9 : c.pass = []) : CnOk w c (.slice none 0 0) (.slice none 0 0) := by
  refine ⟨by omega, by omega, ?_, ?_, by simp [h3], by simp [h4], by simp [h3], by simp [h4], by simp [h5], by simp [h6], by simp [h7], by simp [h8], by simp [h9]⟩
  · rw [h3]; exact View.nil _
  · rw [h4]; exact View.nil _
theorem bytes_at {w : World} (l : List UInt8) (j : Nat) (hj : j < l.length) : (Lib.bytesWorld w 5 ⟨l.toArray⟩).cell? ⟨w.heap.size, j, none⟩ = some (.int .u8 (l[j].toNat : Int)) ∧ (Lib.bytesWorld w 5 ⟨l.toArray⟩).frozen? ⟨w.heap.size, j, none⟩ = false := by
  refine ⟨?_, ?_⟩
  · rw [Lib.bytesWorld_cell _ _ _ _ hj]
    simp [List.getD, List.getElem?_eq_getElem hj]
  · have h := Lib.bytesWorld_at_new w 5 ⟨l.toArray⟩
    have hs : l.length ≤ (Lib.bytesCells w 5 ⟨l.toArray⟩).size := by simp [Lib.bytesCells]
    simp [World.frozen?, h]
    omega
theorem bytes_fr (w : World) (l : List UInt8) : Fr [] w (Lib.bytesWorld w 5 ⟨l.toArray⟩) := ⟨rfl, rfl, rfl, by rw [Lib.bytesWorld_size]; omega, fun i hi _ => Lib.bytesWorld_at_old _ _ _ i hi⟩
theorem set_cells {y : World} {B : Nat} (T : List UInt8) (hat : ∀ (j : Nat) (hj : j < T.length), y.cell? ⟨B, j, none⟩ = some (.int .u8 (T[j].toNat : Int)) ∧ y.frozen? ⟨B, j, none⟩ = false) (f : Nat) (hf : f < 256) (h7 : 7 < T.length) :
    ∀ j (hj : j < (T.set 7 (b8 f)).length), (y.setCell ⟨B, 7, none⟩ (.int .u8 (f : Int))).cell? ((⟨B, 0, none⟩ : Addr).add j) = some (.int .u8 ((T.set 7 (b8 f))[j].toNat : Int)) := by
  intro j hj
  rw [add_plain0]
  rw [List.length_set] at hj
  by_cases h : j = 7
  · subst h
    rw [World.cell?_setCell_same _ _ _ (hat 7 hj).1]
    simp [b8_toNat, Nat.mod_eq_of_lt hf]
  · rw [World.cell?_setCell_other _ _ _ _ (by simp), (hat j hj).1]
    simp [List.getElem_set, Ne.symm h]
set_option maxRecDepth 100000 in
set_option maxHeartbeats 4000000 in
theorem connectFlags_walk (a0 : Int) (w0 : (Lit.int .u8 a0).wf = true) (w : World) :
    Calls Try.prog 5 #[.int .u8 a0] w fun e w' => e = .returned (.bool true) ∧ Fr [] w w' := by
  obtain ⟨h0, h1⟩ := wf_u8 w0
  obtain ⟨f, rfl⟩ := Int.eq_ofNat_of_zero_le h0
  have hf : f < 256 := by omega
  clear w0 h0 h1
  have hcv := fun (s : ByteArray) (W : World) => Lib.run_convert_string_bytes (P := Try.prog) W 9 60 5 s Try.underlying9 Try.underlying60 Try.underlying5
  have hF : cnText fullC = fullS := by kernel_rfl
  have hall := fl_all ⟨f, hf⟩
  have hbits := cnbits ⟨f, hf⟩
  dsimp only at hall hbits
  obtain ⟨a1, a2, a3, a4, a5⟩ := hall
  obtain ⟨f2, f4, f64, f128, f1, f8, f32, hx⟩ := hbits
  clear hx
  have HA := Lib.hid (And.intro a1 (And.intro a4 a5))
  clear a1 a4 a5
  go_enter Try.func5, Try.ntmps5
  go_wp2_with fail
  refine (cntext_any fullC (.slice none 0 0) (.slice none 0 0) _ (cn_plain _ _ rfl rfl rfl rfl rfl rfl rfl rfl rfl)).mono ?_
  rintro _ w1 ⟨rfl, g1⟩
  rw [hF]
  go_wp2_with fail
  refine (awake6_any _).mono ?_
  rintro _ w2 ⟨rfl, g2⟩
  unfold fullS
  obtain ⟨T, hT⟩ : ∃ T, cnText (flC f) = T := ⟨_, rfl⟩
  rw [hT] at a2 a3 HA
  have HTT := Lib.hid hT
  clear hT
  go_wp2_with fail
  refine (cntext_any (flC f) (.slice none 0 0) (.slice none 0 0) _ (cn_plain _ _ rfl rfl rfl rfl rfl rfl rfl rfl rfl)).mono ?_
  rintro _ w3 ⟨rfl, g3⟩
  rw [HTT.out]
  go_upto_region 7 with (fail)
  have hfr := bytes_fr w3 T
  have hat := fun j hj => bytes_at (w := w3) T j hj
  obtain ⟨y, hy⟩ : ∃ y, Lib.bytesWorld w3 5 ⟨T.toArray⟩ = y := ⟨_, rfl⟩
  rw [hy] at hfr hat ⊢
  clear hy
  obtain ⟨c7, k7⟩ := hat 7 (by omega)
  obtain ⟨b1, m1⟩ : ∃ b, (bits .and .u8 (f : Int) 1 == 0) = b := ⟨_, rfl⟩
  obtain ⟨b2, m2⟩ : ∃ b, decide (((f / 8 % 4 : Nat) : Int) < 3) = b := ⟨_, rfl⟩
  obtain ⟨hw, m3⟩ : ∃ b, decide (f / 4 % 2 = 1) = b := ⟨_, rfl⟩
  obtain ⟨b5, m5⟩ : ∃ b, (bits .and .u8 (f : Int) 56 == 0) = b := ⟨_, rfl⟩
  rw [m1, m2, m3, m5] at HA
  obtain ⟨q, hq⟩ : ∃ q, f / 8 % 4 = q := ⟨_, rfl⟩
  rw [hq] at f8 m2
  clear hq
  rw [m3] at f4
  have hlen : (T.set 7 (b8 f)).length = T.length := List.length_set
  have hcc := fun cap => run_convert_bytes_back (P := Try.prog) _ 60 9 5 ⟨w3.heap.size, 0, none⟩ cap (T.set 7 (b8 f)) Try.underlying60 Try.underlying5 Try.underlying9 (set_cells T hat f hf (by omega))
  rw [hlen, HA.out.1] at hcc
  have F1 := ((Fr.refl [] w).alloc _).trans g1 (by simp)
  have F2 := F1.trans g2 (by simp)
  have F3 := (F2.alloc _).trans g3 (by simp)
  have hwl := F3.size
  have F5 := Lib.hid ((F3.trans hfr (by simp)).setCell (p := ⟨w3.heap.size, 7, none⟩) (Or.inl (by simpa using hwl)) (.int .u8 (f : Int)))
  have hsl : (flS f).length ≤ 100 := by rw [← HA.out.1, hlen]; exact a3
  clear F1 F2 F3 g1 g2 g3 hfr hat f1 hwl
  go_upto_region 8 with (fail)
  obtain ⟨z, hz⟩ : ∃ z, y.setCell ⟨w3.heap.size, 7, none⟩ (.int .u8 (f : Int)) = z := ⟨_, rfl⟩
  rw [hz] at F5 hcc ⊢
  clear hz c7 k7
  go_wp2_with fail
  refine (cnparse_any (flS f) _ (by omega)).mono ?_
  have HA' := HA.out.2
  obtain ⟨⟨R1, E⟩, hP⟩ : ∃ x, cnParse (flS f) = x := ⟨_, rfl⟩
  rw [hP] at HA' ⊢
  obtain ⟨hE, hB⟩ := HA'
  rw [hB] at hE
  dsimp only at hE
  clear hB HA hP
  rintro _ w5 ⟨v, u, rfl, hv, hu, g5⟩
  obtain ⟨A, cA, rfl⟩ := view_shape hv
  obtain ⟨A', cA', rfl⟩ := view_shape hu
  have F6 := Lib.hid ((F5.out.trans g5 (by simp)).alloc (.cells (cnC R1 (.slice A R1.props.length cA) (.slice A' R1.wp.length cA')).toArray 48))
  clear g5 F5 hv hu
  unfold cnC at F6 ⊢
  cases b1 <;> cases b2 <;> cases hw <;> cases b5
  all_goals
    simp only [Bool.and_true, Bool.true_and, Bool.and_false, Bool.false_and, Bool.or_true, Bool.true_or, Bool.or_false, Bool.false_or, Bool.not_true, Bool.not_false, if_true, Bool.false_eq_true, if_false] at hE
    subst hE
    go_wp2
    go_ret
    exact ⟨rfl, F6.out⟩
end Go.Proofs.Ytlhkgalmiajinaa
