/- The reference's Sign of layer 2. -/
import Derived.Test.YtlhkgalmiajinaaRefB
namespace Go.Proofs.Ytlhkgalmiajinaa
open Go.RowKit

set_option maxRecDepth 100000 in
set_option maxHeartbeats 16000000 in
theorem rsign_any (s : List UInt8) (w : World) (hs : s.length ≤ 9223372036854775807) :
    Calls Try.prog 119 #[.string ⟨s.toArray⟩] w fun e w' => e = .returned (.tuple #[.int .i64 ((sign s).1 : Int), .int .i64 ((sign s).2 : Int)]) ∧ Fr [] w w' := by
  have hstay := Fr.refl [] w
  go_enter Try.func119, Try.ntmps119
  go_wp2
  go_loopw [4] (fun i wr => ∃ k : Nat, i = .int .i64 (k : Int) ∧ 1 ≤ k ∧ k ≤ 5 ∧ (∀ j, 1 ≤ j → j < k → j ≤ s.length → ¬ testS j s) ∧ Fr [] w wr) (fun i _ => 6 - (intOf i).toNat)
  case atStart => exact ⟨1, rfl, by omega, by omega, fun j h1 h2 _ => by omega, hstay⟩
  case round =>
    obtain ⟨k, rfl, hk1, hk5, hno, hfr⟩ := hrel
    have Hno := Lib.hid hno
    clear hno hstay
    have hend : (k = 5 ∨ s.length < k) → Hid (sign s = (0, 0)) := by
      intro h
      refine Lib.hid ?_
      by_cases h0 : (sign s).2 = 0
      · rw [sign] at h0 ⊢
        split
        · rfl
        rename_i hne
        rw [if_neg hne] at h0
        split
        · rename_i h1; rw [if_pos h1] at h0; cases h0
        rename_i h1
        rw [if_neg h1] at h0
        simp only [] at h0 ⊢
        split
        · rename_i h2; rw [if_pos h2] at h0; exact absurd h0 h2.1
        · rfl
      · obtain ⟨t1, t2, t3, t4, _⟩ := sign_test s h0
        exact absurd t4 (Hno.out _ t1 (by omega) t3)
    by_cases hk : (k : Int) ≤ 4
    · by_cases hl : (k : Int) ≤ (s.length : Int)
      · clear hend
        have hvl := sval_lt s k hk1 (by omega)
        go_wp2_with fail
        refine (value_any s k _ hs hk1 (by omega) (by omega)).mono ?_
        rintro _ w1 ⟨rfl, rfl⟩
        have HT := Lib.hid (show testS k s ↔ testS k s from Iff.rfl)
        have Hr : Hid (rval k s = rval k s) := Lib.hid rfl
        unfold testS okr at HT
        generalize hv : rval k s = v at *
        have Hv := Lib.hid hv
        clear hv
        have hex := ex_take s k
        have HL := Lib.hid hvl
        by_cases a1 : (v : Int) ≤ 1114111
        · have hd1 : decide ((v : Int) ≤ 1114111) = true := by simpa using a1
          by_cases a2 : (v : Int) < 55296
          · have hd : decide ((v : Int) < 55296) = true := by simpa using a2
            by_cases hsp : spell v = s.take k
            · have HS := Lib.hid (test_sign s k hk1 (by omega) (by omega) ⟨by rw [Hv.out]; exact ⟨by omega, Or.inl (by omega)⟩, by rw [Hv.out]; exact hsp⟩)
              generalize s.take k = z at hsp hex
              try clear a3
              try clear a2
              clear a1 hvl HT Hr
              go_wp2_with fail
              first | (go_region_with (first | (go_at_call 126; refine (spell_any v _ (by have := HL.out; omega)).mono ?_; rintro _ x1 ⟨rfl, f1⟩))) | (fail "held")
              all_goals simp only [Act.put, List.getElem_toArray, List.getElem_cons_succ, List.getElem_cons_zero, List.setIfInBounds_toArray, List.set_cons_zero, List.set_cons_succ]
              clear hsp hex hd1 hd
              try clear hd3
              go_wp2
              go_ret2
              rw [HS.out, Hv.out]
              exact ⟨rfl, hfr.drew.trans f1 (by simp)⟩
            · have HS := Lib.hid (show ¬ testS k s from fun h => hsp (by rw [← Hv.out]; exact h.2))
              try clear a3
              try clear a2
              clear a1 hvl HT Hr
              go_wp2_with fail
              first | (go_region_with (first | (go_at_call 126; refine (spell_any v _ (by have := HL.out; omega)).mono ?_; rintro _ x1 ⟨rfl, f1⟩))) | (fail "held")
              all_goals simp only [Act.put, List.getElem_toArray, List.getElem_cons_succ, List.getElem_cons_zero, List.setIfInBounds_toArray, List.set_cons_zero, List.set_cons_succ]
              clear hex hd1 hd
              try clear hd3
              go_wp2
              · exfalso; rename_i hq; exact hsp (by simpa using hq)
              go_round
              case rel => exact ⟨k + 1, by go_num, by omega, by omega, (fun j h1 h2 h3 => if h4 : j < k then Hno.out j h1 h4 h3 else by obtain rfl : j = k := (by omega); exact HS.out), hfr.drew.trans f1 (by simp)⟩
              case measure => simp [intOf]; omega
          · have hd : decide ((v : Int) < 55296) = false := by simpa using a2
            by_cases a3 : 57343 < (v : Int)
            · have hd3 : decide (57343 < (v : Int)) = true := by simpa using a3
              by_cases hsp : spell v = s.take k
              · have HS := Lib.hid (test_sign s k hk1 (by omega) (by omega) ⟨by rw [Hv.out]; exact ⟨by omega, Or.inr (by omega)⟩, by rw [Hv.out]; exact hsp⟩)
                generalize s.take k = z at hsp hex
                try clear a3
                try clear a2
                clear a1 hvl HT Hr
                go_wp2_with fail
                first | (go_region_held3 (fun w' => True) (trivial) (first | (go_at_call 126; refine (spell_any v _ (by have := HL.out; omega)).mono ?_; rintro _ x1 ⟨rfl, f1⟩))) | (fail "held")
                clear hsp hex hd1 hd
                try clear hd3
                go_wp2
                go_ret2
                rw [HS.out, Hv.out]
                exact ⟨rfl, hfr.drew.trans f1 (by simp)⟩
              · have HS := Lib.hid (show ¬ testS k s from fun h => hsp (by rw [← Hv.out]; exact h.2))
                try clear a3
                try clear a2
                clear a1 hvl HT Hr
                go_wp2_with fail
                first | (go_region_held3 (fun w' => True) (trivial) (first | (go_at_call 126; refine (spell_any v _ (by have := HL.out; omega)).mono ?_; rintro _ x1 ⟨rfl, f1⟩))) | (fail "held")
                clear hex hd1 hd
                try clear hd3
                go_wp2
                · exfalso; rename_i hq; exact hsp (by simpa using hq)
                go_round
                case rel => exact ⟨k + 1, by go_num, by omega, by omega, (fun j h1 h2 h3 => if h4 : j < k then Hno.out j h1 h4 h3 else by obtain rfl : j = k := (by omega); exact HS.out), hfr.drew.trans f1 (by simp)⟩
                case measure => simp [intOf]; omega
            · have hd3 : decide (57343 < (v : Int)) = false := by simpa using a3
              have HS := Lib.hid (show ¬ testS k s from fun h => by have := h.1.2; rw [Hv.out] at this; omega)
              try clear a3
              try clear a2
              clear a1 hvl HT Hr
              go_wp2_with fail
              go_region
              go_wp2
              go_round
              case rel => exact ⟨k + 1, by go_num, by omega, by omega, (fun j h1 h2 h3 => if h4 : j < k then Hno.out j h1 h4 h3 else by obtain rfl : j = k := (by omega); exact HS.out), hfr.drew⟩
              case measure => simp [intOf]; omega
        · have hd1 : decide ((v : Int) ≤ 1114111) = false := by simpa using a1
          have HS := Lib.hid (show ¬ testS k s from fun h => by have := h.1.1; rw [Hv.out] at this; omega)
          try clear a3
          try clear a2
          clear a1 hvl HT Hr
          go_wp2_with fail
          go_region
          go_wp2
          go_round
          case rel => exact ⟨k + 1, by go_num, by omega, by omega, (fun j h1 h2 h3 => if h4 : j < k then Hno.out j h1 h4 h3 else by obtain rfl : j = k := (by omega); exact HS.out), hfr.drew⟩
          case measure => simp [intOf]; omega
      · have he := hend (by omega)
        go_wp2
        go_ret2
        rw [he.out]
        exact ⟨rfl, hfr⟩
    · have he := hend (by omega)
      go_wp2
      go_ret2
      rw [he.out]
      exact ⟨rfl, hfr⟩
end Go.Proofs.Ytlhkgalmiajinaa
