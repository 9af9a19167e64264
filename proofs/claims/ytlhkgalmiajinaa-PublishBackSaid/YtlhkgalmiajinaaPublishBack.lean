/- The walk of the law PublishBack. -/
import Derived.Test.YtlhkgalmiajinaaPublishReads
import Derived.Test.YtlhkgalmiajinaaPlainQ
import Derived.Test.YtlhkgalmiajinaaLetters
import Derived.Deep.DrawnRows
import Derived.Test.YtlhkgalmiajinaaDrawn
import Derived.Test.YtlhkgalmiajinaaStep
namespace Go.Proofs.Ytlhkgalmiajinaa
open Go.RowKit
set_option linter.unusedSimpArgs false
set_option linter.unusedVariables false
attribute [local go_sem ↓] Go.wp_at_zero Go.wp_at_succ

theorem rcodes_any (k : Int) (w : World) : Calls Try.prog 49 #[.int .i64 k] w fun e w' => ∃ c, e = .returned (.slice (some ⟨w.heap.size, 0, none⟩) (codesB k).length c) ∧ (∀ j (h : j < (codesB k).length), w'.cell? ⟨w.heap.size, j, none⟩ = some (.int .u8 ((codesB k)[j].toNat : Int))) ∧ w.heap.size < w'.heap.size ∧ Fr [] w w' := by
  have hcv := fun (s : ByteArray) (W : World) => Lib.run_convert_string_bytes (P := Try.prog) W 9 60 5 s Try.underlying9 Try.underlying60 Try.underlying5
  go_enter Try.func49, Try.ntmps49
  go_wp2_with fail
  refine (codes_any k w).mono ?_
  rintro _ _ ⟨rfl, rfl⟩
  go_wp2
  obtain ⟨w2, hw2⟩ : ∃ w2, Lib.bytesWorld w 5 ⟨(codesB k).toArray⟩ = w2 := ⟨_, rfl⟩
  rw [hw2]
  go_ret
  refine ⟨_, rfl, fun j h => ?_, ?_, ?_⟩
  · rw [← hw2, Lib.bytesWorld_cell _ _ _ _ h]
    simp [List.getD, List.getElem?_eq_getElem h]
  · rw [← hw2, Lib.bytesWorld_size]; omega
  · rw [← hw2]; exact ⟨rfl, rfl, rfl, by rw [Lib.bytesWorld_size]; omega, fun i hi _ => Lib.bytesWorld_at_old _ _ _ i hi⟩
theorem own_ge2 {w : World} {base : Nat} {e : TypeId} {size n : Nat} {v : Value} {xs : List Value} (h : w.ownsRow base e size v n xs) : ∀ k, v.ownBlock = some k → base ≤ k := by
  rcases h.2 with ⟨rfl, _⟩ | ⟨g, cap, cur, rfl, hb, _⟩
  · intro k hk; simp [Value.ownBlock] at hk
  · intro k hk; simp [Value.ownBlock] at hk; omega
theorem idx_mod (a : Int) (L : Nat) (h0 : 0 < L) (h9 : L ≤ 9) : ∃ j : Nat, j < L ∧ (wrap64 (a.tmod L + L)).tmod L = (j : Int) := by
  have h1 := Int.tmod_lt_of_pos a (show (0 : Int) < L by omega)
  have h2 := Int.lt_tmod_of_pos a (show (0 : Int) < L by omega)
  have h3 : wrap64 (a.tmod L + L) = a.tmod L + L := by
    simp only [wrap64]
    omega
  rw [h3, Int.tmod_eq_emod_of_nonneg (by omega)]
  have h4 := Int.emod_nonneg (a.tmod L + L) (show (L : Int) ≠ 0 by omega)
  have h5 := Int.emod_lt_of_pos (a.tmod L + L) (show (0 : Int) < L by omega)
  exact ⟨((a.tmod L + L) % L).toNat, by omega, by omega⟩
theorem let_long (id : Int) (s : List UInt8) (h : s.length ≤ 1000000) : ∀ x ∈ [letP id s], x.n < 4294967296 ∧ x.s.length ≤ 9223372036854775807 ∧ x.t.length ≤ 9223372036854775807 := by
  intro x hx
  simp at hx
  subst hx
  exact ⟨by show (0 : Nat) < _; omega, by show (lettersB s).length ≤ _; rw [lettersB_len]; omega, by show (0 : Nat) ≤ _; omega⟩
set_option maxRecDepth 100000 in
set_option maxHeartbeats 40000000 in
theorem publishBack_walk (p : Pb) (v : Value) (a1 a2 a3 : Int) (a4 : ByteArray) (w1 : (Lit.int .i64 a1).wf = true) (w2 : (Lit.int .u32 a2).wf = true) (w3 : (Lit.int .i64 a3).wf = true) (w4 : a4.size ≤ maxLen) (w : World) (hq : p.qos < 256) (ht : p.topic.length ≤ 9223372036854775807) (hy : p.pay.length ≤ 9223372036854775807) (hv : View w v p.props.length (p.props.flatMap prE)) :
    Calls Try.prog 13 #[.agg (pbC p v).toArray, .int .i64 a1, .int .u32 a2, .int .i64 a3, .string a4] w fun e w' => e = .returned (.bool true) ∧ Fr [] w w' := by
  have _ := w1
  have _ := w3
  obtain ⟨g0, g1⟩ := wf_u32 w2
  obtain ⟨N, rfl⟩ := Int.eq_ofNat_of_zero_le g0
  obtain ⟨s0, rfl, hs0⟩ := str_list a4
  rw [← hs0] at w4
  unfold maxLen at w4
  clear w1 w2 w3 g0 g1 hs0
  obtain ⟨dup, ret, q, id, l, t, y⟩ := p
  dsimp only at hq ht hy hv
  obtain ⟨A, cp, rfl, _⟩ := hv
  have ha := and3 a1
  obtain ⟨m, hm⟩ := Int.eq_ofNat_of_zero_le (show 0 ≤ a1 % 4 by omega)
  have hm4 : m < 4 := by omega
  rw [hm] at ha
  clear hm
  obtain ⟨k, hk⟩ : ∃ k : Nat, k = 4 + m := ⟨_, rfl⟩
  have hk0 : 4 ≤ k := by omega
  have hk7 : k ≤ 7 := by omega
  have hkm : 4 + (m : Int) = (k : Int) := by omega
  obtain ⟨n, hn⟩ : ∃ n : Nat, n = 1 + N % 65535 := ⟨_, rfl⟩
  have hn0 : n ≠ 0 := by omega
  have hn1 : n < 65536 := by omega
  have hnm : 1 + (N : Int) % 65535 = (n : Int) := by omega
  obtain ⟨Q, hQ⟩ : ∃ Q : Nat, Q = q % 3 := ⟨_, rfl⟩
  have hQ3 : Q < 3 := by omega
  have hQm : (q : Int) % 3 = (Q : Int) := by omega
  have hQt : (q : Int).tmod 3 = (Q : Int) := by rw [Int.tmod_eq_emod_of_nonneg (by omega)]; exact hQm
  have HX0 := Lib.hid (And.intro hk (And.intro hn (And.intro hQ hm4)))
  clear hk hn hQ hm4
  obtain ⟨E, hE⟩ : ∃ E : Bool, decide ((0 : Int) < (Q : Int)) = E := ⟨_, rfl⟩
  have HE : Hid (E = true → 0 < Q) := Lib.hid (by rw [← hE]; simp)
  have HE2 : Hid (decide (0 < Q) = E) := Lib.hid (by rw [← hE]; simp)
  have hb0 := blk_new w (.cells (pbC ⟨dup, ret, q, id, l, t, y⟩ (.slice A l.length cp)).toArray 26)
  have F0 : Fr [] w (w.alloc (.cells (pbC ⟨dup, ret, q, id, l, t, y⟩ (.slice A l.length cp)).toArray 26)) := (Fr.refl _ _).alloc _
  unfold pbC at hb0 F0 ⊢
  go_enter Try.func13, Try.ntmps13
  go_wp2_with fail
  refine (awake7_any _).mono ?_
  rintro _ w1 ⟨rfl, g1⟩
  have hb1 := g1.blk hb0 (by simp)
  have F1 := Lib.hid (F0.trans g1 (by simp))
  clear hb0 F0 g1
  go_upto_region 3 with (fail)
  go_cut [11] (fun v11 wx => ∃ b g, v11 = .pointer (some ⟨b, 0, none⟩) ∧ wx.heap[b]? = some (.cells #[.bool (dup && E), .bool ret, .int .u8 (Q : Int), .int .u32 0, .slice (some ⟨g, 0, none⟩) 1 1, .string ⟨(lettersB (t.take 20)).toArray⟩, .string ⟨(y.take 50).toArray⟩] 26 (0, 0)) ∧ wx.heap[g]? = some (.cells #[.int .i64 3, .int .u32 0, .string ⟨(lettersB (s0.take 20)).toArray⟩, .string ⟨#[]⟩] 97 (0, 0)) ∧ g ≠ b ∧ w.heap.size ≤ b ∧ Fr [] w wx)
  case first =>
    cases dup
    · obtain ⟨⟨e0, e1, e2, e3, e4, e5, e6⟩, _, _⟩ := blk7_facts hb1
      refine wp_region_late [] (S := fun w' => w'.cell? ⟨w.heap.size, 0, none⟩ = some (.bool false) ∧ w'.cell? ⟨w.heap.size, 1, none⟩ = some (.bool ret) ∧ w'.cell? ⟨w.heap.size, 2, none⟩ = some (.int .u8 (q : Int)) ∧ w'.cell? ⟨w.heap.size, 5, none⟩ = some (.string ⟨t.toArray⟩) ∧ w'.cell? ⟨w.heap.size, 6, none⟩ = some (.string ⟨y.toArray⟩)) (by kernel_rfl) ⟨e0, e1, e2, e5, e6⟩ (fun hHeld => ?_)
      have fd := (Fr.refl [] w1).drew
      have hbd := fd.blk hb1 (by simp)
      obtain ⟨wd, hwd⟩ : ∃ wd, w1.drew = wd := ⟨_, rfl⟩
      rw [hwd] at hHeld fd hbd ⊢
      clear hwd e0 e1 e2 e3 e4 e5 e6 hb1
      obtain ⟨⟨e0, e1, e2, e3, e4, e5, e6⟩, _, _⟩ := blk7_facts hbd
      clear e3 e4
      have HBd := Lib.hid hbd
      clear hbd
      refine wpLate_take (i := 0) (oi := _) (v := ?_) rfl (by kernel_rfl) (by kernel_rfl) (by kernel_rfl) (by kernel_rfl) (fun _ _ _ h => h) (Gives.load (by rfl) ?_) hHeld ?_
      rotate_left
      · intro w hSw
        (try dsimp only at hSw)
        go_simp
        try with_reducible rfl
      try simp only [Act.put, List.getElem_toArray, List.getElem_cons_succ, List.getElem_cons_zero, List.setIfInBounds_toArray, List.set_cons_zero, List.set_cons_succ]
      refine wpLate_take (i := 1) (oi := _) (v := ?_) rfl (by kernel_rfl) (by kernel_rfl) (by kernel_rfl) (by kernel_rfl) (fun _ _ _ h => h) (Gives.load (by rfl) ?_) hHeld ?_
      rotate_left
      · intro w hSw
        (try dsimp only at hSw)
        go_simp
        try with_reducible rfl
      try simp only [Act.put, List.getElem_toArray, List.getElem_cons_succ, List.getElem_cons_zero, List.setIfInBounds_toArray, List.set_cons_zero, List.set_cons_succ]
      refine wpLate_take (i := 2) (oi := _) (v := ?_) rfl (by kernel_rfl) (by kernel_rfl) (by kernel_rfl) (by kernel_rfl) (fun _ _ _ h => h) (Gives.load (by rfl) ?_) hHeld ?_
      rotate_left
      · intro w hSw
        (try dsimp only at hSw)
        go_simp
        try with_reducible rfl
      try simp only [Act.put, List.getElem_toArray, List.getElem_cons_succ, List.getElem_cons_zero, List.setIfInBounds_toArray, List.set_cons_zero, List.set_cons_succ]
      refine wpLate_pure (i := 3) (oi := _) (v := undef) rfl (by kernel_rfl) (by kernel_rfl) (by kernel_rfl) (by kernel_rfl) (fun _ _ _ h => h) (Or.inr ⟨by rfl, rfl⟩) (fun _ => hHeld) ?_
      try simp only [Act.put, List.getElem_toArray, List.getElem_cons_succ, List.getElem_cons_zero, List.setIfInBounds_toArray, List.set_cons_zero, List.set_cons_succ]
      refine wpLate_pure (i := 4) (oi := _) (v := undef) rfl (by kernel_rfl) (by kernel_rfl) (by kernel_rfl) (by kernel_rfl) (fun _ _ _ h => h) (Or.inr ⟨by rfl, rfl⟩) (fun _ => hHeld) ?_
      try simp only [Act.put, List.getElem_toArray, List.getElem_cons_succ, List.getElem_cons_zero, List.setIfInBounds_toArray, List.set_cons_zero, List.set_cons_succ]
      refine wpLate_pure (i := 5) (oi := _) (v := undef) rfl (by kernel_rfl) (by kernel_rfl) (by kernel_rfl) (by kernel_rfl) (fun _ _ _ h => h) (Or.inr ⟨by rfl, rfl⟩) (fun _ => hHeld) ?_
      try simp only [Act.put, List.getElem_toArray, List.getElem_cons_succ, List.getElem_cons_zero, List.setIfInBounds_toArray, List.set_cons_zero, List.set_cons_succ]
      try rw [hQt]
      refine wpLate_pure (i := 6) (oi := _) (v := undef) rfl (by kernel_rfl) (by kernel_rfl) (by kernel_rfl) (by kernel_rfl) (fun _ _ _ h => h) (Or.inr ⟨by rfl, rfl⟩) (fun _ => hHeld) ?_
      try simp only [Act.put, List.getElem_toArray, List.getElem_cons_succ, List.getElem_cons_zero, List.setIfInBounds_toArray, List.set_cons_zero, List.set_cons_succ]
      refine wpLate_take (i := 7) (oi := _) (v := ?_) rfl (by kernel_rfl) (by kernel_rfl) (by kernel_rfl) (by kernel_rfl) (fun _ _ _ h => h) (Gives.load (by rfl) ?_) hHeld ?_
      rotate_left
      · intro w hSw
        (try dsimp only at hSw)
        go_simp
        try with_reducible rfl
      try simp only [Act.put, List.getElem_toArray, List.getElem_cons_succ, List.getElem_cons_zero, List.setIfInBounds_toArray, List.set_cons_zero, List.set_cons_succ]
      refine wpLate_take (i := 8) (oi := _) (v := ?_) rfl (by kernel_rfl) (by kernel_rfl) (by kernel_rfl) (by kernel_rfl) (fun _ _ _ h => h) (Gives.load (by rfl) ?_) hHeld ?_
      rotate_left
      · intro w hSw
        (try dsimp only at hSw)
        go_simp
        try with_reducible rfl
      try simp only [Act.put, List.getElem_toArray, List.getElem_cons_succ, List.getElem_cons_zero, List.setIfInBounds_toArray, List.set_cons_zero, List.set_cons_succ]
      refine wpLate_take (i := 9) (oi := _) (v := ?_) rfl (by kernel_rfl) (by kernel_rfl) (by kernel_rfl) (by kernel_rfl) (fun _ _ _ h => h) (Gives.load (by rfl) ?_) hHeld ?_
      rotate_left
      · intro w hSw
        (try dsimp only at hSw)
        go_simp
        try with_reducible rfl
      try simp only [Act.put, List.getElem_toArray, List.getElem_cons_succ, List.getElem_cons_zero, List.setIfInBounds_toArray, List.set_cons_zero, List.set_cons_succ]
      refine wpLate_take (i := 10) (oi := _) (v := ?_) rfl (by kernel_rfl) (by kernel_rfl) (by kernel_rfl) (by kernel_rfl) (fun _ _ _ h => h) (Gives.load (by rfl) ?_) hHeld ?_
      rotate_left
      · intro w hSw
        (try dsimp only at hSw)
        go_simp
        try with_reducible rfl
      try simp only [Act.put, List.getElem_toArray, List.getElem_cons_succ, List.getElem_cons_zero, List.setIfInBounds_toArray, List.set_cons_zero, List.set_cons_succ]
      refine wpLate_take (i := 11) (oi := _) (v := ?_) rfl (by kernel_rfl) (by kernel_rfl) (by kernel_rfl) (by kernel_rfl) (fun _ _ _ h => h) (Gives.load (by rfl) ?_) hHeld ?_
      rotate_left
      · intro w hSw
        (try dsimp only at hSw)
        go_simp
        try with_reducible rfl
      try simp only [Act.put, List.getElem_toArray, List.getElem_cons_succ, List.getElem_cons_zero, List.setIfInBounds_toArray, List.set_cons_zero, List.set_cons_succ]
      refine wpLate_take (i := 12) (oi := _) (v := ?_) rfl (by kernel_rfl) (by kernel_rfl) (by kernel_rfl) (by kernel_rfl) (fun _ _ _ h => h) (Gives.load (by rfl) ?_) hHeld ?_
      rotate_left
      · intro w hSw
        (try dsimp only at hSw)
        go_simp
        try with_reducible rfl
      try simp only [Act.put, List.getElem_toArray, List.getElem_cons_succ, List.getElem_cons_zero, List.setIfInBounds_toArray, List.set_cons_zero, List.set_cons_succ]
      try rw [hQt]
      refine wpLate_take (i := 13) (oi := _) (v := ?_) rfl (by kernel_rfl) (by kernel_rfl) (by kernel_rfl) (by kernel_rfl) (fun _ _ _ h => h) (Gives.load (by rfl) ?_) hHeld ?_
      rotate_left
      · intro w hSw
        (try dsimp only at hSw)
        go_simp
        try with_reducible rfl
      try simp only [Act.put, List.getElem_toArray, List.getElem_cons_succ, List.getElem_cons_zero, List.setIfInBounds_toArray, List.set_cons_zero, List.set_cons_succ]
      refine wpLate_take (i := 14) (oi := _) (v := ?_) rfl (by kernel_rfl) (by kernel_rfl) (by kernel_rfl) (by kernel_rfl) (fun _ _ _ h => h) (Gives.load (by rfl) ?_) hHeld ?_
      rotate_left
      · intro w hSw
        (try dsimp only at hSw)
        go_simp
        try with_reducible rfl
      try simp only [Act.put, List.getElem_toArray, List.getElem_cons_succ, List.getElem_cons_zero, List.setIfInBounds_toArray, List.set_cons_zero, List.set_cons_succ]
      refine wpLate_take (i := 16) (oi := _) (v := ?_) rfl (by kernel_rfl) (by kernel_rfl) (by kernel_rfl) (by kernel_rfl) (fun _ _ _ h => h) (Gives.load (by rfl) ?_) hHeld ?_
      rotate_left
      · intro w hSw
        (try dsimp only at hSw)
        go_simp
        try with_reducible rfl
      try simp only [Act.put, List.getElem_toArray, List.getElem_cons_succ, List.getElem_cons_zero, List.setIfInBounds_toArray, List.set_cons_zero, List.set_cons_succ]
      refine wpLate_take (i := 17) (oi := _) (v := ?_) rfl (by kernel_rfl) (by kernel_rfl) (by kernel_rfl) (by kernel_rfl) (fun _ _ _ h => h) (Gives.load (by rfl) ?_) hHeld ?_
      rotate_left
      · intro w hSw
        (try dsimp only at hSw)
        go_simp
        try with_reducible rfl
      try simp only [Act.put, List.getElem_toArray, List.getElem_cons_succ, List.getElem_cons_zero, List.setIfInBounds_toArray, List.set_cons_zero, List.set_cons_succ]
      refine wpLate_take (i := 19) (oi := _) (v := ?_) rfl (by kernel_rfl) (by kernel_rfl) (by kernel_rfl) (by kernel_rfl) (fun _ _ _ h => h) (Gives.load (by rfl) ?_) hHeld ?_
      rotate_left
      · intro w hSw
        (try dsimp only at hSw)
        go_simp
        try with_reducible rfl
      try simp only [Act.put, List.getElem_toArray, List.getElem_cons_succ, List.getElem_cons_zero, List.setIfInBounds_toArray, List.set_cons_zero, List.set_cons_succ]
      refine wpLate_ready (rs := [15, 24]) (by kernel_rfl) (by simp) ?_
      refine AllLate.cons (o := _) rfl (fun K hK => ?_) ?_
      · go_simp
        refine (letters_law07 t ht _).mono ?_
        rintro _ x0 ⟨rfl, f⟩
        go_wp2_with fail
        have f0 := (Fr.refl [] wd).trans f (by simp)
        have zf0 := f.size
        clear f
        refine hK.out _ _ (fun _ => ⟨(f0).cell e0 (by simp), (f0).cell e1 (by simp), (f0).cell e2 (by simp), (f0).cell e5 (by simp), (f0).cell e6 (by simp)⟩) (fun hHeld => ?_)
        replace hHeld := hHeld (by kernel_rfl)
        clear hK K
        try simp only [Act.put, List.getElem_toArray, List.getElem_cons_succ, List.getElem_cons_zero, List.setIfInBounds_toArray, List.set_cons_zero, List.set_cons_succ]
        refine wpLate_pure (i := 18) (oi := _) (v := .string ⟨(y.take 50).toArray⟩) rfl (by kernel_rfl) (by kernel_rfl) (by kernel_rfl) (by kernel_rfl) (fun _ _ _ h => h) (Gives.quiet 36 #[.string ⟨y.toArray⟩, .int .i64 50] (by rfl) ?_ (fun w => cut_any y 50 w hy (by decide))) (fun _ => hHeld) ?_
        · intro w
          go_simp
        try simp only [Act.put, List.getElem_toArray, List.getElem_cons_succ, List.getElem_cons_zero, List.setIfInBounds_toArray, List.set_cons_zero, List.set_cons_succ]
        refine wpLate_ready (rs := [20, 24]) (by kernel_rfl) (by simp) ?_
        refine AllLate.cons (o := _) rfl (fun K hK => ?_) ?_
        · go_simp
          refine (letters_law07 s0 w4 _).mono ?_
          rintro _ x1 ⟨rfl, f⟩
          go_wp2_with fail
          have f1 := (f0).trans f (by simp)
          have zf1 := f.size
          clear f
          refine hK.out _ _ (fun _ => ⟨(f1).cell e0 (by simp), (f1).cell e1 (by simp), (f1).cell e2 (by simp), (f1).cell e5 (by simp), (f1).cell e6 (by simp)⟩) (fun hHeld => ?_)
          replace hHeld := hHeld (by kernel_rfl)
          clear hK K
          try simp only [Act.put, List.getElem_toArray, List.getElem_cons_succ, List.getElem_cons_zero, List.setIfInBounds_toArray, List.set_cons_zero, List.set_cons_succ]
          refine wpLate_pure (i := 21) (oi := _) (v := ?_) rfl (by kernel_rfl) (by kernel_rfl) (by kernel_rfl) (by kernel_rfl) (fun _ _ _ h => h) (Gives.load (by rfl) ?_) (fun _ => hHeld) ?_
          rotate_left
          · intro w hSw
            clear hSw
            go_simp
            try with_reducible rfl
          try simp only [Act.put, List.getElem_toArray, List.getElem_cons_succ, List.getElem_cons_zero, List.setIfInBounds_toArray, List.set_cons_zero, List.set_cons_succ]
          refine wpLate_ready (rs := [22, 24]) (by kernel_rfl) (by simp) ?_
          refine AllLate.cons (o := _) rfl (fun K hK => ?_) ?_
          · go_simp
            have f2 := (f1).alloc (.cells #[.int .i64 3, .int .u32 0, .string ⟨(lettersB (s0.take 20)).toArray⟩, .string ⟨#[]⟩] 97)
            have hs2 := blk_new x1 (.cells #[.int .i64 3, .int .u32 0, .string ⟨(lettersB (s0.take 20)).toArray⟩, .string ⟨#[]⟩] 97)
            refine hK.out _ _ (fun _ => ⟨(f2).cell e0 (by simp), (f2).cell e1 (by simp), (f2).cell e2 (by simp), (f2).cell e5 (by simp), (f2).cell e6 (by simp)⟩) (fun hHeld => ?_)
            replace hHeld := hHeld (by kernel_rfl)
            clear hK K
            try simp only [Act.put, List.getElem_toArray, List.getElem_cons_succ, List.getElem_cons_zero, List.setIfInBounds_toArray, List.set_cons_zero, List.set_cons_succ]
            refine wpLate_pure (i := 23) (oi := _) (v := ?_) rfl (by kernel_rfl) (by kernel_rfl) (by kernel_rfl) (by kernel_rfl) (fun _ _ _ h => h) (Gives.load (by rfl) ?_) (fun _ => hHeld) ?_
            rotate_left
            · intro w hSw
              clear hSw
              go_simp
              try with_reducible rfl
            try simp only [Act.put, List.getElem_toArray, List.getElem_cons_succ, List.getElem_cons_zero, List.setIfInBounds_toArray, List.set_cons_zero, List.set_cons_succ]
            obtain ⟨X, hX⟩ : ∃ X, x1.alloc (.cells #[.int .i64 3, .int .u32 0, .string ⟨(lettersB (s0.take 20)).toArray⟩, .string ⟨#[]⟩] 97) = X := ⟨_, rfl⟩
            rw [hX] at hHeld f2 hs2 ⊢
            clear hX
            refine wpLate_ready (rs := [24]) (by kernel_rfl) (by simp) ?_
            refine AllLate.cons (o := _) rfl (fun K hK => ?_) ?_
            · go_simp
              have f3 := (f2).alloc (.cells #[.bool false, .bool false, .int .u8 0, .int .u32 0, .slice none 0 0, .string ⟨#[]⟩, .string ⟨#[]⟩] 26)
              have nb3 := blk_new X (.cells #[.bool false, .bool false, .int .u8 0, .int .u32 0, .slice none 0 0, .string ⟨#[]⟩, .string ⟨#[]⟩] 26)
              have zs3 := (f2).size
              have hs3 := blk_old hs2 (.cells #[.bool false, .bool false, .int .u8 0, .int .u32 0, .slice none 0 0, .string ⟨#[]⟩, .string ⟨#[]⟩] 26)
              refine hK.out _ _ (fun _ => ⟨(f3).cell e0 (by simp), (f3).cell e1 (by simp), (f3).cell e2 (by simp), (f3).cell e5 (by simp), (f3).cell e6 (by simp)⟩) (fun hHeld => ?_)
              replace hHeld := hHeld (by kernel_rfl)
              clear hK K
              try simp only [Act.put, List.getElem_toArray, List.getElem_cons_succ, List.getElem_cons_zero, List.setIfInBounds_toArray, List.set_cons_zero, List.set_cons_succ]
              refine wpLate_ready (rs := [25]) (by kernel_rfl) (by simp) ?_
              refine AllLate.cons (o := _) rfl (fun K hK => ?_) ?_
              · go_simp
                try simp only [HE2.out]
                have fz := (f2).alloc (.cells #[.bool false, .bool ret, .int .u8 (Q : Int), .int .u32 0, .slice (some ⟨x1.heap.size, 0, none⟩) 1 1, .string ⟨(lettersB (t.take 20)).toArray⟩, .string ⟨(y.take 50).toArray⟩] 26)
                refine hK.out _ _ (fun _ => ⟨(fz).cell e0 (by simp), (fz).cell e1 (by simp), (fz).cell e2 (by simp), (fz).cell e5 (by simp), (fz).cell e6 (by simp)⟩) (fun hHeld => ?_)
                replace hHeld := hHeld (by kernel_rfl)
                clear hK K
                try simp only [Act.put, List.getElem_toArray, List.getElem_cons_succ, List.getElem_cons_zero, List.setIfInBounds_toArray, List.set_cons_zero, List.set_cons_succ]
                refine wpLate_done (by kernel_rfl) ?_ _
                go_wp2_with fail
                go_meet
                try simp only [Bool.false_and, Bool.true_and]
                exact ⟨X.heap.size, x1.heap.size, rfl, blk_new _ _, blk_old hs2 _, by have := blk_lt hs2; omega, by have h1 := F1.out.size; have h2 := fd.size; have h3 := (f2).size; omega, F1.out.trans (fd.trans fz (by simp)) (by simp)⟩
              exact AllLate.nil
            exact AllLate.nil
          refine AllLate.cons (o := _) rfl (fun K hK => ?_) ?_
          · go_simp
            have f2 := (f1).alloc (.cells #[.bool false, .bool false, .int .u8 0, .int .u32 0, .slice none 0 0, .string ⟨#[]⟩, .string ⟨#[]⟩] 26)
            have nb2 := blk_new x1 (.cells #[.bool false, .bool false, .int .u8 0, .int .u32 0, .slice none 0 0, .string ⟨#[]⟩, .string ⟨#[]⟩] 26)
            have zs2 := (f1).size
            refine hK.out _ _ (fun _ => ⟨(f2).cell e0 (by simp), (f2).cell e1 (by simp), (f2).cell e2 (by simp), (f2).cell e5 (by simp), (f2).cell e6 (by simp)⟩) (fun hHeld => ?_)
            replace hHeld := hHeld (by kernel_rfl)
            clear hK K
            try simp only [Act.put, List.getElem_toArray, List.getElem_cons_succ, List.getElem_cons_zero, List.setIfInBounds_toArray, List.set_cons_zero, List.set_cons_succ]
            obtain ⟨Z, hZ⟩ : ∃ Z, x1.alloc (.cells #[.bool false, .bool false, .int .u8 0, .int .u32 0, .slice none 0 0, .string ⟨#[]⟩, .string ⟨#[]⟩] 26) = Z := ⟨_, rfl⟩
            rw [hZ] at hHeld f2 nb2 ⊢
            clear hZ
            refine wpLate_ready (rs := [22]) (by kernel_rfl) (by simp) ?_
            refine AllLate.cons (o := _) rfl (fun K hK => ?_) ?_
            · go_simp
              have f3 := (f2).alloc (.cells #[.int .i64 3, .int .u32 0, .string ⟨(lettersB (s0.take 20)).toArray⟩, .string ⟨#[]⟩] 97)
              have hs3 := blk_new Z (.cells #[.int .i64 3, .int .u32 0, .string ⟨(lettersB (s0.take 20)).toArray⟩, .string ⟨#[]⟩] 97)
              have hgn : Z.heap.size ≠ x1.heap.size := Nat.ne_of_gt (blk_lt nb2)
              have nb3 := blk_old nb2 (.cells #[.int .i64 3, .int .u32 0, .string ⟨(lettersB (s0.take 20)).toArray⟩, .string ⟨#[]⟩] 97)
              refine hK.out _ _ (fun _ => ⟨(f3).cell e0 (by simp), (f3).cell e1 (by simp), (f3).cell e2 (by simp), (f3).cell e5 (by simp), (f3).cell e6 (by simp)⟩) (fun hHeld => ?_)
              replace hHeld := hHeld (by kernel_rfl)
              clear hK K
              try simp only [Act.put, List.getElem_toArray, List.getElem_cons_succ, List.getElem_cons_zero, List.setIfInBounds_toArray, List.set_cons_zero, List.set_cons_succ]
              refine wpLate_pure (i := 23) (oi := _) (v := ?_) rfl (by kernel_rfl) (by kernel_rfl) (by kernel_rfl) (by kernel_rfl) (fun _ _ _ h => h) (Gives.load (by rfl) ?_) (fun _ => hHeld) ?_
              rotate_left
              · intro w hSw
                clear hSw
                go_simp
                try with_reducible rfl
              try simp only [Act.put, List.getElem_toArray, List.getElem_cons_succ, List.getElem_cons_zero, List.setIfInBounds_toArray, List.set_cons_zero, List.set_cons_succ]
              obtain ⟨X, hX⟩ : ∃ X, Z.alloc (.cells #[.int .i64 3, .int .u32 0, .string ⟨(lettersB (s0.take 20)).toArray⟩, .string ⟨#[]⟩] 97) = X := ⟨_, rfl⟩
              rw [hX] at hHeld f3 hs3 nb3 ⊢
              clear hX
              refine wpLate_ready (rs := [25]) (by kernel_rfl) (by simp) ?_
              refine AllLate.cons (o := _) rfl (fun K hK => ?_) ?_
              · have hgl := blk_lt hs3
                have hbz := blk_lt HBd.out
                have fs := fr_row (Fr.refl [x1.heap.size] X) (g := x1.heap.size) (Or.inr (by simp)) #[.bool false, .bool ret, .int .u8 (Q : Int), .int .u32 0, .slice (some ⟨Z.heap.size, 0, none⟩) 1 1, .string ⟨(lettersB (t.take 20)).toArray⟩, .string ⟨(y.take 50).toArray⟩]
                try rw [HE2.out]
                refine step_store_row rfl 26 _ _ rfl (x1.heap.size) #[.bool false, .bool ret, .int .u8 (Q : Int), .int .u32 0, .slice (some ⟨Z.heap.size, 0, none⟩) 1 1, .string ⟨(lettersB (t.take 20)).toArray⟩, .string ⟨(y.take 50).toArray⟩] (by rfl) (by rfl) _ _ nb3 (by kernel_rfl) rfl (by kernel_rfl) ?_
                refine hK.out _ _ (fun _ => ⟨fs.cell ((f3).cell e0 (by simp)) (by simp; omega), fs.cell ((f3).cell e1 (by simp)) (by simp; omega), fs.cell ((f3).cell e2 (by simp)) (by simp; omega), fs.cell ((f3).cell e5 (by simp)) (by simp; omega), fs.cell ((f3).cell e6 (by simp)) (by simp; omega)⟩) (fun hHeld => ?_)
                replace hHeld := hHeld (by kernel_rfl)
                clear hK K
                try simp only [Act.put, List.getElem_toArray, List.getElem_cons_succ, List.getElem_cons_zero, List.setIfInBounds_toArray, List.set_cons_zero, List.set_cons_succ]
                refine wpLate_done (by kernel_rfl) ?_ _
                go_wp2_with fail
                go_meet
                exact ⟨x1.heap.size, Z.heap.size, rfl, setRow_heap _ _ _ _ _ _ nb3, fs.blk hs3 (by simp; omega), hgn, (by have h1 := F1.out.size; have h2 := fd.size; omega), fr_row (F1.out.trans (fd.trans (f3) (by simp)) (by simp)) (Or.inl (by have := F1.out.size; have := fd.size; omega)) _⟩
              exact AllLate.nil
            exact AllLate.nil
          exact AllLate.nil
        refine AllLate.cons (o := _) rfl (fun K hK => ?_) ?_
        · go_simp
          have f1 := (f0).alloc (.cells #[.bool false, .bool false, .int .u8 0, .int .u32 0, .slice none 0 0, .string ⟨#[]⟩, .string ⟨#[]⟩] 26)
          have nb1 := blk_new x0 (.cells #[.bool false, .bool false, .int .u8 0, .int .u32 0, .slice none 0 0, .string ⟨#[]⟩, .string ⟨#[]⟩] 26)
          have zs1 := (f0).size
          refine hK.out _ _ (fun _ => ⟨(f1).cell e0 (by simp), (f1).cell e1 (by simp), (f1).cell e2 (by simp), (f1).cell e5 (by simp), (f1).cell e6 (by simp)⟩) (fun hHeld => ?_)
          replace hHeld := hHeld (by kernel_rfl)
          clear hK K
          try simp only [Act.put, List.getElem_toArray, List.getElem_cons_succ, List.getElem_cons_zero, List.setIfInBounds_toArray, List.set_cons_zero, List.set_cons_succ]
          obtain ⟨Z, hZ⟩ : ∃ Z, x0.alloc (.cells #[.bool false, .bool false, .int .u8 0, .int .u32 0, .slice none 0 0, .string ⟨#[]⟩, .string ⟨#[]⟩] 26) = Z := ⟨_, rfl⟩
          rw [hZ] at hHeld f1 nb1 ⊢
          clear hZ
          refine wpLate_ready (rs := [20]) (by kernel_rfl) (by simp) ?_
          refine AllLate.cons (o := _) rfl (fun K hK => ?_) ?_
          · go_simp
            refine (letters_law07 s0 w4 _).mono ?_
            rintro _ x2 ⟨rfl, f⟩
            go_wp2_with fail
            have f2 := (f1).trans f (by simp)
            have nb2 := f.blk nb1 (by simp)
            have zf2 := f.size
            clear f
            refine hK.out _ _ (fun _ => ⟨(f2).cell e0 (by simp), (f2).cell e1 (by simp), (f2).cell e2 (by simp), (f2).cell e5 (by simp), (f2).cell e6 (by simp)⟩) (fun hHeld => ?_)
            replace hHeld := hHeld (by kernel_rfl)
            clear hK K
            try simp only [Act.put, List.getElem_toArray, List.getElem_cons_succ, List.getElem_cons_zero, List.setIfInBounds_toArray, List.set_cons_zero, List.set_cons_succ]
            refine wpLate_pure (i := 21) (oi := _) (v := ?_) rfl (by kernel_rfl) (by kernel_rfl) (by kernel_rfl) (by kernel_rfl) (fun _ _ _ h => h) (Gives.load (by rfl) ?_) (fun _ => hHeld) ?_
            rotate_left
            · intro w hSw
              clear hSw
              go_simp
              try with_reducible rfl
            try simp only [Act.put, List.getElem_toArray, List.getElem_cons_succ, List.getElem_cons_zero, List.setIfInBounds_toArray, List.set_cons_zero, List.set_cons_succ]
            refine wpLate_ready (rs := [22]) (by kernel_rfl) (by simp) ?_
            refine AllLate.cons (o := _) rfl (fun K hK => ?_) ?_
            · go_simp
              have f3 := (f2).alloc (.cells #[.int .i64 3, .int .u32 0, .string ⟨(lettersB (s0.take 20)).toArray⟩, .string ⟨#[]⟩] 97)
              have hs3 := blk_new x2 (.cells #[.int .i64 3, .int .u32 0, .string ⟨(lettersB (s0.take 20)).toArray⟩, .string ⟨#[]⟩] 97)
              have hgn : x2.heap.size ≠ x0.heap.size := Nat.ne_of_gt (blk_lt nb2)
              have nb3 := blk_old nb2 (.cells #[.int .i64 3, .int .u32 0, .string ⟨(lettersB (s0.take 20)).toArray⟩, .string ⟨#[]⟩] 97)
              refine hK.out _ _ (fun _ => ⟨(f3).cell e0 (by simp), (f3).cell e1 (by simp), (f3).cell e2 (by simp), (f3).cell e5 (by simp), (f3).cell e6 (by simp)⟩) (fun hHeld => ?_)
              replace hHeld := hHeld (by kernel_rfl)
              clear hK K
              try simp only [Act.put, List.getElem_toArray, List.getElem_cons_succ, List.getElem_cons_zero, List.setIfInBounds_toArray, List.set_cons_zero, List.set_cons_succ]
              refine wpLate_pure (i := 23) (oi := _) (v := ?_) rfl (by kernel_rfl) (by kernel_rfl) (by kernel_rfl) (by kernel_rfl) (fun _ _ _ h => h) (Gives.load (by rfl) ?_) (fun _ => hHeld) ?_
              rotate_left
              · intro w hSw
                clear hSw
                go_simp
                try with_reducible rfl
              try simp only [Act.put, List.getElem_toArray, List.getElem_cons_succ, List.getElem_cons_zero, List.setIfInBounds_toArray, List.set_cons_zero, List.set_cons_succ]
              obtain ⟨X, hX⟩ : ∃ X, x2.alloc (.cells #[.int .i64 3, .int .u32 0, .string ⟨(lettersB (s0.take 20)).toArray⟩, .string ⟨#[]⟩] 97) = X := ⟨_, rfl⟩
              rw [hX] at hHeld f3 hs3 nb3 ⊢
              clear hX
              refine wpLate_ready (rs := [25]) (by kernel_rfl) (by simp) ?_
              refine AllLate.cons (o := _) rfl (fun K hK => ?_) ?_
              · have hgl := blk_lt hs3
                have hbz := blk_lt HBd.out
                have fs := fr_row (Fr.refl [x0.heap.size] X) (g := x0.heap.size) (Or.inr (by simp)) #[.bool false, .bool ret, .int .u8 (Q : Int), .int .u32 0, .slice (some ⟨x2.heap.size, 0, none⟩) 1 1, .string ⟨(lettersB (t.take 20)).toArray⟩, .string ⟨(y.take 50).toArray⟩]
                try rw [HE2.out]
                refine step_store_row rfl 26 _ _ rfl (x0.heap.size) #[.bool false, .bool ret, .int .u8 (Q : Int), .int .u32 0, .slice (some ⟨x2.heap.size, 0, none⟩) 1 1, .string ⟨(lettersB (t.take 20)).toArray⟩, .string ⟨(y.take 50).toArray⟩] (by rfl) (by rfl) _ _ nb3 (by kernel_rfl) rfl (by kernel_rfl) ?_
                refine hK.out _ _ (fun _ => ⟨fs.cell ((f3).cell e0 (by simp)) (by simp; omega), fs.cell ((f3).cell e1 (by simp)) (by simp; omega), fs.cell ((f3).cell e2 (by simp)) (by simp; omega), fs.cell ((f3).cell e5 (by simp)) (by simp; omega), fs.cell ((f3).cell e6 (by simp)) (by simp; omega)⟩) (fun hHeld => ?_)
                replace hHeld := hHeld (by kernel_rfl)
                clear hK K
                try simp only [Act.put, List.getElem_toArray, List.getElem_cons_succ, List.getElem_cons_zero, List.setIfInBounds_toArray, List.set_cons_zero, List.set_cons_succ]
                refine wpLate_done (by kernel_rfl) ?_ _
                go_wp2_with fail
                go_meet
                exact ⟨x0.heap.size, x2.heap.size, rfl, setRow_heap _ _ _ _ _ _ nb3, fs.blk hs3 (by simp; omega), hgn, (by have h1 := F1.out.size; have h2 := fd.size; omega), fr_row (F1.out.trans (fd.trans (f3) (by simp)) (by simp)) (Or.inl (by have := F1.out.size; have := fd.size; omega)) _⟩
              exact AllLate.nil
            exact AllLate.nil
          exact AllLate.nil
        exact AllLate.nil
      refine AllLate.cons (o := _) rfl (fun K hK => ?_) ?_
      · go_simp
        have f0 := (Fr.refl [] wd).alloc (.cells #[.bool false, .bool false, .int .u8 0, .int .u32 0, .slice none 0 0, .string ⟨#[]⟩, .string ⟨#[]⟩] 26)
        have nb0 := blk_new wd (.cells #[.bool false, .bool false, .int .u8 0, .int .u32 0, .slice none 0 0, .string ⟨#[]⟩, .string ⟨#[]⟩] 26)
        have zs0 := (Fr.refl [] wd).size
        refine hK.out _ _ (fun _ => ⟨(f0).cell e0 (by simp), (f0).cell e1 (by simp), (f0).cell e2 (by simp), (f0).cell e5 (by simp), (f0).cell e6 (by simp)⟩) (fun hHeld => ?_)
        replace hHeld := hHeld (by kernel_rfl)
        clear hK K
        try simp only [Act.put, List.getElem_toArray, List.getElem_cons_succ, List.getElem_cons_zero, List.setIfInBounds_toArray, List.set_cons_zero, List.set_cons_succ]
        obtain ⟨Z, hZ⟩ : ∃ Z, wd.alloc (.cells #[.bool false, .bool false, .int .u8 0, .int .u32 0, .slice none 0 0, .string ⟨#[]⟩, .string ⟨#[]⟩] 26) = Z := ⟨_, rfl⟩
        rw [hZ] at hHeld f0 nb0 ⊢
        clear hZ
        refine wpLate_ready (rs := [15]) (by kernel_rfl) (by simp) ?_
        refine AllLate.cons (o := _) rfl (fun K hK => ?_) ?_
        · go_simp
          refine (letters_law07 t ht _).mono ?_
          rintro _ x1 ⟨rfl, f⟩
          go_wp2_with fail
          have f1 := (f0).trans f (by simp)
          have nb1 := f.blk nb0 (by simp)
          have zf1 := f.size
          clear f
          refine hK.out _ _ (fun _ => ⟨(f1).cell e0 (by simp), (f1).cell e1 (by simp), (f1).cell e2 (by simp), (f1).cell e5 (by simp), (f1).cell e6 (by simp)⟩) (fun hHeld => ?_)
          replace hHeld := hHeld (by kernel_rfl)
          clear hK K
          try simp only [Act.put, List.getElem_toArray, List.getElem_cons_succ, List.getElem_cons_zero, List.setIfInBounds_toArray, List.set_cons_zero, List.set_cons_succ]
          refine wpLate_pure (i := 18) (oi := _) (v := .string ⟨(y.take 50).toArray⟩) rfl (by kernel_rfl) (by kernel_rfl) (by kernel_rfl) (by kernel_rfl) (fun _ _ _ h => h) (Gives.quiet 36 #[.string ⟨y.toArray⟩, .int .i64 50] (by rfl) ?_ (fun w => cut_any y 50 w hy (by decide))) (fun _ => hHeld) ?_
          · intro w
            go_simp
          try simp only [Act.put, List.getElem_toArray, List.getElem_cons_succ, List.getElem_cons_zero, List.setIfInBounds_toArray, List.set_cons_zero, List.set_cons_succ]
          refine wpLate_ready (rs := [20]) (by kernel_rfl) (by simp) ?_
          refine AllLate.cons (o := _) rfl (fun K hK => ?_) ?_
          · go_simp
            refine (letters_law07 s0 w4 _).mono ?_
            rintro _ x2 ⟨rfl, f⟩
            go_wp2_with fail
            have f2 := (f1).trans f (by simp)
            have nb2 := f.blk nb1 (by simp)
            have zf2 := f.size
            clear f
            refine hK.out _ _ (fun _ => ⟨(f2).cell e0 (by simp), (f2).cell e1 (by simp), (f2).cell e2 (by simp), (f2).cell e5 (by simp), (f2).cell e6 (by simp)⟩) (fun hHeld => ?_)
            replace hHeld := hHeld (by kernel_rfl)
            clear hK K
            try simp only [Act.put, List.getElem_toArray, List.getElem_cons_succ, List.getElem_cons_zero, List.setIfInBounds_toArray, List.set_cons_zero, List.set_cons_succ]
            refine wpLate_pure (i := 21) (oi := _) (v := ?_) rfl (by kernel_rfl) (by kernel_rfl) (by kernel_rfl) (by kernel_rfl) (fun _ _ _ h => h) (Gives.load (by rfl) ?_) (fun _ => hHeld) ?_
            rotate_left
            · intro w hSw
              clear hSw
              go_simp
              try with_reducible rfl
            try simp only [Act.put, List.getElem_toArray, List.getElem_cons_succ, List.getElem_cons_zero, List.setIfInBounds_toArray, List.set_cons_zero, List.set_cons_succ]
            refine wpLate_ready (rs := [22]) (by kernel_rfl) (by simp) ?_
            refine AllLate.cons (o := _) rfl (fun K hK => ?_) ?_
            · go_simp
              have f3 := (f2).alloc (.cells #[.int .i64 3, .int .u32 0, .string ⟨(lettersB (s0.take 20)).toArray⟩, .string ⟨#[]⟩] 97)
              have hs3 := blk_new x2 (.cells #[.int .i64 3, .int .u32 0, .string ⟨(lettersB (s0.take 20)).toArray⟩, .string ⟨#[]⟩] 97)
              have hgn : x2.heap.size ≠ wd.heap.size := Nat.ne_of_gt (blk_lt nb2)
              have nb3 := blk_old nb2 (.cells #[.int .i64 3, .int .u32 0, .string ⟨(lettersB (s0.take 20)).toArray⟩, .string ⟨#[]⟩] 97)
              refine hK.out _ _ (fun _ => ⟨(f3).cell e0 (by simp), (f3).cell e1 (by simp), (f3).cell e2 (by simp), (f3).cell e5 (by simp), (f3).cell e6 (by simp)⟩) (fun hHeld => ?_)
              replace hHeld := hHeld (by kernel_rfl)
              clear hK K
              try simp only [Act.put, List.getElem_toArray, List.getElem_cons_succ, List.getElem_cons_zero, List.setIfInBounds_toArray, List.set_cons_zero, List.set_cons_succ]
              refine wpLate_pure (i := 23) (oi := _) (v := ?_) rfl (by kernel_rfl) (by kernel_rfl) (by kernel_rfl) (by kernel_rfl) (fun _ _ _ h => h) (Gives.load (by rfl) ?_) (fun _ => hHeld) ?_
              rotate_left
              · intro w hSw
                clear hSw
                go_simp
                try with_reducible rfl
              try simp only [Act.put, List.getElem_toArray, List.getElem_cons_succ, List.getElem_cons_zero, List.setIfInBounds_toArray, List.set_cons_zero, List.set_cons_succ]
              obtain ⟨X, hX⟩ : ∃ X, x2.alloc (.cells #[.int .i64 3, .int .u32 0, .string ⟨(lettersB (s0.take 20)).toArray⟩, .string ⟨#[]⟩] 97) = X := ⟨_, rfl⟩
              rw [hX] at hHeld f3 hs3 nb3 ⊢
              clear hX
              refine wpLate_ready (rs := [25]) (by kernel_rfl) (by simp) ?_
              refine AllLate.cons (o := _) rfl (fun K hK => ?_) ?_
              · have hgl := blk_lt hs3
                have hbz := blk_lt HBd.out
                have fs := fr_row (Fr.refl [wd.heap.size] X) (g := wd.heap.size) (Or.inr (by simp)) #[.bool false, .bool ret, .int .u8 (Q : Int), .int .u32 0, .slice (some ⟨x2.heap.size, 0, none⟩) 1 1, .string ⟨(lettersB (t.take 20)).toArray⟩, .string ⟨(y.take 50).toArray⟩]
                try rw [HE2.out]
                refine step_store_row rfl 26 _ _ rfl (wd.heap.size) #[.bool false, .bool ret, .int .u8 (Q : Int), .int .u32 0, .slice (some ⟨x2.heap.size, 0, none⟩) 1 1, .string ⟨(lettersB (t.take 20)).toArray⟩, .string ⟨(y.take 50).toArray⟩] (by rfl) (by rfl) _ _ nb3 (by kernel_rfl) rfl (by kernel_rfl) ?_
                refine hK.out _ _ (fun _ => ⟨fs.cell ((f3).cell e0 (by simp)) (by simp; omega), fs.cell ((f3).cell e1 (by simp)) (by simp; omega), fs.cell ((f3).cell e2 (by simp)) (by simp; omega), fs.cell ((f3).cell e5 (by simp)) (by simp; omega), fs.cell ((f3).cell e6 (by simp)) (by simp; omega)⟩) (fun hHeld => ?_)
                replace hHeld := hHeld (by kernel_rfl)
                clear hK K
                try simp only [Act.put, List.getElem_toArray, List.getElem_cons_succ, List.getElem_cons_zero, List.setIfInBounds_toArray, List.set_cons_zero, List.set_cons_succ]
                refine wpLate_done (by kernel_rfl) ?_ _
                go_wp2_with fail
                go_meet
                exact ⟨wd.heap.size, x2.heap.size, rfl, setRow_heap _ _ _ _ _ _ nb3, fs.blk hs3 (by simp; omega), hgn, (by have h1 := F1.out.size; have h2 := fd.size; omega), fr_row (F1.out.trans (fd.trans (f3) (by simp)) (by simp)) (Or.inl (by have := F1.out.size; have := fd.size; omega)) _⟩
              exact AllLate.nil
            exact AllLate.nil
          exact AllLate.nil
        exact AllLate.nil
      exact AllLate.nil
    · obtain ⟨⟨e0, e1, e2, e3, e4, e5, e6⟩, _, _⟩ := blk7_facts hb1
      refine wp_region_late [] (S := fun w' => w'.cell? ⟨w.heap.size, 0, none⟩ = some (.bool true) ∧ w'.cell? ⟨w.heap.size, 1, none⟩ = some (.bool ret) ∧ w'.cell? ⟨w.heap.size, 2, none⟩ = some (.int .u8 (q : Int)) ∧ w'.cell? ⟨w.heap.size, 5, none⟩ = some (.string ⟨t.toArray⟩) ∧ w'.cell? ⟨w.heap.size, 6, none⟩ = some (.string ⟨y.toArray⟩)) (by kernel_rfl) ⟨e0, e1, e2, e5, e6⟩ (fun hHeld => ?_)
      have fd := (Fr.refl [] w1).drew
      have hbd := fd.blk hb1 (by simp)
      obtain ⟨wd, hwd⟩ : ∃ wd, w1.drew = wd := ⟨_, rfl⟩
      rw [hwd] at hHeld fd hbd ⊢
      clear hwd e0 e1 e2 e3 e4 e5 e6 hb1
      obtain ⟨⟨e0, e1, e2, e3, e4, e5, e6⟩, _, _⟩ := blk7_facts hbd
      clear e3 e4
      have HBd := Lib.hid hbd
      clear hbd
      refine wpLate_take (i := 0) (oi := _) (v := ?_) rfl (by kernel_rfl) (by kernel_rfl) (by kernel_rfl) (by kernel_rfl) (fun _ _ _ h => h) (Gives.load (by rfl) ?_) hHeld ?_
      rotate_left
      · intro w hSw
        (try dsimp only at hSw)
        go_simp
        try with_reducible rfl
      try simp only [Act.put, List.getElem_toArray, List.getElem_cons_succ, List.getElem_cons_zero, List.setIfInBounds_toArray, List.set_cons_zero, List.set_cons_succ]
      refine wpLate_take (i := 1) (oi := _) (v := ?_) rfl (by kernel_rfl) (by kernel_rfl) (by kernel_rfl) (by kernel_rfl) (fun _ _ _ h => h) (Gives.load (by rfl) ?_) hHeld ?_
      rotate_left
      · intro w hSw
        (try dsimp only at hSw)
        go_simp
        try with_reducible rfl
      try simp only [Act.put, List.getElem_toArray, List.getElem_cons_succ, List.getElem_cons_zero, List.setIfInBounds_toArray, List.set_cons_zero, List.set_cons_succ]
      refine wpLate_take (i := 2) (oi := _) (v := ?_) rfl (by kernel_rfl) (by kernel_rfl) (by kernel_rfl) (by kernel_rfl) (fun _ _ _ h => h) (Gives.load (by rfl) ?_) hHeld ?_
      rotate_left
      · intro w hSw
        (try dsimp only at hSw)
        go_simp
        try with_reducible rfl
      try simp only [Act.put, List.getElem_toArray, List.getElem_cons_succ, List.getElem_cons_zero, List.setIfInBounds_toArray, List.set_cons_zero, List.set_cons_succ]
      refine wpLate_take (i := 3) (oi := _) (v := ?_) rfl (by kernel_rfl) (by kernel_rfl) (by kernel_rfl) (by kernel_rfl) (fun _ _ _ h => h) (Gives.load (by rfl) ?_) hHeld ?_
      rotate_left
      · intro w hSw
        (try dsimp only at hSw)
        go_simp
        try with_reducible rfl
      try simp only [Act.put, List.getElem_toArray, List.getElem_cons_succ, List.getElem_cons_zero, List.setIfInBounds_toArray, List.set_cons_zero, List.set_cons_succ]
      refine wpLate_take (i := 4) (oi := _) (v := ?_) rfl (by kernel_rfl) (by kernel_rfl) (by kernel_rfl) (by kernel_rfl) (fun _ _ _ h => h) (Gives.load (by rfl) ?_) hHeld ?_
      rotate_left
      · intro w hSw
        (try dsimp only at hSw)
        go_simp
        try with_reducible rfl
      try simp only [Act.put, List.getElem_toArray, List.getElem_cons_succ, List.getElem_cons_zero, List.setIfInBounds_toArray, List.set_cons_zero, List.set_cons_succ]
      refine wpLate_take (i := 5) (oi := _) (v := ?_) rfl (by kernel_rfl) (by kernel_rfl) (by kernel_rfl) (by kernel_rfl) (fun _ _ _ h => h) (Gives.load (by rfl) ?_) hHeld ?_
      rotate_left
      · intro w hSw
        (try dsimp only at hSw)
        go_simp
        try with_reducible rfl
      try simp only [Act.put, List.getElem_toArray, List.getElem_cons_succ, List.getElem_cons_zero, List.setIfInBounds_toArray, List.set_cons_zero, List.set_cons_succ]
      try rw [hQt]
      refine wpLate_take (i := 6) (oi := _) (v := ?_) rfl (by kernel_rfl) (by kernel_rfl) (by kernel_rfl) (by kernel_rfl) (fun _ _ _ h => h) (Gives.load (by rfl) ?_) hHeld ?_
      rotate_left
      · intro w hSw
        (try dsimp only at hSw)
        go_simp
        try with_reducible rfl
      try simp only [Act.put, List.getElem_toArray, List.getElem_cons_succ, List.getElem_cons_zero, List.setIfInBounds_toArray, List.set_cons_zero, List.set_cons_succ]
      try rw [hE]
      refine wpLate_take (i := 7) (oi := _) (v := ?_) rfl (by kernel_rfl) (by kernel_rfl) (by kernel_rfl) (by kernel_rfl) (fun _ _ _ h => h) (Gives.load (by rfl) ?_) hHeld ?_
      rotate_left
      · intro w hSw
        (try dsimp only at hSw)
        go_simp
        try with_reducible rfl
      try simp only [Act.put, List.getElem_toArray, List.getElem_cons_succ, List.getElem_cons_zero, List.setIfInBounds_toArray, List.set_cons_zero, List.set_cons_succ]
      refine wpLate_take (i := 8) (oi := _) (v := ?_) rfl (by kernel_rfl) (by kernel_rfl) (by kernel_rfl) (by kernel_rfl) (fun _ _ _ h => h) (Gives.load (by rfl) ?_) hHeld ?_
      rotate_left
      · intro w hSw
        (try dsimp only at hSw)
        go_simp
        try with_reducible rfl
      try simp only [Act.put, List.getElem_toArray, List.getElem_cons_succ, List.getElem_cons_zero, List.setIfInBounds_toArray, List.set_cons_zero, List.set_cons_succ]
      refine wpLate_take (i := 9) (oi := _) (v := ?_) rfl (by kernel_rfl) (by kernel_rfl) (by kernel_rfl) (by kernel_rfl) (fun _ _ _ h => h) (Gives.load (by rfl) ?_) hHeld ?_
      rotate_left
      · intro w hSw
        (try dsimp only at hSw)
        go_simp
        try with_reducible rfl
      try simp only [Act.put, List.getElem_toArray, List.getElem_cons_succ, List.getElem_cons_zero, List.setIfInBounds_toArray, List.set_cons_zero, List.set_cons_succ]
      refine wpLate_take (i := 10) (oi := _) (v := ?_) rfl (by kernel_rfl) (by kernel_rfl) (by kernel_rfl) (by kernel_rfl) (fun _ _ _ h => h) (Gives.load (by rfl) ?_) hHeld ?_
      rotate_left
      · intro w hSw
        (try dsimp only at hSw)
        go_simp
        try with_reducible rfl
      try simp only [Act.put, List.getElem_toArray, List.getElem_cons_succ, List.getElem_cons_zero, List.setIfInBounds_toArray, List.set_cons_zero, List.set_cons_succ]
      refine wpLate_take (i := 11) (oi := _) (v := ?_) rfl (by kernel_rfl) (by kernel_rfl) (by kernel_rfl) (by kernel_rfl) (fun _ _ _ h => h) (Gives.load (by rfl) ?_) hHeld ?_
      rotate_left
      · intro w hSw
        (try dsimp only at hSw)
        go_simp
        try with_reducible rfl
      try simp only [Act.put, List.getElem_toArray, List.getElem_cons_succ, List.getElem_cons_zero, List.setIfInBounds_toArray, List.set_cons_zero, List.set_cons_succ]
      refine wpLate_take (i := 12) (oi := _) (v := ?_) rfl (by kernel_rfl) (by kernel_rfl) (by kernel_rfl) (by kernel_rfl) (fun _ _ _ h => h) (Gives.load (by rfl) ?_) hHeld ?_
      rotate_left
      · intro w hSw
        (try dsimp only at hSw)
        go_simp
        try with_reducible rfl
      try simp only [Act.put, List.getElem_toArray, List.getElem_cons_succ, List.getElem_cons_zero, List.setIfInBounds_toArray, List.set_cons_zero, List.set_cons_succ]
      try rw [hQt]
      refine wpLate_take (i := 13) (oi := _) (v := ?_) rfl (by kernel_rfl) (by kernel_rfl) (by kernel_rfl) (by kernel_rfl) (fun _ _ _ h => h) (Gives.load (by rfl) ?_) hHeld ?_
      rotate_left
      · intro w hSw
        (try dsimp only at hSw)
        go_simp
        try with_reducible rfl
      try simp only [Act.put, List.getElem_toArray, List.getElem_cons_succ, List.getElem_cons_zero, List.setIfInBounds_toArray, List.set_cons_zero, List.set_cons_succ]
      refine wpLate_take (i := 14) (oi := _) (v := ?_) rfl (by kernel_rfl) (by kernel_rfl) (by kernel_rfl) (by kernel_rfl) (fun _ _ _ h => h) (Gives.load (by rfl) ?_) hHeld ?_
      rotate_left
      · intro w hSw
        (try dsimp only at hSw)
        go_simp
        try with_reducible rfl
      try simp only [Act.put, List.getElem_toArray, List.getElem_cons_succ, List.getElem_cons_zero, List.setIfInBounds_toArray, List.set_cons_zero, List.set_cons_succ]
      refine wpLate_take (i := 16) (oi := _) (v := ?_) rfl (by kernel_rfl) (by kernel_rfl) (by kernel_rfl) (by kernel_rfl) (fun _ _ _ h => h) (Gives.load (by rfl) ?_) hHeld ?_
      rotate_left
      · intro w hSw
        (try dsimp only at hSw)
        go_simp
        try with_reducible rfl
      try simp only [Act.put, List.getElem_toArray, List.getElem_cons_succ, List.getElem_cons_zero, List.setIfInBounds_toArray, List.set_cons_zero, List.set_cons_succ]
      refine wpLate_take (i := 17) (oi := _) (v := ?_) rfl (by kernel_rfl) (by kernel_rfl) (by kernel_rfl) (by kernel_rfl) (fun _ _ _ h => h) (Gives.load (by rfl) ?_) hHeld ?_
      rotate_left
      · intro w hSw
        (try dsimp only at hSw)
        go_simp
        try with_reducible rfl
      try simp only [Act.put, List.getElem_toArray, List.getElem_cons_succ, List.getElem_cons_zero, List.setIfInBounds_toArray, List.set_cons_zero, List.set_cons_succ]
      refine wpLate_take (i := 19) (oi := _) (v := ?_) rfl (by kernel_rfl) (by kernel_rfl) (by kernel_rfl) (by kernel_rfl) (fun _ _ _ h => h) (Gives.load (by rfl) ?_) hHeld ?_
      rotate_left
      · intro w hSw
        (try dsimp only at hSw)
        go_simp
        try with_reducible rfl
      try simp only [Act.put, List.getElem_toArray, List.getElem_cons_succ, List.getElem_cons_zero, List.setIfInBounds_toArray, List.set_cons_zero, List.set_cons_succ]
      refine wpLate_ready (rs := [15, 24]) (by kernel_rfl) (by simp) ?_
      refine AllLate.cons (o := _) rfl (fun K hK => ?_) ?_
      · go_simp
        refine (letters_law07 t ht _).mono ?_
        rintro _ x0 ⟨rfl, f⟩
        go_wp2_with fail
        have f0 := (Fr.refl [] wd).trans f (by simp)
        have zf0 := f.size
        clear f
        refine hK.out _ _ (fun _ => ⟨(f0).cell e0 (by simp), (f0).cell e1 (by simp), (f0).cell e2 (by simp), (f0).cell e5 (by simp), (f0).cell e6 (by simp)⟩) (fun hHeld => ?_)
        replace hHeld := hHeld (by kernel_rfl)
        clear hK K
        try simp only [Act.put, List.getElem_toArray, List.getElem_cons_succ, List.getElem_cons_zero, List.setIfInBounds_toArray, List.set_cons_zero, List.set_cons_succ]
        refine wpLate_pure (i := 18) (oi := _) (v := .string ⟨(y.take 50).toArray⟩) rfl (by kernel_rfl) (by kernel_rfl) (by kernel_rfl) (by kernel_rfl) (fun _ _ _ h => h) (Gives.quiet 36 #[.string ⟨y.toArray⟩, .int .i64 50] (by rfl) ?_ (fun w => cut_any y 50 w hy (by decide))) (fun _ => hHeld) ?_
        · intro w
          go_simp
        try simp only [Act.put, List.getElem_toArray, List.getElem_cons_succ, List.getElem_cons_zero, List.setIfInBounds_toArray, List.set_cons_zero, List.set_cons_succ]
        refine wpLate_ready (rs := [20, 24]) (by kernel_rfl) (by simp) ?_
        refine AllLate.cons (o := _) rfl (fun K hK => ?_) ?_
        · go_simp
          refine (letters_law07 s0 w4 _).mono ?_
          rintro _ x1 ⟨rfl, f⟩
          go_wp2_with fail
          have f1 := (f0).trans f (by simp)
          have zf1 := f.size
          clear f
          refine hK.out _ _ (fun _ => ⟨(f1).cell e0 (by simp), (f1).cell e1 (by simp), (f1).cell e2 (by simp), (f1).cell e5 (by simp), (f1).cell e6 (by simp)⟩) (fun hHeld => ?_)
          replace hHeld := hHeld (by kernel_rfl)
          clear hK K
          try simp only [Act.put, List.getElem_toArray, List.getElem_cons_succ, List.getElem_cons_zero, List.setIfInBounds_toArray, List.set_cons_zero, List.set_cons_succ]
          refine wpLate_pure (i := 21) (oi := _) (v := ?_) rfl (by kernel_rfl) (by kernel_rfl) (by kernel_rfl) (by kernel_rfl) (fun _ _ _ h => h) (Gives.load (by rfl) ?_) (fun _ => hHeld) ?_
          rotate_left
          · intro w hSw
            clear hSw
            go_simp
            try with_reducible rfl
          try simp only [Act.put, List.getElem_toArray, List.getElem_cons_succ, List.getElem_cons_zero, List.setIfInBounds_toArray, List.set_cons_zero, List.set_cons_succ]
          refine wpLate_ready (rs := [22, 24]) (by kernel_rfl) (by simp) ?_
          refine AllLate.cons (o := _) rfl (fun K hK => ?_) ?_
          · go_simp
            have f2 := (f1).alloc (.cells #[.int .i64 3, .int .u32 0, .string ⟨(lettersB (s0.take 20)).toArray⟩, .string ⟨#[]⟩] 97)
            have hs2 := blk_new x1 (.cells #[.int .i64 3, .int .u32 0, .string ⟨(lettersB (s0.take 20)).toArray⟩, .string ⟨#[]⟩] 97)
            refine hK.out _ _ (fun _ => ⟨(f2).cell e0 (by simp), (f2).cell e1 (by simp), (f2).cell e2 (by simp), (f2).cell e5 (by simp), (f2).cell e6 (by simp)⟩) (fun hHeld => ?_)
            replace hHeld := hHeld (by kernel_rfl)
            clear hK K
            try simp only [Act.put, List.getElem_toArray, List.getElem_cons_succ, List.getElem_cons_zero, List.setIfInBounds_toArray, List.set_cons_zero, List.set_cons_succ]
            refine wpLate_pure (i := 23) (oi := _) (v := ?_) rfl (by kernel_rfl) (by kernel_rfl) (by kernel_rfl) (by kernel_rfl) (fun _ _ _ h => h) (Gives.load (by rfl) ?_) (fun _ => hHeld) ?_
            rotate_left
            · intro w hSw
              clear hSw
              go_simp
              try with_reducible rfl
            try simp only [Act.put, List.getElem_toArray, List.getElem_cons_succ, List.getElem_cons_zero, List.setIfInBounds_toArray, List.set_cons_zero, List.set_cons_succ]
            obtain ⟨X, hX⟩ : ∃ X, x1.alloc (.cells #[.int .i64 3, .int .u32 0, .string ⟨(lettersB (s0.take 20)).toArray⟩, .string ⟨#[]⟩] 97) = X := ⟨_, rfl⟩
            rw [hX] at hHeld f2 hs2 ⊢
            clear hX
            refine wpLate_ready (rs := [24]) (by kernel_rfl) (by simp) ?_
            refine AllLate.cons (o := _) rfl (fun K hK => ?_) ?_
            · go_simp
              have f3 := (f2).alloc (.cells #[.bool false, .bool false, .int .u8 0, .int .u32 0, .slice none 0 0, .string ⟨#[]⟩, .string ⟨#[]⟩] 26)
              have nb3 := blk_new X (.cells #[.bool false, .bool false, .int .u8 0, .int .u32 0, .slice none 0 0, .string ⟨#[]⟩, .string ⟨#[]⟩] 26)
              have zs3 := (f2).size
              have hs3 := blk_old hs2 (.cells #[.bool false, .bool false, .int .u8 0, .int .u32 0, .slice none 0 0, .string ⟨#[]⟩, .string ⟨#[]⟩] 26)
              refine hK.out _ _ (fun _ => ⟨(f3).cell e0 (by simp), (f3).cell e1 (by simp), (f3).cell e2 (by simp), (f3).cell e5 (by simp), (f3).cell e6 (by simp)⟩) (fun hHeld => ?_)
              replace hHeld := hHeld (by kernel_rfl)
              clear hK K
              try simp only [Act.put, List.getElem_toArray, List.getElem_cons_succ, List.getElem_cons_zero, List.setIfInBounds_toArray, List.set_cons_zero, List.set_cons_succ]
              refine wpLate_ready (rs := [25]) (by kernel_rfl) (by simp) ?_
              refine AllLate.cons (o := _) rfl (fun K hK => ?_) ?_
              · go_simp
                try simp only [HE2.out]
                have fz := (f2).alloc (.cells #[.bool E, .bool ret, .int .u8 (Q : Int), .int .u32 0, .slice (some ⟨x1.heap.size, 0, none⟩) 1 1, .string ⟨(lettersB (t.take 20)).toArray⟩, .string ⟨(y.take 50).toArray⟩] 26)
                refine hK.out _ _ (fun _ => ⟨(fz).cell e0 (by simp), (fz).cell e1 (by simp), (fz).cell e2 (by simp), (fz).cell e5 (by simp), (fz).cell e6 (by simp)⟩) (fun hHeld => ?_)
                replace hHeld := hHeld (by kernel_rfl)
                clear hK K
                try simp only [Act.put, List.getElem_toArray, List.getElem_cons_succ, List.getElem_cons_zero, List.setIfInBounds_toArray, List.set_cons_zero, List.set_cons_succ]
                refine wpLate_done (by kernel_rfl) ?_ _
                go_wp2_with fail
                go_meet
                try simp only [Bool.false_and, Bool.true_and]
                exact ⟨X.heap.size, x1.heap.size, rfl, blk_new _ _, blk_old hs2 _, by have := blk_lt hs2; omega, by have h1 := F1.out.size; have h2 := fd.size; have h3 := (f2).size; omega, F1.out.trans (fd.trans fz (by simp)) (by simp)⟩
              exact AllLate.nil
            exact AllLate.nil
          refine AllLate.cons (o := _) rfl (fun K hK => ?_) ?_
          · go_simp
            have f2 := (f1).alloc (.cells #[.bool false, .bool false, .int .u8 0, .int .u32 0, .slice none 0 0, .string ⟨#[]⟩, .string ⟨#[]⟩] 26)
            have nb2 := blk_new x1 (.cells #[.bool false, .bool false, .int .u8 0, .int .u32 0, .slice none 0 0, .string ⟨#[]⟩, .string ⟨#[]⟩] 26)
            have zs2 := (f1).size
            refine hK.out _ _ (fun _ => ⟨(f2).cell e0 (by simp), (f2).cell e1 (by simp), (f2).cell e2 (by simp), (f2).cell e5 (by simp), (f2).cell e6 (by simp)⟩) (fun hHeld => ?_)
            replace hHeld := hHeld (by kernel_rfl)
            clear hK K
            try simp only [Act.put, List.getElem_toArray, List.getElem_cons_succ, List.getElem_cons_zero, List.setIfInBounds_toArray, List.set_cons_zero, List.set_cons_succ]
            obtain ⟨Z, hZ⟩ : ∃ Z, x1.alloc (.cells #[.bool false, .bool false, .int .u8 0, .int .u32 0, .slice none 0 0, .string ⟨#[]⟩, .string ⟨#[]⟩] 26) = Z := ⟨_, rfl⟩
            rw [hZ] at hHeld f2 nb2 ⊢
            clear hZ
            refine wpLate_ready (rs := [22]) (by kernel_rfl) (by simp) ?_
            refine AllLate.cons (o := _) rfl (fun K hK => ?_) ?_
            · go_simp
              have f3 := (f2).alloc (.cells #[.int .i64 3, .int .u32 0, .string ⟨(lettersB (s0.take 20)).toArray⟩, .string ⟨#[]⟩] 97)
              have hs3 := blk_new Z (.cells #[.int .i64 3, .int .u32 0, .string ⟨(lettersB (s0.take 20)).toArray⟩, .string ⟨#[]⟩] 97)
              have hgn : Z.heap.size ≠ x1.heap.size := Nat.ne_of_gt (blk_lt nb2)
              have nb3 := blk_old nb2 (.cells #[.int .i64 3, .int .u32 0, .string ⟨(lettersB (s0.take 20)).toArray⟩, .string ⟨#[]⟩] 97)
              refine hK.out _ _ (fun _ => ⟨(f3).cell e0 (by simp), (f3).cell e1 (by simp), (f3).cell e2 (by simp), (f3).cell e5 (by simp), (f3).cell e6 (by simp)⟩) (fun hHeld => ?_)
              replace hHeld := hHeld (by kernel_rfl)
              clear hK K
              try simp only [Act.put, List.getElem_toArray, List.getElem_cons_succ, List.getElem_cons_zero, List.setIfInBounds_toArray, List.set_cons_zero, List.set_cons_succ]
              refine wpLate_pure (i := 23) (oi := _) (v := ?_) rfl (by kernel_rfl) (by kernel_rfl) (by kernel_rfl) (by kernel_rfl) (fun _ _ _ h => h) (Gives.load (by rfl) ?_) (fun _ => hHeld) ?_
              rotate_left
              · intro w hSw
                clear hSw
                go_simp
                try with_reducible rfl
              try simp only [Act.put, List.getElem_toArray, List.getElem_cons_succ, List.getElem_cons_zero, List.setIfInBounds_toArray, List.set_cons_zero, List.set_cons_succ]
              obtain ⟨X, hX⟩ : ∃ X, Z.alloc (.cells #[.int .i64 3, .int .u32 0, .string ⟨(lettersB (s0.take 20)).toArray⟩, .string ⟨#[]⟩] 97) = X := ⟨_, rfl⟩
              rw [hX] at hHeld f3 hs3 nb3 ⊢
              clear hX
              refine wpLate_ready (rs := [25]) (by kernel_rfl) (by simp) ?_
              refine AllLate.cons (o := _) rfl (fun K hK => ?_) ?_
              · have hgl := blk_lt hs3
                have hbz := blk_lt HBd.out
                have fs := fr_row (Fr.refl [x1.heap.size] X) (g := x1.heap.size) (Or.inr (by simp)) #[.bool E, .bool ret, .int .u8 (Q : Int), .int .u32 0, .slice (some ⟨Z.heap.size, 0, none⟩) 1 1, .string ⟨(lettersB (t.take 20)).toArray⟩, .string ⟨(y.take 50).toArray⟩]
                try rw [HE2.out]
                refine step_store_row rfl 26 _ _ rfl (x1.heap.size) #[.bool E, .bool ret, .int .u8 (Q : Int), .int .u32 0, .slice (some ⟨Z.heap.size, 0, none⟩) 1 1, .string ⟨(lettersB (t.take 20)).toArray⟩, .string ⟨(y.take 50).toArray⟩] (by rfl) (by rfl) _ _ nb3 (by kernel_rfl) rfl (by kernel_rfl) ?_
                refine hK.out _ _ (fun _ => ⟨fs.cell ((f3).cell e0 (by simp)) (by simp; omega), fs.cell ((f3).cell e1 (by simp)) (by simp; omega), fs.cell ((f3).cell e2 (by simp)) (by simp; omega), fs.cell ((f3).cell e5 (by simp)) (by simp; omega), fs.cell ((f3).cell e6 (by simp)) (by simp; omega)⟩) (fun hHeld => ?_)
                replace hHeld := hHeld (by kernel_rfl)
                clear hK K
                try simp only [Act.put, List.getElem_toArray, List.getElem_cons_succ, List.getElem_cons_zero, List.setIfInBounds_toArray, List.set_cons_zero, List.set_cons_succ]
                refine wpLate_done (by kernel_rfl) ?_ _
                go_wp2_with fail
                go_meet
                exact ⟨x1.heap.size, Z.heap.size, rfl, setRow_heap _ _ _ _ _ _ nb3, fs.blk hs3 (by simp; omega), hgn, (by have h1 := F1.out.size; have h2 := fd.size; omega), fr_row (F1.out.trans (fd.trans (f3) (by simp)) (by simp)) (Or.inl (by have := F1.out.size; have := fd.size; omega)) _⟩
              exact AllLate.nil
            exact AllLate.nil
          exact AllLate.nil
        refine AllLate.cons (o := _) rfl (fun K hK => ?_) ?_
        · go_simp
          have f1 := (f0).alloc (.cells #[.bool false, .bool false, .int .u8 0, .int .u32 0, .slice none 0 0, .string ⟨#[]⟩, .string ⟨#[]⟩] 26)
          have nb1 := blk_new x0 (.cells #[.bool false, .bool false, .int .u8 0, .int .u32 0, .slice none 0 0, .string ⟨#[]⟩, .string ⟨#[]⟩] 26)
          have zs1 := (f0).size
          refine hK.out _ _ (fun _ => ⟨(f1).cell e0 (by simp), (f1).cell e1 (by simp), (f1).cell e2 (by simp), (f1).cell e5 (by simp), (f1).cell e6 (by simp)⟩) (fun hHeld => ?_)
          replace hHeld := hHeld (by kernel_rfl)
          clear hK K
          try simp only [Act.put, List.getElem_toArray, List.getElem_cons_succ, List.getElem_cons_zero, List.setIfInBounds_toArray, List.set_cons_zero, List.set_cons_succ]
          obtain ⟨Z, hZ⟩ : ∃ Z, x0.alloc (.cells #[.bool false, .bool false, .int .u8 0, .int .u32 0, .slice none 0 0, .string ⟨#[]⟩, .string ⟨#[]⟩] 26) = Z := ⟨_, rfl⟩
          rw [hZ] at hHeld f1 nb1 ⊢
          clear hZ
          refine wpLate_ready (rs := [20]) (by kernel_rfl) (by simp) ?_
          refine AllLate.cons (o := _) rfl (fun K hK => ?_) ?_
          · go_simp
            refine (letters_law07 s0 w4 _).mono ?_
            rintro _ x2 ⟨rfl, f⟩
            go_wp2_with fail
            have f2 := (f1).trans f (by simp)
            have nb2 := f.blk nb1 (by simp)
            have zf2 := f.size
            clear f
            refine hK.out _ _ (fun _ => ⟨(f2).cell e0 (by simp), (f2).cell e1 (by simp), (f2).cell e2 (by simp), (f2).cell e5 (by simp), (f2).cell e6 (by simp)⟩) (fun hHeld => ?_)
            replace hHeld := hHeld (by kernel_rfl)
            clear hK K
            try simp only [Act.put, List.getElem_toArray, List.getElem_cons_succ, List.getElem_cons_zero, List.setIfInBounds_toArray, List.set_cons_zero, List.set_cons_succ]
            refine wpLate_pure (i := 21) (oi := _) (v := ?_) rfl (by kernel_rfl) (by kernel_rfl) (by kernel_rfl) (by kernel_rfl) (fun _ _ _ h => h) (Gives.load (by rfl) ?_) (fun _ => hHeld) ?_
            rotate_left
            · intro w hSw
              clear hSw
              go_simp
              try with_reducible rfl
            try simp only [Act.put, List.getElem_toArray, List.getElem_cons_succ, List.getElem_cons_zero, List.setIfInBounds_toArray, List.set_cons_zero, List.set_cons_succ]
            refine wpLate_ready (rs := [22]) (by kernel_rfl) (by simp) ?_
            refine AllLate.cons (o := _) rfl (fun K hK => ?_) ?_
            · go_simp
              have f3 := (f2).alloc (.cells #[.int .i64 3, .int .u32 0, .string ⟨(lettersB (s0.take 20)).toArray⟩, .string ⟨#[]⟩] 97)
              have hs3 := blk_new x2 (.cells #[.int .i64 3, .int .u32 0, .string ⟨(lettersB (s0.take 20)).toArray⟩, .string ⟨#[]⟩] 97)
              have hgn : x2.heap.size ≠ x0.heap.size := Nat.ne_of_gt (blk_lt nb2)
              have nb3 := blk_old nb2 (.cells #[.int .i64 3, .int .u32 0, .string ⟨(lettersB (s0.take 20)).toArray⟩, .string ⟨#[]⟩] 97)
              refine hK.out _ _ (fun _ => ⟨(f3).cell e0 (by simp), (f3).cell e1 (by simp), (f3).cell e2 (by simp), (f3).cell e5 (by simp), (f3).cell e6 (by simp)⟩) (fun hHeld => ?_)
              replace hHeld := hHeld (by kernel_rfl)
              clear hK K
              try simp only [Act.put, List.getElem_toArray, List.getElem_cons_succ, List.getElem_cons_zero, List.setIfInBounds_toArray, List.set_cons_zero, List.set_cons_succ]
              refine wpLate_pure (i := 23) (oi := _) (v := ?_) rfl (by kernel_rfl) (by kernel_rfl) (by kernel_rfl) (by kernel_rfl) (fun _ _ _ h => h) (Gives.load (by rfl) ?_) (fun _ => hHeld) ?_
              rotate_left
              · intro w hSw
                clear hSw
                go_simp
                try with_reducible rfl
              try simp only [Act.put, List.getElem_toArray, List.getElem_cons_succ, List.getElem_cons_zero, List.setIfInBounds_toArray, List.set_cons_zero, List.set_cons_succ]
              obtain ⟨X, hX⟩ : ∃ X, x2.alloc (.cells #[.int .i64 3, .int .u32 0, .string ⟨(lettersB (s0.take 20)).toArray⟩, .string ⟨#[]⟩] 97) = X := ⟨_, rfl⟩
              rw [hX] at hHeld f3 hs3 nb3 ⊢
              clear hX
              refine wpLate_ready (rs := [25]) (by kernel_rfl) (by simp) ?_
              refine AllLate.cons (o := _) rfl (fun K hK => ?_) ?_
              · have hgl := blk_lt hs3
                have hbz := blk_lt HBd.out
                have fs := fr_row (Fr.refl [x0.heap.size] X) (g := x0.heap.size) (Or.inr (by simp)) #[.bool E, .bool ret, .int .u8 (Q : Int), .int .u32 0, .slice (some ⟨x2.heap.size, 0, none⟩) 1 1, .string ⟨(lettersB (t.take 20)).toArray⟩, .string ⟨(y.take 50).toArray⟩]
                try rw [HE2.out]
                refine step_store_row rfl 26 _ _ rfl (x0.heap.size) #[.bool E, .bool ret, .int .u8 (Q : Int), .int .u32 0, .slice (some ⟨x2.heap.size, 0, none⟩) 1 1, .string ⟨(lettersB (t.take 20)).toArray⟩, .string ⟨(y.take 50).toArray⟩] (by rfl) (by rfl) _ _ nb3 (by kernel_rfl) rfl (by kernel_rfl) ?_
                refine hK.out _ _ (fun _ => ⟨fs.cell ((f3).cell e0 (by simp)) (by simp; omega), fs.cell ((f3).cell e1 (by simp)) (by simp; omega), fs.cell ((f3).cell e2 (by simp)) (by simp; omega), fs.cell ((f3).cell e5 (by simp)) (by simp; omega), fs.cell ((f3).cell e6 (by simp)) (by simp; omega)⟩) (fun hHeld => ?_)
                replace hHeld := hHeld (by kernel_rfl)
                clear hK K
                try simp only [Act.put, List.getElem_toArray, List.getElem_cons_succ, List.getElem_cons_zero, List.setIfInBounds_toArray, List.set_cons_zero, List.set_cons_succ]
                refine wpLate_done (by kernel_rfl) ?_ _
                go_wp2_with fail
                go_meet
                exact ⟨x0.heap.size, x2.heap.size, rfl, setRow_heap _ _ _ _ _ _ nb3, fs.blk hs3 (by simp; omega), hgn, (by have h1 := F1.out.size; have h2 := fd.size; omega), fr_row (F1.out.trans (fd.trans (f3) (by simp)) (by simp)) (Or.inl (by have := F1.out.size; have := fd.size; omega)) _⟩
              exact AllLate.nil
            exact AllLate.nil
          exact AllLate.nil
        exact AllLate.nil
      refine AllLate.cons (o := _) rfl (fun K hK => ?_) ?_
      · go_simp
        have f0 := (Fr.refl [] wd).alloc (.cells #[.bool false, .bool false, .int .u8 0, .int .u32 0, .slice none 0 0, .string ⟨#[]⟩, .string ⟨#[]⟩] 26)
        have nb0 := blk_new wd (.cells #[.bool false, .bool false, .int .u8 0, .int .u32 0, .slice none 0 0, .string ⟨#[]⟩, .string ⟨#[]⟩] 26)
        have zs0 := (Fr.refl [] wd).size
        refine hK.out _ _ (fun _ => ⟨(f0).cell e0 (by simp), (f0).cell e1 (by simp), (f0).cell e2 (by simp), (f0).cell e5 (by simp), (f0).cell e6 (by simp)⟩) (fun hHeld => ?_)
        replace hHeld := hHeld (by kernel_rfl)
        clear hK K
        try simp only [Act.put, List.getElem_toArray, List.getElem_cons_succ, List.getElem_cons_zero, List.setIfInBounds_toArray, List.set_cons_zero, List.set_cons_succ]
        obtain ⟨Z, hZ⟩ : ∃ Z, wd.alloc (.cells #[.bool false, .bool false, .int .u8 0, .int .u32 0, .slice none 0 0, .string ⟨#[]⟩, .string ⟨#[]⟩] 26) = Z := ⟨_, rfl⟩
        rw [hZ] at hHeld f0 nb0 ⊢
        clear hZ
        refine wpLate_ready (rs := [15]) (by kernel_rfl) (by simp) ?_
        refine AllLate.cons (o := _) rfl (fun K hK => ?_) ?_
        · go_simp
          refine (letters_law07 t ht _).mono ?_
          rintro _ x1 ⟨rfl, f⟩
          go_wp2_with fail
          have f1 := (f0).trans f (by simp)
          have nb1 := f.blk nb0 (by simp)
          have zf1 := f.size
          clear f
          refine hK.out _ _ (fun _ => ⟨(f1).cell e0 (by simp), (f1).cell e1 (by simp), (f1).cell e2 (by simp), (f1).cell e5 (by simp), (f1).cell e6 (by simp)⟩) (fun hHeld => ?_)
          replace hHeld := hHeld (by kernel_rfl)
          clear hK K
          try simp only [Act.put, List.getElem_toArray, List.getElem_cons_succ, List.getElem_cons_zero, List.setIfInBounds_toArray, List.set_cons_zero, List.set_cons_succ]
          refine wpLate_pure (i := 18) (oi := _) (v := .string ⟨(y.take 50).toArray⟩) rfl (by kernel_rfl) (by kernel_rfl) (by kernel_rfl) (by kernel_rfl) (fun _ _ _ h => h) (Gives.quiet 36 #[.string ⟨y.toArray⟩, .int .i64 50] (by rfl) ?_ (fun w => cut_any y 50 w hy (by decide))) (fun _ => hHeld) ?_
          · intro w
            go_simp
          try simp only [Act.put, List.getElem_toArray, List.getElem_cons_succ, List.getElem_cons_zero, List.setIfInBounds_toArray, List.set_cons_zero, List.set_cons_succ]
          refine wpLate_ready (rs := [20]) (by kernel_rfl) (by simp) ?_
          refine AllLate.cons (o := _) rfl (fun K hK => ?_) ?_
          · go_simp
            refine (letters_law07 s0 w4 _).mono ?_
            rintro _ x2 ⟨rfl, f⟩
            go_wp2_with fail
            have f2 := (f1).trans f (by simp)
            have nb2 := f.blk nb1 (by simp)
            have zf2 := f.size
            clear f
            refine hK.out _ _ (fun _ => ⟨(f2).cell e0 (by simp), (f2).cell e1 (by simp), (f2).cell e2 (by simp), (f2).cell e5 (by simp), (f2).cell e6 (by simp)⟩) (fun hHeld => ?_)
            replace hHeld := hHeld (by kernel_rfl)
            clear hK K
            try simp only [Act.put, List.getElem_toArray, List.getElem_cons_succ, List.getElem_cons_zero, List.setIfInBounds_toArray, List.set_cons_zero, List.set_cons_succ]
            refine wpLate_pure (i := 21) (oi := _) (v := ?_) rfl (by kernel_rfl) (by kernel_rfl) (by kernel_rfl) (by kernel_rfl) (fun _ _ _ h => h) (Gives.load (by rfl) ?_) (fun _ => hHeld) ?_
            rotate_left
            · intro w hSw
              clear hSw
              go_simp
              try with_reducible rfl
            try simp only [Act.put, List.getElem_toArray, List.getElem_cons_succ, List.getElem_cons_zero, List.setIfInBounds_toArray, List.set_cons_zero, List.set_cons_succ]
            refine wpLate_ready (rs := [22]) (by kernel_rfl) (by simp) ?_
            refine AllLate.cons (o := _) rfl (fun K hK => ?_) ?_
            · go_simp
              have f3 := (f2).alloc (.cells #[.int .i64 3, .int .u32 0, .string ⟨(lettersB (s0.take 20)).toArray⟩, .string ⟨#[]⟩] 97)
              have hs3 := blk_new x2 (.cells #[.int .i64 3, .int .u32 0, .string ⟨(lettersB (s0.take 20)).toArray⟩, .string ⟨#[]⟩] 97)
              have hgn : x2.heap.size ≠ wd.heap.size := Nat.ne_of_gt (blk_lt nb2)
              have nb3 := blk_old nb2 (.cells #[.int .i64 3, .int .u32 0, .string ⟨(lettersB (s0.take 20)).toArray⟩, .string ⟨#[]⟩] 97)
              refine hK.out _ _ (fun _ => ⟨(f3).cell e0 (by simp), (f3).cell e1 (by simp), (f3).cell e2 (by simp), (f3).cell e5 (by simp), (f3).cell e6 (by simp)⟩) (fun hHeld => ?_)
              replace hHeld := hHeld (by kernel_rfl)
              clear hK K
              try simp only [Act.put, List.getElem_toArray, List.getElem_cons_succ, List.getElem_cons_zero, List.setIfInBounds_toArray, List.set_cons_zero, List.set_cons_succ]
              refine wpLate_pure (i := 23) (oi := _) (v := ?_) rfl (by kernel_rfl) (by kernel_rfl) (by kernel_rfl) (by kernel_rfl) (fun _ _ _ h => h) (Gives.load (by rfl) ?_) (fun _ => hHeld) ?_
              rotate_left
              · intro w hSw
                clear hSw
                go_simp
                try with_reducible rfl
              try simp only [Act.put, List.getElem_toArray, List.getElem_cons_succ, List.getElem_cons_zero, List.setIfInBounds_toArray, List.set_cons_zero, List.set_cons_succ]
              obtain ⟨X, hX⟩ : ∃ X, x2.alloc (.cells #[.int .i64 3, .int .u32 0, .string ⟨(lettersB (s0.take 20)).toArray⟩, .string ⟨#[]⟩] 97) = X := ⟨_, rfl⟩
              rw [hX] at hHeld f3 hs3 nb3 ⊢
              clear hX
              refine wpLate_ready (rs := [25]) (by kernel_rfl) (by simp) ?_
              refine AllLate.cons (o := _) rfl (fun K hK => ?_) ?_
              · have hgl := blk_lt hs3
                have hbz := blk_lt HBd.out
                have fs := fr_row (Fr.refl [wd.heap.size] X) (g := wd.heap.size) (Or.inr (by simp)) #[.bool E, .bool ret, .int .u8 (Q : Int), .int .u32 0, .slice (some ⟨x2.heap.size, 0, none⟩) 1 1, .string ⟨(lettersB (t.take 20)).toArray⟩, .string ⟨(y.take 50).toArray⟩]
                try rw [HE2.out]
                refine step_store_row rfl 26 _ _ rfl (wd.heap.size) #[.bool E, .bool ret, .int .u8 (Q : Int), .int .u32 0, .slice (some ⟨x2.heap.size, 0, none⟩) 1 1, .string ⟨(lettersB (t.take 20)).toArray⟩, .string ⟨(y.take 50).toArray⟩] (by rfl) (by rfl) _ _ nb3 (by kernel_rfl) rfl (by kernel_rfl) ?_
                refine hK.out _ _ (fun _ => ⟨fs.cell ((f3).cell e0 (by simp)) (by simp; omega), fs.cell ((f3).cell e1 (by simp)) (by simp; omega), fs.cell ((f3).cell e2 (by simp)) (by simp; omega), fs.cell ((f3).cell e5 (by simp)) (by simp; omega), fs.cell ((f3).cell e6 (by simp)) (by simp; omega)⟩) (fun hHeld => ?_)
                replace hHeld := hHeld (by kernel_rfl)
                clear hK K
                try simp only [Act.put, List.getElem_toArray, List.getElem_cons_succ, List.getElem_cons_zero, List.setIfInBounds_toArray, List.set_cons_zero, List.set_cons_succ]
                refine wpLate_done (by kernel_rfl) ?_ _
                go_wp2_with fail
                go_meet
                exact ⟨wd.heap.size, x2.heap.size, rfl, setRow_heap _ _ _ _ _ _ nb3, fs.blk hs3 (by simp; omega), hgn, (by have h1 := F1.out.size; have h2 := fd.size; omega), fr_row (F1.out.trans (fd.trans (f3) (by simp)) (by simp)) (Or.inl (by have := F1.out.size; have := fd.size; omega)) _⟩
              exact AllLate.nil
            exact AllLate.nil
          exact AllLate.nil
        exact AllLate.nil
      exact AllLate.nil
  case rest =>
    obtain ⟨b, g, rfl, hbb, hbg, hgb, F2b, F2⟩ := hcut
    clear F1 hb1 hE
    generalize wc = z at *
    obtain ⟨⟨e0, e1, e2, e3, e4, e5, e6⟩, ⟨m0, m1, m2, m3, m4, m5, m6⟩, nl⟩ := blk7_facts hbb
    have HBG := Lib.hid hbg
    have HBB := Lib.hid hbb
    have F2 := Lib.hid F2
    have hwb : Hid (w.heap.size ≤ b) := Lib.hid F2b
    clear hbg hbb
    obtain ⟨i2, hi2⟩ : ∃ i : Nat, i = if Q = 0 then 0 else n := ⟨_, rfl⟩
    go_upto_if 46 with (fail)
    go_cut [] (fun wx => wx.heap[b]? = some (.cells #[.bool (dup && E), .bool ret, .int .u8 (Q : Int), .int .u32 (i2 : Int), .slice (some ⟨g, 0, none⟩) 1 1, .string ⟨(lettersB (t.take 20)).toArray⟩, .string ⟨(y.take 50).toArray⟩] 26 (0, 0)) ∧ wx.heap[g]? = some (.cells #[.int .i64 3, .int .u32 0, .string ⟨(lettersB (s0.take 20)).toArray⟩, .string ⟨#[]⟩] 97 (0, 0)) ∧ Fr [] w wx)
    case first =>
      rcases Nat.eq_zero_or_pos Q with hq0 | hq0
      · have i0 : i2 = 0 := by rw [hi2, if_pos hq0]
        clear hi2
        subst i0
        subst hq0
        go_wp2_with fail
        go_meet
        exact ⟨HBB.out, HBG.out, F2.out⟩
      · have i0 : i2 = n := by rw [hi2, if_neg (by omega)]
        clear hi2
        subst i0
        go_wp2_with fail
        go_meet
        exact ⟨blk_set HBB.out 3 _, blk_far HBG.out (by simp; omega) _, F2.out.setCell (Or.inl (by simp; exact hwb.out)) _⟩
    case rest =>
      obtain ⟨hbb, hbg, F3⟩ := hcut
      clear e0 e1 e2 e3 e4 e5 e6 m0 m1 m2 m3 m4 m5 m6 nl HBG HBB F2
      generalize wc = z2 at *
      have hV := view_cells hbg (cs := [letP 3 (s0.take 20)].flatMap prE) (by rfl) 1 1
      have h20 : (t.take 20).length ≤ 20 := List.length_take_le _ _
      have hs20 : (s0.take 20).length ≤ 20 := List.length_take_le _ _
      have h50 : (y.take 50).length ≤ 50 := List.length_take_le _ _
      have hi65 : i2 < 65536 := by rw [hi2]; split <;> omega
      have hOk := let_ok 3 3 false (s0.take 20) (by decide) (by decide) hs20
      have hSm := let_small 3 (s0.take 20) hs20
      have hPB := pb_back ⟨dup && E, ret, Q, i2, [letP 3 (s0.take 20)], (lettersB (t.take 20)), (y.take 50)⟩ (t.take 20) hQ3 rfl (by omega) (fun h => by rw [hi2]; exact if_pos h) (fun h => by rw [hi2]; show (if Q = 0 then 0 else n) ≠ 0 ∧ _; rw [if_neg (by show Q ≠ 0; exact Nat.pos_iff_ne_zero.1 h)]; exact ⟨hn0, hn1⟩) hOk (by show (putsB [letP 3 (s0.take 20)]).length ≤ _; omega)
      obtain ⟨_, _, _, hFq⟩ := pbFlags_qos ⟨dup && E, ret, Q, i2, [letP 3 (s0.take 20)], (lettersB (t.take 20)), (y.take 50)⟩ hQ3
      have hCK := pbFlags_chk ⟨dup && E, ret, Q, i2, [letP 3 (s0.take 20)], (lettersB (t.take 20)), (y.take 50)⟩ hQ3 (by intro h; exact HE.out (by simp at h; exact h.2))
      have hLT : (pbText ⟨dup && E, ret, Q, i2, [letP 3 (s0.take 20)], (lettersB (t.take 20)), (y.take 50)⟩).length ≤ 1000000 := by
        have h1 := dataB_len (lettersB (t.take 20))
        have h2 : (lettersB (t.take 20)).length = (t.take 20).length := lettersB_len _
        have h3 : (propsB [letP 3 (s0.take 20)]).length ≤ 200 := by
          have a := varB_len' (putsB [letP 3 (s0.take 20)]).length
          show (var _ ++ _).length ≤ _
          rw [List.length_append]
          omega
        show (_ ++ ((if 0 < Q then two i2 else []) ++ (propsB [letP 3 (s0.take 20)] ++ y.take 50))).length ≤ _
        split <;> simp only [List.length_append, two_len, List.length_nil] <;> omega
      have HPB := Lib.hid hPB
      have HCK := Lib.hid hCK
      have HLT := Lib.hid hLT
      have HFQ := Lib.hid hFq
      have HVX := Lib.hid hV
      have HGL := Lib.hid (blk_lt hbg)
      have HB := Lib.hid hbb
      have F3 := Lib.hid F3
      have HI := Lib.hid (And.intro hi2 hi65)
      clear hPB hCK hLT hFq hV hOk hSm hi2 hbg HE hi65
      obtain ⟨⟨e0, e1, e2, e3, e4, e5, e6⟩, _, _⟩ := blk7_facts hbb
      clear hbb
      go_upto_region 6 with (fail)
      go_cut [12, 13] (fun v12 v13 wx => ∃ o A6 c6, v12 = .pointer (some ⟨o, 0, none⟩) ∧ v13 = .int .i64 0 ∧ wx.heap[o]? = some (.cells #[.bool (dup && E), .bool ret, .int .u8 (Q : Int), .int .u32 (i2 : Int), .slice A6 1 c6, .string ⟨(lettersB (t.take 20)).toArray⟩, .string ⟨(y.take 50).toArray⟩] 26 (0, 0)) ∧ View wx (.slice A6 1 c6) 1 ([letP 3 (s0.take 20)].flatMap prE) ∧ wx.heap[b]? = some (.cells #[.bool (dup && E), .bool ret, .int .u8 (Q : Int), .int .u32 (i2 : Int), .slice (some ⟨g, 0, none⟩) 1 1, .string ⟨(lettersB (t.take 20)).toArray⟩, .string ⟨(y.take 50).toArray⟩] 26 (0, 0)) ∧ View wx (.slice (some ⟨g, 0, none⟩) 1 1) 1 ([letP 3 (s0.take 20)].flatMap prE) ∧ Fr [] w wx)
      case first =>
        refine wp_region_late [] (S := fun w' => w'.cell? ⟨b, 0, none⟩ = some (.bool (dup && E)) ∧ w'.cell? ⟨b, 1, none⟩ = some (.bool ret) ∧ w'.cell? ⟨b, 2, none⟩ = some (.int .u8 (Q : Int)) ∧ w'.cell? ⟨b, 3, none⟩ = some (.int .u32 (i2 : Int)) ∧ w'.cell? ⟨b, 4, none⟩ = some (.slice (some ⟨g, 0, none⟩) 1 1) ∧ w'.cell? ⟨b, 5, none⟩ = some (.string ⟨(lettersB (t.take 20)).toArray⟩) ∧ w'.cell? ⟨b, 6, none⟩ = some (.string ⟨(y.take 50).toArray⟩)) (by kernel_rfl) ⟨e0, e1, e2, e3, e4, e5, e6⟩ (fun hHeld => ?_)
        have fd := (Fr.refl [] z2).drew
        have hbd := fd.blk HB.out (by simp)
        have hvd := HVX.out.fr fd (by simp)
        have hgd : g < _ := Nat.lt_of_lt_of_le HGL.out fd.size
        obtain ⟨zd, hzd⟩ : ∃ zd, z2.drew = zd := ⟨_, rfl⟩
        rw [hzd] at hHeld fd hbd hvd hgd ⊢
        clear hzd e0 e1 e2 e3 e4 e5 e6
        have HBz := Lib.hid hbd
        have HVz := Lib.hid hvd
        have glt := Lib.hid hgd
        clear hbd hvd hgd
        refine wpLate_take (i := 0) (oi := _) (v := ?_) rfl (by kernel_rfl) (by kernel_rfl) (by kernel_rfl) (by kernel_rfl) (fun _ _ _ h => h) (Gives.load (by rfl) ?_) hHeld ?_
        rotate_left
        · intro w hSw
          (try dsimp only at hSw)
          go_simp
          try with_reducible rfl
        try simp only [Act.put, List.getElem_toArray, List.getElem_cons_succ, List.getElem_cons_zero, List.setIfInBounds_toArray, List.set_cons_zero, List.set_cons_succ]
        refine wpLate_take (i := 2) (oi := _) (v := ?_) rfl (by kernel_rfl) (by kernel_rfl) (by kernel_rfl) (by kernel_rfl) (fun _ _ _ h => h) (Gives.load (by rfl) ?_) hHeld ?_
        rotate_left
        · intro w hSw
          (try dsimp only at hSw)
          go_simp
          try with_reducible rfl
        try simp only [Act.put, List.getElem_toArray, List.getElem_cons_succ, List.getElem_cons_zero, List.setIfInBounds_toArray, List.set_cons_zero, List.set_cons_succ]
        refine wpLate_ready (rs := [1, 8]) (by kernel_rfl) (by simp) ?_
        refine AllLate.cons (o := _) rfl (fun K hK => ?_) ?_
        · go_simp
          refine (pflags_any ⟨dup && E, ret, Q, i2, [letP 3 (s0.take 20)], (lettersB (t.take 20)), (y.take 50)⟩ (.slice (some ⟨g, 0, none⟩) 1 1) _ (by show Q < 256; omega)).mono ?_
          rintro _ x0 ⟨rfl, f⟩
          go_wp2_with fail
          have f0 := (Fr.refl [] zd).trans f (by simp)
          clear f
          refine hK.out _ _ (fun _ => (blk7_facts ((f0).blk HBz.out (by simp))).1) (fun hHeld => ?_)
          replace hHeld := hHeld (by kernel_rfl)
          clear hK K
          try simp only [Act.put, List.getElem_toArray, List.getElem_cons_succ, List.getElem_cons_zero, List.setIfInBounds_toArray, List.set_cons_zero, List.set_cons_succ]
          refine wpLate_ready (rs := [3, 8]) (by kernel_rfl) (by simp) ?_
          refine AllLate.cons (o := _) rfl (fun K hK => ?_) ?_
          · go_simp
            refine (ptext_any ⟨dup && E, ret, Q, i2, [letP 3 (s0.take 20)], (lettersB (t.take 20)), (y.take 50)⟩ (.slice (some ⟨g, 0, none⟩) 1 1) _ (by show Q < 256; omega) (by show i2 < _; have := HI.out.2; omega) (HVz.out.fr (f0) (by simp)) (by show (1 : Nat) ≤ 1000; omega) (let_long 3 (s0.take 20) (by have := List.length_take_le 20 s0; omega)) (by show (lettersB (t.take 20)).length ≤ _; rw [lettersB_len]; omega) (by show (y.take 50).length ≤ _; omega)).mono ?_
            rintro _ x1 ⟨rfl, f⟩
            go_wp2_with fail
            have f1 := (f0).trans f (by simp)
            clear f
            refine hK.out _ _ (fun _ => (blk7_facts ((f1).blk HBz.out (by simp))).1) (fun hHeld => ?_)
            replace hHeld := hHeld (by kernel_rfl)
            clear hK K
            try simp only [Act.put, List.getElem_toArray, List.getElem_cons_succ, List.getElem_cons_zero, List.setIfInBounds_toArray, List.set_cons_zero, List.set_cons_succ]
            refine wpLate_ready (rs := [4, 8]) (by kernel_rfl) (by simp) ?_
            refine AllLate.cons (o := _) rfl (fun K hK => ?_) ?_
            · go_simp
              refine (pparse_any _ _ _ HFQ.out HLT.out).mono ?_
              rw [HPB.out]
              rintro _ x2 ⟨v6, rfl, o6, f⟩
              obtain ⟨A6, c6, rfl⟩ := own_shape o6
              have hv6 := own_view o6
              have hge := own_ge2 o6
              dsimp only [List.length_singleton] at hv6 hge
              unfold pbC
              dsimp only [List.length_singleton]
              go_wp2_with fail
              have f2 := (f1).trans f (by simp)
              clear f
              refine hK.out _ _ (fun _ => (blk7_facts ((f2).blk HBz.out (by simp))).1) (fun hHeld => ?_)
              replace hHeld := hHeld (by kernel_rfl)
              clear hK K
              try simp only [Act.put, List.getElem_toArray, List.getElem_cons_succ, List.getElem_cons_zero, List.setIfInBounds_toArray, List.set_cons_zero, List.set_cons_succ]
              refine wpLate_pure (i := 5) (oi := _) (v := ?_) rfl (by kernel_rfl) (by kernel_rfl) (by kernel_rfl) (by kernel_rfl) (fun _ _ _ h => h) (Gives.load (by rfl) ?_) (fun _ => hHeld) ?_
              rotate_left
              · intro w hSw
                clear hSw
                go_simp
                try with_reducible rfl
              try simp only [Act.put, List.getElem_toArray, List.getElem_cons_succ, List.getElem_cons_zero, List.setIfInBounds_toArray, List.set_cons_zero, List.set_cons_succ]
              refine wpLate_pure (i := 6) (oi := _) (v := ?_) rfl (by kernel_rfl) (by kernel_rfl) (by kernel_rfl) (by kernel_rfl) (fun _ _ _ h => h) (Gives.load (by rfl) ?_) (fun _ => hHeld) ?_
              rotate_left
              · intro w hSw
                clear hSw
                go_simp
                try with_reducible rfl
              try simp only [Act.put, List.getElem_toArray, List.getElem_cons_succ, List.getElem_cons_zero, List.setIfInBounds_toArray, List.set_cons_zero, List.set_cons_succ]
              refine wpLate_pure (i := 7) (oi := _) (v := ?_) rfl (by kernel_rfl) (by kernel_rfl) (by kernel_rfl) (by kernel_rfl) (fun _ _ _ h => h) (Gives.load (by rfl) ?_) (fun _ => hHeld) ?_
              rotate_left
              · intro w hSw
                clear hSw
                go_simp
                try with_reducible rfl
              try simp only [Act.put, List.getElem_toArray, List.getElem_cons_succ, List.getElem_cons_zero, List.setIfInBounds_toArray, List.set_cons_zero, List.set_cons_succ]
              refine wpLate_ready (rs := [8]) (by kernel_rfl) (by simp) ?_
              refine AllLate.cons (o := _) rfl (fun K hK => ?_) ?_
              · go_simp
                have f3 := (f2).alloc (.cells #[.bool false, .bool false, .int .u8 0, .int .u32 0, .slice none 0 0, .string ⟨#[]⟩, .string ⟨#[]⟩] 26)
                have nb3 := blk_new (x2) (.cells #[.bool false, .bool false, .int .u8 0, .int .u32 0, .slice none 0 0, .string ⟨#[]⟩, .string ⟨#[]⟩] 26)
                have FSZ : zd.heap.size ≤ (x2).heap.size := (f2).size
                refine hK.out _ _ (fun _ => (blk7_facts ((f3).blk HBz.out (by simp))).1) (fun hHeld => ?_)
                replace hHeld := hHeld (by kernel_rfl)
                clear hK K
                try simp only [Act.put, List.getElem_toArray, List.getElem_cons_succ, List.getElem_cons_zero, List.setIfInBounds_toArray, List.set_cons_zero, List.set_cons_succ]
                refine wpLate_ready (rs := [9]) (by kernel_rfl) (by simp) ?_
                refine AllLate.cons (o := _) rfl (fun K hK => ?_) ?_
                · go_simp
                  have fz := (f2).alloc (.cells #[.bool (dup && E), .bool ret, .int .u8 (Q : Int), .int .u32 (i2 : Int), .slice A6 1 c6, .string ⟨(lettersB (t.take 20)).toArray⟩, .string ⟨(y.take 50).toArray⟩] 26)
                  refine hK.out _ _ (fun _ => (blk7_facts ((fz).blk HBz.out (by simp))).1) (fun hHeld => ?_)
                  replace hHeld := hHeld (by kernel_rfl)
                  clear hK K
                  try simp only [Act.put, List.getElem_toArray, List.getElem_cons_succ, List.getElem_cons_zero, List.setIfInBounds_toArray, List.set_cons_zero, List.set_cons_succ]
                  refine wpLate_pure (i := 10) (oi := _) (v := ?_) rfl (by kernel_rfl) (by kernel_rfl) (by kernel_rfl) (by kernel_rfl) (fun _ _ _ h => h) (Gives.load (by rfl) ?_) (fun _ => hHeld) ?_
                  rotate_left
                  · intro w hSw
                    clear hSw
                    go_simp
                    try with_reducible rfl
                  try simp only [Act.put, List.getElem_toArray, List.getElem_cons_succ, List.getElem_cons_zero, List.setIfInBounds_toArray, List.set_cons_zero, List.set_cons_succ]
                  refine wpLate_done (by kernel_rfl) ?_ _
                  go_wp2_with fail
                  go_meet
                  exact ⟨_, A6, c6, rfl, rfl, blk_new _ _, hv6.fr ((Fr.refl [] _).alloc _) (by simp), fz.blk HBz.out (by simp), HVz.out.fr fz (by simp), F3.out.trans (fd.trans fz (by simp)) (by simp)⟩
                exact AllLate.nil
              exact AllLate.nil
            refine AllLate.cons (o := _) rfl (fun K hK => ?_) ?_
            · go_simp
              have f2 := (f1).alloc (.cells #[.bool false, .bool false, .int .u8 0, .int .u32 0, .slice none 0 0, .string ⟨#[]⟩, .string ⟨#[]⟩] 26)
              have nb2 := blk_new (x1) (.cells #[.bool false, .bool false, .int .u8 0, .int .u32 0, .slice none 0 0, .string ⟨#[]⟩, .string ⟨#[]⟩] 26)
              have FSZ : zd.heap.size ≤ (x1).heap.size := (f1).size
              refine hK.out _ _ (fun _ => (blk7_facts ((f2).blk HBz.out (by simp))).1) (fun hHeld => ?_)
              replace hHeld := hHeld (by kernel_rfl)
              clear hK K
              try simp only [Act.put, List.getElem_toArray, List.getElem_cons_succ, List.getElem_cons_zero, List.setIfInBounds_toArray, List.set_cons_zero, List.set_cons_succ]
              refine wpLate_ready (rs := [4]) (by kernel_rfl) (by simp) ?_
              refine AllLate.cons (o := _) rfl (fun K hK => ?_) ?_
              · go_simp
                have ALT : (x1).heap.size < _ := blk_lt nb2
                refine (pparse_any _ _ _ HFQ.out HLT.out).mono ?_
                rw [HPB.out]
                rintro _ x3 ⟨v6, rfl, o6, f⟩
                obtain ⟨A6, c6, rfl⟩ := own_shape o6
                have hv6 := own_view o6
                have hge := own_ge2 o6
                dsimp only [List.length_singleton] at hv6 hge
                unfold pbC
                dsimp only [List.length_singleton]
                go_wp2_with fail
                have f3 := (f2).trans f (by simp)
                have nb3 := f.blk nb2 (by simp)
                clear f
                refine hK.out _ _ (fun _ => (blk7_facts ((f3).blk HBz.out (by simp))).1) (fun hHeld => ?_)
                replace hHeld := hHeld (by kernel_rfl)
                clear hK K
                try simp only [Act.put, List.getElem_toArray, List.getElem_cons_succ, List.getElem_cons_zero, List.setIfInBounds_toArray, List.set_cons_zero, List.set_cons_succ]
                refine wpLate_pure (i := 5) (oi := _) (v := ?_) rfl (by kernel_rfl) (by kernel_rfl) (by kernel_rfl) (by kernel_rfl) (fun _ _ _ h => h) (Gives.load (by rfl) ?_) (fun _ => hHeld) ?_
                rotate_left
                · intro w hSw
                  clear hSw
                  go_simp
                  try with_reducible rfl
                try simp only [Act.put, List.getElem_toArray, List.getElem_cons_succ, List.getElem_cons_zero, List.setIfInBounds_toArray, List.set_cons_zero, List.set_cons_succ]
                refine wpLate_pure (i := 6) (oi := _) (v := ?_) rfl (by kernel_rfl) (by kernel_rfl) (by kernel_rfl) (by kernel_rfl) (fun _ _ _ h => h) (Gives.load (by rfl) ?_) (fun _ => hHeld) ?_
                rotate_left
                · intro w hSw
                  clear hSw
                  go_simp
                  try with_reducible rfl
                try simp only [Act.put, List.getElem_toArray, List.getElem_cons_succ, List.getElem_cons_zero, List.setIfInBounds_toArray, List.set_cons_zero, List.set_cons_succ]
                refine wpLate_pure (i := 7) (oi := _) (v := ?_) rfl (by kernel_rfl) (by kernel_rfl) (by kernel_rfl) (by kernel_rfl) (fun _ _ _ h => h) (Gives.load (by rfl) ?_) (fun _ => hHeld) ?_
                rotate_left
                · intro w hSw
                  clear hSw
                  go_simp
                  try with_reducible rfl
                try simp only [Act.put, List.getElem_toArray, List.getElem_cons_succ, List.getElem_cons_zero, List.setIfInBounds_toArray, List.set_cons_zero, List.set_cons_succ]
                refine wpLate_ready (rs := [9]) (by kernel_rfl) (by simp) ?_
                refine AllLate.cons (o := _) rfl (fun K hK => ?_) ?_
                · obtain ⟨⟨n0, n1, n2, n3, n4, n5, n6⟩, ⟨m0, m1, m2, m3, m4, m5, m6⟩, nl⟩ := blk7_facts nb3
                  have fs := set7_fr x3 ((x1).heap.size) (.bool (dup && E)) (.bool ret) (.int .u8 (Q : Int)) (.int .u32 (i2 : Int)) (.slice A6 1 c6) (.string ⟨(lettersB (t.take 20)).toArray⟩) (.string ⟨(y.take 50).toArray⟩)
                  have hbz := blk_lt HBz.out
                  have hgz := glt.out
                  go_simp
                  change K _ (set7 x3 ((x1).heap.size) (.bool (dup && E)) (.bool ret) (.int .u8 (Q : Int)) (.int .u32 (i2 : Int)) (.slice A6 1 c6) (.string ⟨(lettersB (t.take 20)).toArray⟩) (.string ⟨(y.take 50).toArray⟩))
                  refine hK.out _ _ (fun _ => (blk7_facts (fs.blk ((f3).blk HBz.out (by simp)) (by have := FSZ; simp; omega))).1) (fun hHeld => ?_)
                  replace hHeld := hHeld (by kernel_rfl)
                  clear hK K
                  try simp only [Act.put, List.getElem_toArray, List.getElem_cons_succ, List.getElem_cons_zero, List.setIfInBounds_toArray, List.set_cons_zero, List.set_cons_succ]
                  refine wpLate_pure (i := 10) (oi := _) (v := ?_) rfl (by kernel_rfl) (by kernel_rfl) (by kernel_rfl) (by kernel_rfl) (fun _ _ _ h => h) (Gives.load (by rfl) ?_) (fun _ => hHeld) ?_
                  rotate_left
                  · intro w hSw
                    clear hSw
                    go_simp
                    try with_reducible rfl
                  try simp only [Act.put, List.getElem_toArray, List.getElem_cons_succ, List.getElem_cons_zero, List.setIfInBounds_toArray, List.set_cons_zero, List.set_cons_succ]
                  refine wpLate_done (by kernel_rfl) ?_ _
                  go_wp2_with fail
                  go_meet
                  exact ⟨_, A6, c6, rfl, rfl, blk7_set nb3 (.bool (dup && E)) (.bool ret) (.int .u8 (Q : Int)) (.int .u32 (i2 : Int)) (.slice A6 1 c6) (.string ⟨(lettersB (t.take 20)).toArray⟩) (.string ⟨(y.take 50).toArray⟩), hv6.fr fs (fun k hk => by have h1 := hge k hk; have h2 := ALT; simp; omega), fs.blk ((f3).blk HBz.out (by simp)) (by have := FSZ; simp; omega), (HVz.out.fr (f3) (by simp)).fr fs (fun k hk => by have h1 := FSZ; simp [Value.ownBlock] at hk; simp; omega), fr7_set (F3.out.trans (fd.trans (f3) (by simp)) (by simp)) (by have := F3.out.size; have := fd.size; have := FSZ; omega) (.bool (dup && E)) (.bool ret) (.int .u8 (Q : Int)) (.int .u32 (i2 : Int)) (.slice A6 1 c6) (.string ⟨(lettersB (t.take 20)).toArray⟩) (.string ⟨(y.take 50).toArray⟩)⟩
                exact AllLate.nil
              exact AllLate.nil
            exact AllLate.nil
          refine AllLate.cons (o := _) rfl (fun K hK => ?_) ?_
          · go_simp
            have f1 := (f0).alloc (.cells #[.bool false, .bool false, .int .u8 0, .int .u32 0, .slice none 0 0, .string ⟨#[]⟩, .string ⟨#[]⟩] 26)
            have nb1 := blk_new (x0) (.cells #[.bool false, .bool false, .int .u8 0, .int .u32 0, .slice none 0 0, .string ⟨#[]⟩, .string ⟨#[]⟩] 26)
            have FSZ : zd.heap.size ≤ (x0).heap.size := (f0).size
            refine hK.out _ _ (fun _ => (blk7_facts ((f1).blk HBz.out (by simp))).1) (fun hHeld => ?_)
            replace hHeld := hHeld (by kernel_rfl)
            clear hK K
            try simp only [Act.put, List.getElem_toArray, List.getElem_cons_succ, List.getElem_cons_zero, List.setIfInBounds_toArray, List.set_cons_zero, List.set_cons_succ]
            refine wpLate_ready (rs := [3]) (by kernel_rfl) (by simp) ?_
            refine AllLate.cons (o := _) rfl (fun K hK => ?_) ?_
            · go_simp
              refine (ptext_any ⟨dup && E, ret, Q, i2, [letP 3 (s0.take 20)], (lettersB (t.take 20)), (y.take 50)⟩ (.slice (some ⟨g, 0, none⟩) 1 1) _ (by show Q < 256; omega) (by show i2 < _; have := HI.out.2; omega) (HVz.out.fr (f1) (by simp)) (by show (1 : Nat) ≤ 1000; omega) (let_long 3 (s0.take 20) (by have := List.length_take_le 20 s0; omega)) (by show (lettersB (t.take 20)).length ≤ _; rw [lettersB_len]; omega) (by show (y.take 50).length ≤ _; omega)).mono ?_
              rintro _ x2 ⟨rfl, f⟩
              go_wp2_with fail
              have f2 := (f1).trans f (by simp)
              have nb2 := f.blk nb1 (by simp)
              clear f
              refine hK.out _ _ (fun _ => (blk7_facts ((f2).blk HBz.out (by simp))).1) (fun hHeld => ?_)
              replace hHeld := hHeld (by kernel_rfl)
              clear hK K
              try simp only [Act.put, List.getElem_toArray, List.getElem_cons_succ, List.getElem_cons_zero, List.setIfInBounds_toArray, List.set_cons_zero, List.set_cons_succ]
              refine wpLate_ready (rs := [4]) (by kernel_rfl) (by simp) ?_
              refine AllLate.cons (o := _) rfl (fun K hK => ?_) ?_
              · go_simp
                have ALT : (x0).heap.size < _ := blk_lt nb2
                refine (pparse_any _ _ _ HFQ.out HLT.out).mono ?_
                rw [HPB.out]
                rintro _ x3 ⟨v6, rfl, o6, f⟩
                obtain ⟨A6, c6, rfl⟩ := own_shape o6
                have hv6 := own_view o6
                have hge := own_ge2 o6
                dsimp only [List.length_singleton] at hv6 hge
                unfold pbC
                dsimp only [List.length_singleton]
                go_wp2_with fail
                have f3 := (f2).trans f (by simp)
                have nb3 := f.blk nb2 (by simp)
                clear f
                refine hK.out _ _ (fun _ => (blk7_facts ((f3).blk HBz.out (by simp))).1) (fun hHeld => ?_)
                replace hHeld := hHeld (by kernel_rfl)
                clear hK K
                try simp only [Act.put, List.getElem_toArray, List.getElem_cons_succ, List.getElem_cons_zero, List.setIfInBounds_toArray, List.set_cons_zero, List.set_cons_succ]
                refine wpLate_pure (i := 5) (oi := _) (v := ?_) rfl (by kernel_rfl) (by kernel_rfl) (by kernel_rfl) (by kernel_rfl) (fun _ _ _ h => h) (Gives.load (by rfl) ?_) (fun _ => hHeld) ?_
                rotate_left
                · intro w hSw
                  clear hSw
                  go_simp
                  try with_reducible rfl
                try simp only [Act.put, List.getElem_toArray, List.getElem_cons_succ, List.getElem_cons_zero, List.setIfInBounds_toArray, List.set_cons_zero, List.set_cons_succ]
                refine wpLate_pure (i := 6) (oi := _) (v := ?_) rfl (by kernel_rfl) (by kernel_rfl) (by kernel_rfl) (by kernel_rfl) (fun _ _ _ h => h) (Gives.load (by rfl) ?_) (fun _ => hHeld) ?_
                rotate_left
                · intro w hSw
                  clear hSw
                  go_simp
                  try with_reducible rfl
                try simp only [Act.put, List.getElem_toArray, List.getElem_cons_succ, List.getElem_cons_zero, List.setIfInBounds_toArray, List.set_cons_zero, List.set_cons_succ]
                refine wpLate_pure (i := 7) (oi := _) (v := ?_) rfl (by kernel_rfl) (by kernel_rfl) (by kernel_rfl) (by kernel_rfl) (fun _ _ _ h => h) (Gives.load (by rfl) ?_) (fun _ => hHeld) ?_
                rotate_left
                · intro w hSw
                  clear hSw
                  go_simp
                  try with_reducible rfl
                try simp only [Act.put, List.getElem_toArray, List.getElem_cons_succ, List.getElem_cons_zero, List.setIfInBounds_toArray, List.set_cons_zero, List.set_cons_succ]
                refine wpLate_ready (rs := [9]) (by kernel_rfl) (by simp) ?_
                refine AllLate.cons (o := _) rfl (fun K hK => ?_) ?_
                · obtain ⟨⟨n0, n1, n2, n3, n4, n5, n6⟩, ⟨m0, m1, m2, m3, m4, m5, m6⟩, nl⟩ := blk7_facts nb3
                  have fs := set7_fr x3 ((x0).heap.size) (.bool (dup && E)) (.bool ret) (.int .u8 (Q : Int)) (.int .u32 (i2 : Int)) (.slice A6 1 c6) (.string ⟨(lettersB (t.take 20)).toArray⟩) (.string ⟨(y.take 50).toArray⟩)
                  have hbz := blk_lt HBz.out
                  have hgz := glt.out
                  go_simp
                  change K _ (set7 x3 ((x0).heap.size) (.bool (dup && E)) (.bool ret) (.int .u8 (Q : Int)) (.int .u32 (i2 : Int)) (.slice A6 1 c6) (.string ⟨(lettersB (t.take 20)).toArray⟩) (.string ⟨(y.take 50).toArray⟩))
                  refine hK.out _ _ (fun _ => (blk7_facts (fs.blk ((f3).blk HBz.out (by simp)) (by have := FSZ; simp; omega))).1) (fun hHeld => ?_)
                  replace hHeld := hHeld (by kernel_rfl)
                  clear hK K
                  try simp only [Act.put, List.getElem_toArray, List.getElem_cons_succ, List.getElem_cons_zero, List.setIfInBounds_toArray, List.set_cons_zero, List.set_cons_succ]
                  refine wpLate_pure (i := 10) (oi := _) (v := ?_) rfl (by kernel_rfl) (by kernel_rfl) (by kernel_rfl) (by kernel_rfl) (fun _ _ _ h => h) (Gives.load (by rfl) ?_) (fun _ => hHeld) ?_
                  rotate_left
                  · intro w hSw
                    clear hSw
                    go_simp
                    try with_reducible rfl
                  try simp only [Act.put, List.getElem_toArray, List.getElem_cons_succ, List.getElem_cons_zero, List.setIfInBounds_toArray, List.set_cons_zero, List.set_cons_succ]
                  refine wpLate_done (by kernel_rfl) ?_ _
                  go_wp2_with fail
                  go_meet
                  exact ⟨_, A6, c6, rfl, rfl, blk7_set nb3 (.bool (dup && E)) (.bool ret) (.int .u8 (Q : Int)) (.int .u32 (i2 : Int)) (.slice A6 1 c6) (.string ⟨(lettersB (t.take 20)).toArray⟩) (.string ⟨(y.take 50).toArray⟩), hv6.fr fs (fun k hk => by have h1 := hge k hk; have h2 := ALT; simp; omega), fs.blk ((f3).blk HBz.out (by simp)) (by have := FSZ; simp; omega), (HVz.out.fr (f3) (by simp)).fr fs (fun k hk => by have h1 := FSZ; simp [Value.ownBlock] at hk; simp; omega), fr7_set (F3.out.trans (fd.trans (f3) (by simp)) (by simp)) (by have := F3.out.size; have := fd.size; have := FSZ; omega) (.bool (dup && E)) (.bool ret) (.int .u8 (Q : Int)) (.int .u32 (i2 : Int)) (.slice A6 1 c6) (.string ⟨(lettersB (t.take 20)).toArray⟩) (.string ⟨(y.take 50).toArray⟩)⟩
                exact AllLate.nil
              exact AllLate.nil
            exact AllLate.nil
          exact AllLate.nil
        refine AllLate.cons (o := _) rfl (fun K hK => ?_) ?_
        · go_simp
          have f0 := (Fr.refl [] zd).alloc (.cells #[.bool false, .bool false, .int .u8 0, .int .u32 0, .slice none 0 0, .string ⟨#[]⟩, .string ⟨#[]⟩] 26)
          have nb0 := blk_new (zd) (.cells #[.bool false, .bool false, .int .u8 0, .int .u32 0, .slice none 0 0, .string ⟨#[]⟩, .string ⟨#[]⟩] 26)
          have FSZ : zd.heap.size ≤ (zd).heap.size := (Fr.refl [] zd).size
          refine hK.out _ _ (fun _ => (blk7_facts ((f0).blk HBz.out (by simp))).1) (fun hHeld => ?_)
          replace hHeld := hHeld (by kernel_rfl)
          clear hK K
          try simp only [Act.put, List.getElem_toArray, List.getElem_cons_succ, List.getElem_cons_zero, List.setIfInBounds_toArray, List.set_cons_zero, List.set_cons_succ]
          refine wpLate_ready (rs := [1]) (by kernel_rfl) (by simp) ?_
          refine AllLate.cons (o := _) rfl (fun K hK => ?_) ?_
          · go_simp
            refine (pflags_any ⟨dup && E, ret, Q, i2, [letP 3 (s0.take 20)], (lettersB (t.take 20)), (y.take 50)⟩ (.slice (some ⟨g, 0, none⟩) 1 1) _ (by show Q < 256; omega)).mono ?_
            rintro _ x1 ⟨rfl, f⟩
            go_wp2_with fail
            have f1 := (f0).trans f (by simp)
            have nb1 := f.blk nb0 (by simp)
            clear f
            refine hK.out _ _ (fun _ => (blk7_facts ((f1).blk HBz.out (by simp))).1) (fun hHeld => ?_)
            replace hHeld := hHeld (by kernel_rfl)
            clear hK K
            try simp only [Act.put, List.getElem_toArray, List.getElem_cons_succ, List.getElem_cons_zero, List.setIfInBounds_toArray, List.set_cons_zero, List.set_cons_succ]
            refine wpLate_ready (rs := [3]) (by kernel_rfl) (by simp) ?_
            refine AllLate.cons (o := _) rfl (fun K hK => ?_) ?_
            · go_simp
              refine (ptext_any ⟨dup && E, ret, Q, i2, [letP 3 (s0.take 20)], (lettersB (t.take 20)), (y.take 50)⟩ (.slice (some ⟨g, 0, none⟩) 1 1) _ (by show Q < 256; omega) (by show i2 < _; have := HI.out.2; omega) (HVz.out.fr (f1) (by simp)) (by show (1 : Nat) ≤ 1000; omega) (let_long 3 (s0.take 20) (by have := List.length_take_le 20 s0; omega)) (by show (lettersB (t.take 20)).length ≤ _; rw [lettersB_len]; omega) (by show (y.take 50).length ≤ _; omega)).mono ?_
              rintro _ x2 ⟨rfl, f⟩
              go_wp2_with fail
              have f2 := (f1).trans f (by simp)
              have nb2 := f.blk nb1 (by simp)
              clear f
              refine hK.out _ _ (fun _ => (blk7_facts ((f2).blk HBz.out (by simp))).1) (fun hHeld => ?_)
              replace hHeld := hHeld (by kernel_rfl)
              clear hK K
              try simp only [Act.put, List.getElem_toArray, List.getElem_cons_succ, List.getElem_cons_zero, List.setIfInBounds_toArray, List.set_cons_zero, List.set_cons_succ]
              refine wpLate_ready (rs := [4]) (by kernel_rfl) (by simp) ?_
              refine AllLate.cons (o := _) rfl (fun K hK => ?_) ?_
              · go_simp
                have ALT : (zd).heap.size < _ := blk_lt nb2
                refine (pparse_any _ _ _ HFQ.out HLT.out).mono ?_
                rw [HPB.out]
                rintro _ x3 ⟨v6, rfl, o6, f⟩
                obtain ⟨A6, c6, rfl⟩ := own_shape o6
                have hv6 := own_view o6
                have hge := own_ge2 o6
                dsimp only [List.length_singleton] at hv6 hge
                unfold pbC
                dsimp only [List.length_singleton]
                go_wp2_with fail
                have f3 := (f2).trans f (by simp)
                have nb3 := f.blk nb2 (by simp)
                clear f
                refine hK.out _ _ (fun _ => (blk7_facts ((f3).blk HBz.out (by simp))).1) (fun hHeld => ?_)
                replace hHeld := hHeld (by kernel_rfl)
                clear hK K
                try simp only [Act.put, List.getElem_toArray, List.getElem_cons_succ, List.getElem_cons_zero, List.setIfInBounds_toArray, List.set_cons_zero, List.set_cons_succ]
                refine wpLate_pure (i := 5) (oi := _) (v := ?_) rfl (by kernel_rfl) (by kernel_rfl) (by kernel_rfl) (by kernel_rfl) (fun _ _ _ h => h) (Gives.load (by rfl) ?_) (fun _ => hHeld) ?_
                rotate_left
                · intro w hSw
                  clear hSw
                  go_simp
                  try with_reducible rfl
                try simp only [Act.put, List.getElem_toArray, List.getElem_cons_succ, List.getElem_cons_zero, List.setIfInBounds_toArray, List.set_cons_zero, List.set_cons_succ]
                refine wpLate_pure (i := 6) (oi := _) (v := ?_) rfl (by kernel_rfl) (by kernel_rfl) (by kernel_rfl) (by kernel_rfl) (fun _ _ _ h => h) (Gives.load (by rfl) ?_) (fun _ => hHeld) ?_
                rotate_left
                · intro w hSw
                  clear hSw
                  go_simp
                  try with_reducible rfl
                try simp only [Act.put, List.getElem_toArray, List.getElem_cons_succ, List.getElem_cons_zero, List.setIfInBounds_toArray, List.set_cons_zero, List.set_cons_succ]
                refine wpLate_pure (i := 7) (oi := _) (v := ?_) rfl (by kernel_rfl) (by kernel_rfl) (by kernel_rfl) (by kernel_rfl) (fun _ _ _ h => h) (Gives.load (by rfl) ?_) (fun _ => hHeld) ?_
                rotate_left
                · intro w hSw
                  clear hSw
                  go_simp
                  try with_reducible rfl
                try simp only [Act.put, List.getElem_toArray, List.getElem_cons_succ, List.getElem_cons_zero, List.setIfInBounds_toArray, List.set_cons_zero, List.set_cons_succ]
                refine wpLate_ready (rs := [9]) (by kernel_rfl) (by simp) ?_
                refine AllLate.cons (o := _) rfl (fun K hK => ?_) ?_
                · obtain ⟨⟨n0, n1, n2, n3, n4, n5, n6⟩, ⟨m0, m1, m2, m3, m4, m5, m6⟩, nl⟩ := blk7_facts nb3
                  have fs := set7_fr x3 ((zd).heap.size) (.bool (dup && E)) (.bool ret) (.int .u8 (Q : Int)) (.int .u32 (i2 : Int)) (.slice A6 1 c6) (.string ⟨(lettersB (t.take 20)).toArray⟩) (.string ⟨(y.take 50).toArray⟩)
                  have hbz := blk_lt HBz.out
                  have hgz := glt.out
                  go_simp
                  change K _ (set7 x3 ((zd).heap.size) (.bool (dup && E)) (.bool ret) (.int .u8 (Q : Int)) (.int .u32 (i2 : Int)) (.slice A6 1 c6) (.string ⟨(lettersB (t.take 20)).toArray⟩) (.string ⟨(y.take 50).toArray⟩))
                  refine hK.out _ _ (fun _ => (blk7_facts (fs.blk ((f3).blk HBz.out (by simp)) (by have := FSZ; simp; omega))).1) (fun hHeld => ?_)
                  replace hHeld := hHeld (by kernel_rfl)
                  clear hK K
                  try simp only [Act.put, List.getElem_toArray, List.getElem_cons_succ, List.getElem_cons_zero, List.setIfInBounds_toArray, List.set_cons_zero, List.set_cons_succ]
                  refine wpLate_pure (i := 10) (oi := _) (v := ?_) rfl (by kernel_rfl) (by kernel_rfl) (by kernel_rfl) (by kernel_rfl) (fun _ _ _ h => h) (Gives.load (by rfl) ?_) (fun _ => hHeld) ?_
                  rotate_left
                  · intro w hSw
                    clear hSw
                    go_simp
                    try with_reducible rfl
                  try simp only [Act.put, List.getElem_toArray, List.getElem_cons_succ, List.getElem_cons_zero, List.setIfInBounds_toArray, List.set_cons_zero, List.set_cons_succ]
                  refine wpLate_done (by kernel_rfl) ?_ _
                  go_wp2_with fail
                  go_meet
                  exact ⟨_, A6, c6, rfl, rfl, blk7_set nb3 (.bool (dup && E)) (.bool ret) (.int .u8 (Q : Int)) (.int .u32 (i2 : Int)) (.slice A6 1 c6) (.string ⟨(lettersB (t.take 20)).toArray⟩) (.string ⟨(y.take 50).toArray⟩), hv6.fr fs (fun k hk => by have h1 := hge k hk; have h2 := ALT; simp; omega), fs.blk ((f3).blk HBz.out (by simp)) (by have := FSZ; simp; omega), (HVz.out.fr (f3) (by simp)).fr fs (fun k hk => by have h1 := FSZ; simp [Value.ownBlock] at hk; simp; omega), fr7_set (F3.out.trans (fd.trans (f3) (by simp)) (by simp)) (by have := F3.out.size; have := fd.size; have := FSZ; omega) (.bool (dup && E)) (.bool ret) (.int .u8 (Q : Int)) (.int .u32 (i2 : Int)) (.slice A6 1 c6) (.string ⟨(lettersB (t.take 20)).toArray⟩) (.string ⟨(y.take 50).toArray⟩)⟩
                exact AllLate.nil
              exact AllLate.nil
            exact AllLate.nil
          exact AllLate.nil
        exact AllLate.nil
      case rest =>
        obtain ⟨o, A6, c6, rfl, rfl, hbo, hvo, hbb, hvx, F4⟩ := hcut
        clear F3 HB HVX HGL HPB HLT e0 e1 e2 e3 e4 e5 e6
        generalize wc = z3 at *
        have F4 := Lib.hid F4
        have HO := Lib.hid hbo
        have HVO := Lib.hid hvo
        have HB := Lib.hid hbb
        have HVX := Lib.hid hvx
        clear hbo hvo hbb hvx
        go_wp2_with fail
        refine (rcodes_any (k : Int) _).mono ?_
        rintro _ z4 ⟨cc, rfl, hcs, hcz, f4⟩
        have hL0 := (codes_ne (k : Int) (by omega) (by omega)).1
        have hL9 := (codes_ne (k : Int) (by omega) (by omega)).2
        have HMY := Lib.hid (codes_may (k : Int))
        generalize codesB (k : Int) = CS at *
        have HCS := Lib.hid hcs
        have HCZ := Lib.hid hcz
        obtain ⟨⟨e0, e1, e2, e3, e4, e5, e6⟩, _, _⟩ := blk7_facts (f4.blk HB.out (by simp))
        obtain ⟨⟨d0, d1, d2, d3, d4, d5, d6⟩, _, _⟩ := blk7_facts (f4.blk HO.out (by simp))
        have HG4 := Lib.hid f4
        clear hcs hcz f4
        go_upto_region 9 with (fail)
        refine wp_region_late [] (S := fun w' => (w'.cell? ⟨b, 0, none⟩ = some (.bool (dup && E)) ∧ w'.cell? ⟨b, 1, none⟩ = some (.bool ret) ∧ w'.cell? ⟨b, 2, none⟩ = some (.int .u8 (Q : Int)) ∧ w'.cell? ⟨b, 3, none⟩ = some (.int .u32 (i2 : Int)) ∧ w'.cell? ⟨b, 4, none⟩ = some (.slice (some ⟨g, 0, none⟩) 1 1) ∧ w'.cell? ⟨b, 5, none⟩ = some (.string ⟨(lettersB (t.take 20)).toArray⟩) ∧ w'.cell? ⟨b, 6, none⟩ = some (.string ⟨(y.take 50).toArray⟩)) ∧ (w'.cell? ⟨o, 0, none⟩ = some (.bool (dup && E)) ∧ w'.cell? ⟨o, 1, none⟩ = some (.bool ret) ∧ w'.cell? ⟨o, 2, none⟩ = some (.int .u8 (Q : Int)) ∧ w'.cell? ⟨o, 3, none⟩ = some (.int .u32 (i2 : Int)) ∧ w'.cell? ⟨o, 4, none⟩ = some (.slice A6 1 c6) ∧ w'.cell? ⟨o, 5, none⟩ = some (.string ⟨(lettersB (t.take 20)).toArray⟩) ∧ w'.cell? ⟨o, 6, none⟩ = some (.string ⟨(y.take 50).toArray⟩))) (by kernel_rfl) ⟨⟨e0, e1, e2, e3, e4, e5, e6⟩, ⟨d0, d1, d2, d3, d4, d5, d6⟩⟩ (fun hHeld => ?_)
        have fd := (Fr.refl [] z4).drew
        have hbd := fd.blk (HG4.out.blk HB.out (by simp)) (by simp)
        have hod := fd.blk (HG4.out.blk HO.out (by simp)) (by simp)
        have hvd := (HVX.out.fr HG4.out (by simp)).fr fd (by simp)
        have hud := (HVO.out.fr HG4.out (by simp)).fr fd (by simp)
        obtain ⟨zd, hzd⟩ : ∃ zd, z4.drew = zd := ⟨_, rfl⟩
        rw [hzd] at hHeld fd hbd hod hvd hud ⊢
        clear hzd e0 e1 e2 e3 e4 e5 e6 d0 d1 d2 d3 d4 d5 d6
        have HBz := Lib.hid hbd
        have HOz := Lib.hid hod
        have HVz := Lib.hid hvd
        have HUz := Lib.hid hud
        clear hbd hod hvd hud
        refine wpLate_take (i := 0) (oi := _) (v := ?_) rfl (by kernel_rfl) (by kernel_rfl) (by kernel_rfl) (by kernel_rfl) (fun _ _ _ h => h) (Gives.load (by rfl) ?_) hHeld ?_
        rotate_left
        · intro w hSw
          (try dsimp only at hSw)
          go_simp
          try with_reducible rfl
        try simp only [Act.put, List.getElem_toArray, List.getElem_cons_succ, List.getElem_cons_zero, List.setIfInBounds_toArray, List.set_cons_zero, List.set_cons_succ]
        refine wpLate_take (i := 1) (oi := _) (v := ?_) rfl (by kernel_rfl) (by kernel_rfl) (by kernel_rfl) (by kernel_rfl) (fun _ _ _ h => h) (Gives.load (by rfl) ?_) hHeld ?_
        rotate_left
        · intro w hSw
          (try dsimp only at hSw)
          go_simp
          try with_reducible rfl
        try simp only [Act.put, List.getElem_toArray, List.getElem_cons_succ, List.getElem_cons_zero, List.setIfInBounds_toArray, List.set_cons_zero, List.set_cons_succ]
        refine wpLate_take (i := 2) (oi := _) (v := ?_) rfl (by kernel_rfl) (by kernel_rfl) (by kernel_rfl) (by kernel_rfl) (fun _ _ _ h => h) (Gives.load (by rfl) ?_) hHeld ?_
        rotate_left
        · intro w hSw
          (try dsimp only at hSw)
          go_simp
          try with_reducible rfl
        try simp only [Act.put, List.getElem_toArray, List.getElem_cons_succ, List.getElem_cons_zero, List.setIfInBounds_toArray, List.set_cons_zero, List.set_cons_succ]
        refine wpLate_take (i := 3) (oi := _) (v := ?_) rfl (by kernel_rfl) (by kernel_rfl) (by kernel_rfl) (by kernel_rfl) (fun _ _ _ h => h) (Gives.load (by rfl) ?_) hHeld ?_
        rotate_left
        · intro w hSw
          (try dsimp only at hSw)
          go_simp
          try with_reducible rfl
        try simp only [Act.put, List.getElem_toArray, List.getElem_cons_succ, List.getElem_cons_zero, List.setIfInBounds_toArray, List.set_cons_zero, List.set_cons_succ]
        refine wpLate_take (i := 5) (oi := _) (v := ?_) rfl (by kernel_rfl) (by kernel_rfl) (by kernel_rfl) (by kernel_rfl) (fun _ _ _ h => h) (Gives.load (by rfl) ?_) hHeld ?_
        rotate_left
        · intro w hSw
          (try dsimp only at hSw)
          go_simp
          try with_reducible rfl
        try simp only [Act.put, List.getElem_toArray, List.getElem_cons_succ, List.getElem_cons_zero, List.setIfInBounds_toArray, List.set_cons_zero, List.set_cons_succ]
        refine wpLate_ready (rs := [4]) (by kernel_rfl) (by simp) ?_
        refine AllLate.cons (o := _) rfl (fun K hK => ?_) ?_
        · go_simp
          refine (told7_any ⟨dup && E, ret, Q, i2, [letP 3 (s0.take 20)], (lettersB (t.take 20)), (y.take 50)⟩ (.slice A6 1 c6) _ HUz.out (by show (1 : Nat) ≤ _; omega)).mono ?_
          rintro _ y1 ⟨v1, rfl, o1, f⟩
          go_wp2_with fail
          have f1 := (Fr.refl [] zd).trans f (by simp)
          have hv1 := own_view o1
          clear f o1
          refine hK.out _ _ (fun _ => ⟨(blk7_facts ((f1).blk HBz.out (by simp))).1, (blk7_facts ((f1).blk HOz.out (by simp))).1⟩) (fun hHeld => ?_)
          replace hHeld := hHeld (by kernel_rfl)
          clear hK K
          try simp only [Act.put, List.getElem_toArray, List.getElem_cons_succ, List.getElem_cons_zero, List.setIfInBounds_toArray, List.set_cons_zero, List.set_cons_succ]
          refine wpLate_ready (rs := [6]) (by kernel_rfl) (by simp) ?_
          refine AllLate.cons (o := _) rfl (fun K hK => ?_) ?_
          · go_simp
            refine (told7_any ⟨dup && E, ret, Q, i2, [letP 3 (s0.take 20)], (lettersB (t.take 20)), (y.take 50)⟩ (.slice (some ⟨g, 0, none⟩) 1 1) _ (HVz.out.fr f1 (by simp)) (by show (1 : Nat) ≤ _; omega)).mono ?_
            rintro _ y2 ⟨v2, rfl, o2, f⟩
            go_wp2_with fail
            have f2 := f1.trans f (by simp)
            have hv1 := hv1.fr f (by simp)
            have hv2 := own_view o2
            clear f o2
            refine hK.out _ _ (fun _ => ⟨(blk7_facts ((f2).blk HBz.out (by simp))).1, (blk7_facts ((f2).blk HOz.out (by simp))).1⟩) (fun hHeld => ?_)
            replace hHeld := hHeld (by kernel_rfl)
            clear hK K
            try simp only [Act.put, List.getElem_toArray, List.getElem_cons_succ, List.getElem_cons_zero, List.setIfInBounds_toArray, List.set_cons_zero, List.set_cons_succ]
            refine wpLate_ready (rs := [7]) (by kernel_rfl) (by simp) ?_
            refine AllLate.cons (o := _) rfl (fun K hK => ?_) ?_
            · go_simp
              refine (same7_any ⟨dup && E, ret, Q, i2, [letP 3 (s0.take 20)], (lettersB (t.take 20)), (y.take 50)⟩ v1 v2 _ hv1 hv2 (by show (1 : Nat) ≤ _; omega)).mono ?_
              rintro _ y3 ⟨rfl, f⟩
              go_wp2_with fail
              have f3 := f2.trans f (by simp)
              clear f hv1 hv2
              refine hK.out _ _ (fun _ => ⟨(blk7_facts ((f3).blk HBz.out (by simp))).1, (blk7_facts ((f3).blk HOz.out (by simp))).1⟩) (fun hHeld => ?_)
              replace hHeld := hHeld (by kernel_rfl)
              clear hK K
              try simp only [Act.put, List.getElem_toArray, List.getElem_cons_succ, List.getElem_cons_zero, List.setIfInBounds_toArray, List.set_cons_zero, List.set_cons_succ]
              refine wpLate_pure (i := 8) (oi := _) (v := ?_) rfl (by kernel_rfl) (by kernel_rfl) (by kernel_rfl) (by kernel_rfl) (fun _ _ _ h => h) (Gives.load (by rfl) ?_) (fun _ => hHeld) ?_
              rotate_left
              · intro w hSw
                clear hSw
                go_simp
                try with_reducible rfl
              try simp only [Act.put, List.getElem_toArray, List.getElem_cons_succ, List.getElem_cons_zero, List.setIfInBounds_toArray, List.set_cons_zero, List.set_cons_succ]
              refine wpLate_pure (i := 9) (oi := _) (v := ?_) rfl (by kernel_rfl) (by kernel_rfl) (by kernel_rfl) (by kernel_rfl) (fun _ _ _ h => h) (Gives.load (by rfl) ?_) (fun _ => hHeld) ?_
              rotate_left
              · intro w hSw
                clear hSw
                go_simp
                try with_reducible rfl
              try simp only [Act.put, List.getElem_toArray, List.getElem_cons_succ, List.getElem_cons_zero, List.setIfInBounds_toArray, List.set_cons_zero, List.set_cons_succ]
              refine wpLate_pure (i := 10) (oi := _) (v := ?_) rfl (by kernel_rfl) (by kernel_rfl) (by kernel_rfl) (by kernel_rfl) (fun _ _ _ h => h) (Gives.load (by rfl) ?_) (fun _ => hHeld) ?_
              rotate_left
              · intro w hSw
                clear hSw
                go_simp
                try with_reducible rfl
              try simp only [Act.put, List.getElem_toArray, List.getElem_cons_succ, List.getElem_cons_zero, List.setIfInBounds_toArray, List.set_cons_zero, List.set_cons_succ]
              refine wpLate_take (i := 11) (oi := _) (v := ?_) rfl (by kernel_rfl) (by kernel_rfl) (by kernel_rfl) (by kernel_rfl) (fun _ _ _ h => h) (Gives.load (by rfl) ?_) hHeld ?_
              rotate_left
              · intro w hSw
                (try dsimp only at hSw)
                go_simp
                try with_reducible rfl
              try simp only [Act.put, List.getElem_toArray, List.getElem_cons_succ, List.getElem_cons_zero, List.setIfInBounds_toArray, List.set_cons_zero, List.set_cons_succ]
              refine wpLate_ready (rs := [12]) (by kernel_rfl) (by simp) ?_
              refine AllLate.cons (o := _) rfl (fun K hK => ?_) ?_
              · go_simp
                refine (pflags_any ⟨dup && E, ret, Q, i2, [letP 3 (s0.take 20)], (lettersB (t.take 20)), (y.take 50)⟩ (.slice (some ⟨g, 0, none⟩) 1 1) _ (by show Q < 256; omega)).mono ?_
                rintro _ y4 ⟨rfl, f⟩
                go_wp2_with fail
                have f4 := f3.trans f (by simp)
                clear f
                refine hK.out _ _ (fun _ => ⟨(blk7_facts ((f4).blk HBz.out (by simp))).1, (blk7_facts ((f4).blk HOz.out (by simp))).1⟩) (fun hHeld => ?_)
                replace hHeld := hHeld (by kernel_rfl)
                clear hK K
                try simp only [Act.put, List.getElem_toArray, List.getElem_cons_succ, List.getElem_cons_zero, List.setIfInBounds_toArray, List.set_cons_zero, List.set_cons_succ]
                refine wpLate_pure (i := 13) (oi := _) (v := .int .i64 0) rfl (by kernel_rfl) (by kernel_rfl) (by kernel_rfl) (by kernel_rfl) (fun _ _ _ h => h) (Gives.quiet 37 #[.int .i64 3, .int .i64 (pbFlags ⟨dup && E, ret, Q, i2, [letP 3 (s0.take 20)], (lettersB (t.take 20)), (y.take 50)⟩ : Int)] (by rfl) ?_ (fun w => (check_any 3 (pbFlags ⟨dup && E, ret, Q, i2, [letP 3 (s0.take 20)], (lettersB (t.take 20)), (y.take 50)⟩ : Int) w (by omega) (by have := HFQ.out; omega)).mono (fun e w' h => by rw [HCK.out] at h; exact h))) (fun _ => hHeld) ?_
                · intro w
                  go_simp
                try simp only [Act.put, List.getElem_toArray, List.getElem_cons_succ, List.getElem_cons_zero, List.setIfInBounds_toArray, List.set_cons_zero, List.set_cons_succ]
                refine wpLate_pure (i := 14) (oi := _) (v := ?_) rfl (by kernel_rfl) (by kernel_rfl) (by kernel_rfl) (by kernel_rfl) (fun _ _ _ h => h) (Gives.load (by rfl) ?_) (fun _ => hHeld) ?_
                rotate_left
                · intro w hSw
                  clear hSw
                  go_simp
                  try with_reducible rfl
                try simp only [Act.put, List.getElem_toArray, List.getElem_cons_succ, List.getElem_cons_zero, List.setIfInBounds_toArray, List.set_cons_zero, List.set_cons_succ]
                refine wpLate_pure (i := 15) (oi := _) (v := ?_) rfl (by kernel_rfl) (by kernel_rfl) (by kernel_rfl) (by kernel_rfl) (fun _ _ _ h => h) (Gives.load (by rfl) ?_) (fun _ => hHeld) ?_
                rotate_left
                · intro w hSw
                  clear hSw
                  go_simp
                  try with_reducible rfl
                try simp only [Act.put, List.getElem_toArray, List.getElem_cons_succ, List.getElem_cons_zero, List.setIfInBounds_toArray, List.set_cons_zero, List.set_cons_succ]
                refine wpLate_pure (i := 16) (oi := _) (v := ?_) rfl (by kernel_rfl) (by kernel_rfl) (by kernel_rfl) (by kernel_rfl) (fun _ _ _ h => h) (Gives.load (by rfl) ?_) (fun _ => hHeld) ?_
                rotate_left
                · intro w hSw
                  clear hSw
                  go_simp
                  try with_reducible rfl
                try simp only [Act.put, List.getElem_toArray, List.getElem_cons_succ, List.getElem_cons_zero, List.setIfInBounds_toArray, List.set_cons_zero, List.set_cons_succ]
                refine wpLate_pure (i := 17) (oi := _) (v := ?_) rfl (by kernel_rfl) (by kernel_rfl) (by kernel_rfl) (by kernel_rfl) (fun _ _ _ h => h) (Gives.load (by rfl) ?_) (fun _ => hHeld) ?_
                rotate_left
                · intro w hSw
                  clear hSw
                  go_simp
                  try with_reducible rfl
                try simp only [Act.put, List.getElem_toArray, List.getElem_cons_succ, List.getElem_cons_zero, List.setIfInBounds_toArray, List.set_cons_zero, List.set_cons_succ]
                refine wpLate_pure (i := 18) (oi := _) (v := ?_) rfl (by kernel_rfl) (by kernel_rfl) (by kernel_rfl) (by kernel_rfl) (fun _ _ _ h => h) (Gives.load (by rfl) ?_) (fun _ => hHeld) ?_
                rotate_left
                · intro w hSw
                  clear hSw
                  go_simp
                  try with_reducible rfl
                try simp only [Act.put, List.getElem_toArray, List.getElem_cons_succ, List.getElem_cons_zero, List.setIfInBounds_toArray, List.set_cons_zero, List.set_cons_succ]
                refine wpLate_pure (i := 19) (oi := _) (v := ?_) rfl (by kernel_rfl) (by kernel_rfl) (by kernel_rfl) (by kernel_rfl) (fun _ _ _ h => h) (Gives.load (by rfl) ?_) (fun _ => hHeld) ?_
                rotate_left
                · intro w hSw
                  clear hSw
                  go_simp
                  try with_reducible rfl
                try simp only [Act.put, List.getElem_toArray, List.getElem_cons_succ, List.getElem_cons_zero, List.setIfInBounds_toArray, List.set_cons_zero, List.set_cons_succ]
                refine wpLate_pure (i := 20) (oi := _) (v := ?_) rfl (by kernel_rfl) (by kernel_rfl) (by kernel_rfl) (by kernel_rfl) (fun _ _ _ h => h) (Gives.load (by rfl) ?_) (fun _ => hHeld) ?_
                rotate_left
                · intro w hSw
                  clear hSw
                  go_simp
                  try with_reducible rfl
                try simp only [Act.put, List.getElem_toArray, List.getElem_cons_succ, List.getElem_cons_zero, List.setIfInBounds_toArray, List.set_cons_zero, List.set_cons_succ]
                refine wpLate_done (by kernel_rfl) ?_ _
                have FZ := Lib.hid (F4.out.trans (HG4.out.trans (fd.trans f4 (by simp)) (by simp)) (by simp))
                have HZS := Lib.hid (fd.trans f4 (by simp))
                clear fd f1 f2 f3 f4 hHeld
                obtain ⟨j, hj, hjm⟩ := idx_mod a3 CS.length hL0 hL9
                have hcj := HZS.out.cell (HCS.out j hj) (by simp)
                have hcb : (CS[j]).toNat < 256 := (CS[j]).toNat_lt
                have HMJ := Lib.hid (HMY.out j hj)
                have hA0 := blk_new y4 (.cells #[.int .i64 (k : Int), .int .u32 (n : Int), .int .u8 ((CS[j]).toNat : Int), .slice none 0 0] 28)
                have FA := FZ.out.alloc (.cells #[.int .i64 (k : Int), .int .u32 (n : Int), .int .u8 ((CS[j]).toNat : Int), .slice none 0 0] 28)
                have hzy := FZ.out.size
                clear hHeld HMY HCS HCK HFQ HO HB HVO HVX HCZ HG4 HZS FZ HVz HUz HBz HOz
                obtain ⟨c, hc⟩ : ∃ c, (CS[j]).toNat = c := ⟨_, rfl⟩
                rw [hc] at hcj hcb hA0 FA HMJ
                clear hc
                have hbad : ¬ (¬ (0 ≤ (j : Int) ∧ (j : Int) < (CS.length : Int))) := by omega
                go_upto_if 104 with (fail)
                obtain ⟨z5, hz5⟩ : ∃ z5, y4.alloc (.cells #[.int .i64 (k : Int), .int .u32 (n : Int), .int .u8 (c : Int), .slice none 0 0] 28) = z5 := ⟨_, rfl⟩
                obtain ⟨C, hC⟩ : ∃ C, y4.heap.size = C := ⟨_, rfl⟩
                rw [hz5] at hA0 FA ⊢
                rw [hC] at hA0 hzy ⊢
                clear hz5 hC hcj
                obtain ⟨PS, hPS⟩ : ∃ PS : List Pr, PS = if s0 = [] then [] else [letP 31 (s0.take 20)] := ⟨_, rfl⟩
                go_cut [] (fun wx => ∃ A9 c9, wx.heap[C]? = some (.cells #[.int .i64 (k : Int), .int .u32 (n : Int), .int .u8 (c : Int), .slice A9 PS.length c9] 28 (0, 0)) ∧ View wx (.slice A9 PS.length c9) PS.length (PS.flatMap prE) ∧ Fr [] w wx)
                case first =>
                  have HA0 := Lib.hid hA0
                  have HFA := Lib.hid FA
                  by_cases h0 : s0 = []
                  · rw [if_pos h0] at hPS
                    subst h0
                    subst hPS
                    go_wp2_with fail
                    go_meet
                    exact ⟨none, 0, HA0.out, View.nil _, HFA.out⟩
                  · rw [if_neg h0] at hPS
                    have h0l : 0 < s0.length := List.length_pos_iff.2 h0
                    have h0e : (!s0.isEmpty) = true := by cases s0 with
                      | nil => exact absurd rfl h0
                      | cons a b => rfl
                    subst hPS
                    obtain ⟨⟨e0, e1, e2, e3⟩, ⟨m0, m1, m2, m3⟩, hCl⟩ := blk4_facts hA0
                    go_wp2_with fail
                    refine (letters_law07 s0 w4 _).mono ?_
                    rintro _ z6 ⟨rfl, f6⟩
                    have hC6 := f6.size
                    have hb6 := blk_old (f6.blk HA0.out (by simp)) (.cells #[.int .i64 31, .int .u32 0, .string ⟨(lettersB (s0.take 20)).toArray⟩, .string ⟨#[]⟩] 97)
                    obtain ⟨⟨e0, e1, e2, e3⟩, ⟨m0, m1, m2, m3⟩, _⟩ := blk4_facts hb6
                    go_wp2_with fail
                    go_meet
                    exact ⟨some ⟨z6.heap.size, 0, none⟩, 1, blk_set hb6 3 _, view_cells (blk_far (blk_new z6 _) (by simp; omega) _) (by rfl) 1 1, ((HFA.out.trans f6 (by simp)).alloc _).setCell (Or.inl (by simpa using hzy)) _⟩
                    all_goals exact absurd (h0e.symm.trans ‹(!s0.isEmpty) = false›) (by decide)
                case rest =>
                  obtain ⟨A9, c9, hA, hVA, F6⟩ := hcut
                  clear hA0 FA
                  generalize wc = z7 at *
                  have hs20 : (s0.take 20).length ≤ 20 := List.length_take_le _ _
                  have hPl : PS.length ≤ 1 := by rw [hPS]; split <;> simp
                  have hk : mayB 31 (k : Int) false = true := by
                    have : k = 4 ∨ k = 5 ∨ k = 6 ∨ k = 7 := by omega
                    rcases this with rfl | rfl | rfl | rfl <;> decide
                  have hPO : OkL (k : Int) false PS := by
                    rw [hPS]; split
                    · exact OkL.nil
                    · exact let_ok (k : Int) 31 false (s0.take 20) (by decide) hk hs20
                  have hPB : (putsB PS).length ≤ 100 := by
                    rw [hPS]; split
                    · decide
                    · exact let_small 31 (s0.take 20) hs20
                  have hPN : ∀ x ∈ PS, x.n < 4294967296 ∧ x.s.length ≤ 9223372036854775807 ∧ x.t.length ≤ 9223372036854775807 := by
                    rw [hPS]; split
                    · intro x hx; simp at hx
                    · exact let_long 31 (s0.take 20) (by omega)
                  have hAB := ak_back ⟨(k : Int), n, c, PS⟩ (by show 4 ≤ (k : Int); omega) (by show (k : Int) ≤ 7; omega) hn0 hn1 hcb HMJ.out hPO (by show (putsB PS).length < 128; omega)
                  have hAT : (akText ⟨(k : Int), n, c, PS⟩).length ≤ 1000000 := by
                    have a := varB_len' (putsB PS).length
                    show (two n ++ ((if c ≠ 0 ∨ PS ≠ [] then [b8 c] else []) ++ (if PS ≠ [] then (var (putsB PS).length ++ putsB PS) else []))).length ≤ _
                    split <;> split <;> simp only [List.length_append, two_len, List.length_nil, List.length_singleton] <;> omega
                  have HAB := Lib.hid hAB
                  have HAT := Lib.hid hAT
                  have HVA := Lib.hid hVA
                  have HA := Lib.hid hA
                  have HF6 := Lib.hid F6
                  obtain ⟨⟨e0, e1, e2, e3⟩, _, _⟩ := blk4_facts hA
                  clear hAB hAT hVA hA F6 hPS hPO hPB hk HMJ
                  go_wp2_with fail
                  refine (packtext_any ⟨(k : Int), n, c, PS⟩ (.slice A9 PS.length c9) _ hcb (by show n < _; omega) HVA.out (by show PS.length ≤ 1000; omega) hPN).mono ?_
                  rintro _ z8 ⟨rfl, f8⟩
                  go_wp2_with fail
                  refine (packparse_any (k : Int) _ _ HAT.out).mono ?_
                  rw [HAB.out]
                  rintro _ z9 ⟨v9, rfl, o9, f9⟩
                  dsimp only at o9 ⊢
                  obtain ⟨A5, c5, rfl⟩ := own_shape o9
                  have hv5 := own_view o9
                  unfold akC
                  dsimp only
                  have f89 := (f8.trans f9 (by simp)).alloc (.cells #[.int .i64 (k : Int), .int .u32 (n : Int), .int .u8 (c : Int), .slice A5 PS.length c5] 28)
                  have hP := blk_new z9 (.cells #[.int .i64 (k : Int), .int .u32 (n : Int), .int .u8 (c : Int), .slice A5 PS.length c5] 28)
                  have hA := f89.blk HA.out (by simp)
                  have hVA := HVA.out.fr f89 (by simp)
                  have hVP := hv5.fr ((Fr.refl [] z9).alloc (.cells #[.int .i64 (k : Int), .int .u32 (n : Int), .int .u8 (c : Int), .slice A5 PS.length c5] 28)) (by simp)
                  have FY := Lib.hid (HF6.out.trans f89 (by simp))
                  clear o9 hv5 f8 f9 f89 HA HVA HF6 HAB HAT
                  go_upto_region 15 with (fail)
                  obtain ⟨za, hza⟩ : ∃ za, z9.alloc (.cells #[.int .i64 (k : Int), .int .u32 (n : Int), .int .u8 (c : Int), .slice A5 PS.length c5] 28) = za := ⟨_, rfl⟩
                  obtain ⟨D, hD⟩ : ∃ D, z9.heap.size = D := ⟨_, rfl⟩
                  rw [hza] at hP hA hVA hVP FY ⊢
                  rw [hD] at hP ⊢
                  clear hza hD
                  obtain ⟨⟨e0, e1, e2, e3⟩, _, _⟩ := blk4_facts hP
                  obtain ⟨⟨d0, d1, d2, d3⟩, _, _⟩ := blk4_facts hA
                  refine wp_region_late [] (S := fun w' => (w'.cell? ⟨D, 0, none⟩ = some (.int .i64 (k : Int)) ∧ w'.cell? ⟨D, 1, none⟩ = some (.int .u32 (n : Int)) ∧ w'.cell? ⟨D, 2, none⟩ = some (.int .u8 (c : Int)) ∧ w'.cell? ⟨D, 3, none⟩ = some (.slice A5 PS.length c5)) ∧ (w'.cell? ⟨C, 0, none⟩ = some (.int .i64 (k : Int)) ∧ w'.cell? ⟨C, 1, none⟩ = some (.int .u32 (n : Int)) ∧ w'.cell? ⟨C, 2, none⟩ = some (.int .u8 (c : Int)) ∧ w'.cell? ⟨C, 3, none⟩ = some (.slice A9 PS.length c9))) (by kernel_rfl) ⟨⟨e0, e1, e2, e3⟩, ⟨d0, d1, d2, d3⟩⟩ (fun hHeld => ?_)
                  have fd := (Fr.refl [] za).drew
                  have HP := Lib.hid (fd.blk hP (by simp))
                  have HA := Lib.hid (fd.blk hA (by simp))
                  have HVP := Lib.hid (hVP.fr fd (by simp))
                  have HVA := Lib.hid (hVA.fr fd (by simp))
                  obtain ⟨zd, hzd⟩ : ∃ zd, za.drew = zd := ⟨_, rfl⟩
                  rw [hzd] at hHeld fd HP HA HVP HVA ⊢
                  clear hzd e0 e1 e2 e3 d0 d1 d2 d3 hP hA hVP hVA
                  refine wpLate_take (i := 0) (oi := _) (v := ?_) rfl (by kernel_rfl) (by kernel_rfl) (by kernel_rfl) (by kernel_rfl) (fun _ _ _ h => h) (Gives.load (by rfl) ?_) hHeld ?_
                  rotate_left
                  · intro w hSw
                    (try dsimp only at hSw)
                    go_simp
                    try with_reducible rfl
                  try simp only [Act.put, List.getElem_toArray, List.getElem_cons_succ, List.getElem_cons_zero, List.setIfInBounds_toArray, List.set_cons_zero, List.set_cons_succ]
                  refine wpLate_take (i := 1) (oi := _) (v := ?_) rfl (by kernel_rfl) (by kernel_rfl) (by kernel_rfl) (by kernel_rfl) (fun _ _ _ h => h) (Gives.load (by rfl) ?_) hHeld ?_
                  rotate_left
                  · intro w hSw
                    (try dsimp only at hSw)
                    go_simp
                    try with_reducible rfl
                  try simp only [Act.put, List.getElem_toArray, List.getElem_cons_succ, List.getElem_cons_zero, List.setIfInBounds_toArray, List.set_cons_zero, List.set_cons_succ]
                  refine wpLate_take (i := 2) (oi := _) (v := ?_) rfl (by kernel_rfl) (by kernel_rfl) (by kernel_rfl) (by kernel_rfl) (fun _ _ _ h => h) (Gives.load (by rfl) ?_) hHeld ?_
                  rotate_left
                  · intro w hSw
                    (try dsimp only at hSw)
                    go_simp
                    try with_reducible rfl
                  try simp only [Act.put, List.getElem_toArray, List.getElem_cons_succ, List.getElem_cons_zero, List.setIfInBounds_toArray, List.set_cons_zero, List.set_cons_succ]
                  refine wpLate_take (i := 3) (oi := _) (v := ?_) rfl (by kernel_rfl) (by kernel_rfl) (by kernel_rfl) (by kernel_rfl) (fun _ _ _ h => h) (Gives.load (by rfl) ?_) hHeld ?_
                  rotate_left
                  · intro w hSw
                    (try dsimp only at hSw)
                    go_simp
                    try with_reducible rfl
                  try simp only [Act.put, List.getElem_toArray, List.getElem_cons_succ, List.getElem_cons_zero, List.setIfInBounds_toArray, List.set_cons_zero, List.set_cons_succ]
                  refine wpLate_take (i := 5) (oi := _) (v := ?_) rfl (by kernel_rfl) (by kernel_rfl) (by kernel_rfl) (by kernel_rfl) (fun _ _ _ h => h) (Gives.load (by rfl) ?_) hHeld ?_
                  rotate_left
                  · intro w hSw
                    (try dsimp only at hSw)
                    go_simp
                    try with_reducible rfl
                  try simp only [Act.put, List.getElem_toArray, List.getElem_cons_succ, List.getElem_cons_zero, List.setIfInBounds_toArray, List.set_cons_zero, List.set_cons_succ]
                  refine wpLate_ready (rs := [4]) (by kernel_rfl) (by simp) ?_
                  refine AllLate.cons (o := _) rfl (fun K hK => ?_) ?_
                  · go_simp
                    refine (acks7_any ⟨(k : Int), n, c, PS⟩ (.slice A5 PS.length c5) _ HVP.out (by show PS.length ≤ _; omega)).mono ?_
                    rintro _ y1 ⟨v1, rfl, o1, f1⟩
                    go_wp2_with fail
                    have hv1 := own_view o1
                    clear o1
                    refine hK.out _ _ (fun _ => ⟨(blk4_facts ((f1).blk HP.out (by simp))).1, (blk4_facts ((f1).blk HA.out (by simp))).1⟩) (fun hHeld => ?_)
                    replace hHeld := hHeld (by kernel_rfl)
                    clear hK K
                    try simp only [Act.put, List.getElem_toArray, List.getElem_cons_succ, List.getElem_cons_zero, List.setIfInBounds_toArray, List.set_cons_zero, List.set_cons_succ]
                    refine wpLate_ready (rs := [6]) (by kernel_rfl) (by simp) ?_
                    refine AllLate.cons (o := _) rfl (fun K hK => ?_) ?_
                    · go_simp
                      refine (acks7_any ⟨(k : Int), n, c, PS⟩ (.slice A9 PS.length c9) _ (HVA.out.fr f1 (by simp)) (by show PS.length ≤ _; omega)).mono ?_
                      rintro _ y2 ⟨v2, rfl, o2, f⟩
                      go_wp2_with fail
                      have f2 := f1.trans f (by simp)
                      have hv1 := hv1.fr f (by simp)
                      have hv2 := own_view o2
                      clear o2 f
                      refine hK.out _ _ (fun _ => ⟨(blk4_facts ((f2).blk HP.out (by simp))).1, (blk4_facts ((f2).blk HA.out (by simp))).1⟩) (fun hHeld => ?_)
                      replace hHeld := hHeld (by kernel_rfl)
                      clear hK K
                      try simp only [Act.put, List.getElem_toArray, List.getElem_cons_succ, List.getElem_cons_zero, List.setIfInBounds_toArray, List.set_cons_zero, List.set_cons_succ]
                      refine wpLate_ready (rs := [7]) (by kernel_rfl) (by simp) ?_
                      refine AllLate.cons (o := _) rfl (fun K hK => ?_) ?_
                      · go_simp
                        refine (sameack7_any ⟨(k : Int), n, c, PS⟩ v1 v2 _ hv1 hv2 (by show PS.length ≤ _; omega)).mono ?_
                        rintro _ y3 ⟨rfl, f⟩
                        go_wp2_with fail
                        have f3 := f2.trans f (by simp)
                        clear f
                        refine hK.out _ _ (fun _ => ⟨(blk4_facts ((f3).blk HP.out (by simp))).1, (blk4_facts ((f3).blk HA.out (by simp))).1⟩) (fun hHeld => ?_)
                        replace hHeld := hHeld (by kernel_rfl)
                        clear hK K
                        try simp only [Act.put, List.getElem_toArray, List.getElem_cons_succ, List.getElem_cons_zero, List.setIfInBounds_toArray, List.set_cons_zero, List.set_cons_succ]
                        refine wpLate_pure (i := 8) (oi := _) (v := ?_) rfl (by kernel_rfl) (by kernel_rfl) (by kernel_rfl) (by kernel_rfl) (fun _ _ _ h => h) (Gives.load (by rfl) ?_) (fun _ => hHeld) ?_
                        rotate_left
                        · intro w hSw
                          clear hSw
                          go_simp
                          try with_reducible rfl
                        try simp only [Act.put, List.getElem_toArray, List.getElem_cons_succ, List.getElem_cons_zero, List.setIfInBounds_toArray, List.set_cons_zero, List.set_cons_succ]
                        refine wpLate_pure (i := 9) (oi := _) (v := ?_) rfl (by kernel_rfl) (by kernel_rfl) (by kernel_rfl) (by kernel_rfl) (fun _ _ _ h => h) (Gives.load (by rfl) ?_) (fun _ => hHeld) ?_
                        rotate_left
                        · intro w hSw
                          clear hSw
                          go_simp
                          try with_reducible rfl
                        try simp only [Act.put, List.getElem_toArray, List.getElem_cons_succ, List.getElem_cons_zero, List.setIfInBounds_toArray, List.set_cons_zero, List.set_cons_succ]
                        refine wpLate_done (by kernel_rfl) ?_ _
                        go_wp2
                        go_ret
                        exact ⟨rfl, FY.out.trans (fd.trans f3 (by simp)) (by simp)⟩
                      exact AllLate.nil
                    exact AllLate.nil
                  exact AllLate.nil
              exact AllLate.nil
            exact AllLate.nil
          exact AllLate.nil
        exact AllLate.nil
end Go.Proofs.Ytlhkgalmiajinaa
