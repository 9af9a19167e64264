/- What AckText of the reference of layer 7 comes to. Conditions: numbers within their kinds, strings that may be. -/
import Derived.Test.YtlhkgalmiajinaaPubR
import Derived.Deep.DrawnRows
namespace Go.Proofs.Ytlhkgalmiajinaa
open Go.RowKit
set_option linter.unusedSimpArgs false

theorem own_bytes {w : World} {H : Nat} (l : List UInt8) (hl : l.length ≤ 1000) {A : Array Value} (h : w.heap[H]? = some (.cells A 5 (0, 0))) (hA : A = (bytesV l).toArray) : w.ownsRow 0 5 1 (.slice (some ⟨H, 0, none⟩) l.length l.length) l.length (bytesV l) := by
  subst hA
  refine ⟨by simp [bytesV_len], Or.inr ⟨H, l.length, _, rfl, Nat.zero_le _, h, Nat.le_refl _, by unfold maxLen; omega, by simp [bytesV_len], ?_⟩⟩
  rw [List.take_of_length_le (by simp [bytesV_len])]
theorem conv_bytes {w : World} {H : Nat} (l : List UInt8) (hl : l.length ≤ 1000) {A : Array Value} (h : w.heap[H]? = some (.cells A 5 (0, 0))) (hA : A = (bytesV l).toArray) (n : Nat) (hn : n = l.length) :
    (convert 60 9 (.slice (some ⟨H, 0, none⟩) n n)).run Try.prog w = .ok (.string ⟨l.toArray⟩) w := by
  subst hn
  exact own_bytes_string (own_bytes l hl h hA) Try.underlying60 Try.underlying5 Try.underlying9
theorem conv_byte {w : World} {H c : Nat} (hc : c < 256) (h : w.heap[H]? = some (.cells #[.int .u8 (c : Int)] 5 (0, 0))) :
    (convert 60 9 (.slice (some ⟨H, 0, none⟩) 1 1)).run Try.prog w = .ok (.string ⟨[b8 c].toArray⟩) w :=
  conv_bytes [b8 c] (by simp) h (by simp [bytesV, b8_toNat, Nat.mod_eq_of_lt hc]) 1 rfl
set_option maxRecDepth 100000 in
set_option maxHeartbeats 4000000 in
theorem rpacktext_any (a : Ak) (v : Value) (w : World) (hc : a.code < 256) (hid : a.id < 4294967296) (hv : View w v a.props.length (a.props.flatMap prE)) (hl : a.props.length ≤ 1000) (hok : ∀ x ∈ a.props, x.n < 4294967296 ∧ x.s.length ≤ 9223372036854775807 ∧ x.t.length ≤ 9223372036854775807) :
    Calls Try.prog 23 #[.agg (akC a v).toArray] w fun e w' => e = .returned (.string ⟨(akText a).toArray⟩) ∧ Fr [] w w' := by
  obtain ⟨k, id, c, l⟩ := a
  dsimp only at hc hid hv hl hok
  have HV := Lib.hid hv
  obtain ⟨A, cp, rfl, _⟩ := hv
  have HT : Hid (akText ⟨k, id, c, l⟩ = two id ++ ((if c ≠ 0 ∨ l ≠ [] then [b8 c] else []) ++ (if l ≠ [] then propsB l else []))) := Lib.hid rfl
  have hb0 := blk_new w (.cells (akC ⟨k, id, c, l⟩ (.slice A l.length cp)).toArray 42)
  have F0 : Fr [] w (w.alloc (.cells (akC ⟨k, id, c, l⟩ (.slice A l.length cp)).toArray 42)) := (Fr.refl _ _).alloc _
  unfold akC at hb0 F0 ⊢
  go_enter Try.func23, Try.ntmps23
  go_wp2_with fail
  refine (rtwo_any id _ (by omega) (by omega)).mono ?_
  rintro _ w1 ⟨rfl, g1⟩
  rw [Int.toNat_natCast]
  have h2l : (two id).length = 2 := rfl
  have F1 := Lib.hid (F0.trans g1 (by simp))
  have hb1 := g1.blk hb0 (by simp)
  clear hb0 F0 g1
  obtain ⟨⟨e0, e1, e2, e3⟩, ⟨k0, k1, k2, k3⟩, _⟩ := blk4_facts hb1
  by_cases hl0 : l = []
  · subst hl0
    by_cases hc0 : c = 0
    · have c0 : ¬ (0 : Int) < (c : Int) := by omega
      rw [if_neg (by simp [hc0]), if_neg (by simp), List.nil_append, List.append_nil] at HT
      clear hc0
      go_wp2
      go_ret
      rw [HT.out]
      exact ⟨rfl, F1.out⟩
    · have c0 : (0 : Int) < (c : Int) := by omega
      rw [if_pos (Or.inl hc0), if_neg (by simp), List.append_nil] at HT
      clear hc0
      have hcv := conv_byte hc (blk_new w1 (.cells #[.int .u8 (c : Int)] 5))
      have n1 : ¬ 9223372036854775807 < (two id).length + 1 := by omega
      go_wp2
      go_ret
      rw [HT.out, ByteArray.mk_append_mk]
      exact ⟨rfl, F1.out.alloc _⟩
  · have HT2 : Hid (akText ⟨k, id, c, l⟩ = two id ++ [b8 c] ++ propsB l) := Lib.hid (by rw [HT.out, if_pos (Or.inr hl0), if_pos hl0, List.append_assoc])
    have hlen : 0 < l.length := List.length_pos_iff.2 hl0
    clear HT hl0
    have hpl := putsB_len l
    have hvl := varB_len' (putsB l).length
    have n1 : ¬ 9223372036854775807 < (two id).length + 1 := by omega
    have n2 : ¬ 9223372036854775807 < (two id).length + 1 + ((var (putsB l).length).length + (putsB l).length) := by omega
    have n3 : ¬ 9223372036854775807 < 3 + ((var (putsB l).length).length + (putsB l).length) := by omega
    have hf1 := (Fr.refl [] w1).drew
    clear n2
    go_upto_region 3 with (fail)
    refine wp_region_held_drew (S := fun w' => w'.cell? ⟨w.heap.size, 2, none⟩ = some (.int .u8 (c : Int)) ∧ w'.cell? ⟨w.heap.size, 3, none⟩ = some (.slice A l.length cp)) (by kernel_rfl) ⟨e2, e3⟩ (fun hHeld => ?_)
    refine wpAnyH_take (i := 0) (oi := _) (v := ?_) rfl (by kernel_rfl) (by kernel_rfl) (by kernel_rfl) (fun _ _ _ h => h) (Or.inl ⟨by rfl, ?_⟩) hHeld ?_
    rotate_left
    · intro w hSw
      (try dsimp only at hSw)
      go_simp
      try with_reducible rfl
    try simp only [Act.put, List.getElem_toArray, List.getElem_cons_succ, List.getElem_cons_zero, List.setIfInBounds_toArray, List.set_cons_zero, List.set_cons_succ]
    refine wpAnyH_take (i := 1) (oi := _) (v := ?_) rfl (by kernel_rfl) (by kernel_rfl) (by kernel_rfl) (fun _ _ _ h => h) (Or.inl ⟨by rfl, ?_⟩) hHeld ?_
    rotate_left
    · intro w hSw
      (try dsimp only at hSw)
      go_simp
      try with_reducible rfl
    try simp only [Act.put, List.getElem_toArray, List.getElem_cons_succ, List.getElem_cons_zero, List.setIfInBounds_toArray, List.set_cons_zero, List.set_cons_succ]
    refine wpAnyH_take (i := 2) (oi := _) (v := ?_) rfl (by kernel_rfl) (by kernel_rfl) (by kernel_rfl) (fun _ _ _ h => h) (Or.inl ⟨by rfl, ?_⟩) hHeld ?_
    rotate_left
    · intro w hSw
      (try dsimp only at hSw)
      go_simp
      try with_reducible rfl
    try simp only [Act.put, List.getElem_toArray, List.getElem_cons_succ, List.getElem_cons_zero, List.setIfInBounds_toArray, List.set_cons_zero, List.set_cons_succ]
    refine wpAnyH_take (i := 6) (oi := _) (v := ?_) rfl (by kernel_rfl) (by kernel_rfl) (by kernel_rfl) (fun _ _ _ h => h) (Or.inl ⟨by rfl, ?_⟩) hHeld ?_
    rotate_left
    · intro w hSw
      (try dsimp only at hSw)
      go_simp
      try with_reducible rfl
    try simp only [Act.put, List.getElem_toArray, List.getElem_cons_succ, List.getElem_cons_zero, List.setIfInBounds_toArray, List.set_cons_zero, List.set_cons_succ]
    refine wpAnyH_take (i := 7) (oi := _) (v := ?_) rfl (by kernel_rfl) (by kernel_rfl) (by kernel_rfl) (fun _ _ _ h => h) (Or.inl ⟨by rfl, ?_⟩) hHeld ?_
    rotate_left
    · intro w hSw
      (try dsimp only at hSw)
      go_simp
      try with_reducible rfl
    try simp only [Act.put, List.getElem_toArray, List.getElem_cons_succ, List.getElem_cons_zero, List.setIfInBounds_toArray, List.set_cons_zero, List.set_cons_succ]
    refine wpAnyH_ready (rs := [3, 8]) (by kernel_rfl) (by simp) ?_
    refine AllReadyH.cons (o := _) rfl (fun K hK => ?_) ?_
    · go_simp
      have hy : Fr [] w1 (w1.alloc (.cells #[.int .u8 (c : Int)] 5)).drew := ((Fr.refl [] w1).alloc _).drew
      have hby : (w1.alloc (.cells #[.int .u8 (c : Int)] 5)).drew.heap[w1.heap.size]? = some (.cells #[.int .u8 (c : Int)] 5 (0, 0)) := blk_new _ _
      refine hK.out _ _ ⟨hy.cell e2 (by simp), hy.cell e3 (by simp)⟩ (fun hHeld => ?_)
      clear hK K
      try simp only [Act.put, List.getElem_toArray, List.getElem_cons_succ, List.getElem_cons_zero, List.setIfInBounds_toArray, List.set_cons_zero, List.set_cons_succ]
      refine wpAnyH_ready (rs := [4, 8]) (by kernel_rfl) (by simp) ?_
      refine AllReadyH.cons (o := _) rfl (fun K hK => ?_) ?_
      · have hcv := conv_byte hc hby
        go_simp
        refine hK.out _ _ ⟨hy.cell e2 (by simp), hy.cell e3 (by simp)⟩ (fun hHeld => ?_)
        clear hK K
        try simp only [Act.put, List.getElem_toArray, List.getElem_cons_succ, List.getElem_cons_zero, List.setIfInBounds_toArray, List.set_cons_zero, List.set_cons_succ]
        refine wpAnyH_take (i := 5) (oi := _) (v := ?_) rfl (by kernel_rfl) (by kernel_rfl) (by kernel_rfl) (fun _ _ _ h => h) (Or.inl ⟨by rfl, ?_⟩) hHeld ?_
        rotate_left
        · intro w hSw
          (try dsimp only at hSw)
          go_simp
          try with_reducible rfl
        try simp only [Act.put, List.getElem_toArray, List.getElem_cons_succ, List.getElem_cons_zero, List.setIfInBounds_toArray, List.set_cons_zero, List.set_cons_succ]
        refine wpAnyH_ready (rs := [8]) (by kernel_rfl) (by simp) ?_
        refine AllReadyH.cons (o := _) rfl (fun K hK => ?_) ?_
        · skip
          go_simp
          refine (rtext_pany _ l (_) (HV.out.old (S := []) (F1.out.trans hy (by simp)) (by simp)) hl hok).mono ?_
          rintro _ x3 ⟨rfl, g3⟩
          go_wp2_with fail
          have F3 := (F1.out.trans hy (by simp)).trans g3 (by simp)
          have F4 := Lib.hid F3
          refine hK.out _ _ ⟨g3.cell (hy.cell e2 (by simp)) (by simp), g3.cell (hy.cell e3 (by simp)) (by simp)⟩ (fun hHeld => ?_)
          clear hK K
          try simp only [Act.put, List.getElem_toArray, List.getElem_cons_succ, List.getElem_cons_zero, List.setIfInBounds_toArray, List.set_cons_zero, List.set_cons_succ]
          refine wpAnyH_take (i := 9) (oi := _) (v := ?_) rfl (by kernel_rfl) (by kernel_rfl) (by kernel_rfl) (fun _ _ _ h => h) (Or.inl ⟨by rfl, ?_⟩) hHeld ?_
          rotate_left
          · intro w hSw
            (try dsimp only at hSw)
            go_simp
            try with_reducible rfl
          try simp only [Act.put, List.getElem_toArray, List.getElem_cons_succ, List.getElem_cons_zero, List.setIfInBounds_toArray, List.set_cons_zero, List.set_cons_succ]
          refine wpAnyH_take (i := 10) (oi := _) (v := ?_) rfl (by kernel_rfl) (by kernel_rfl) (by kernel_rfl) (fun _ _ _ h => h) (Or.inl ⟨by rfl, ?_⟩) hHeld ?_
          rotate_left
          · intro w hSw
            (try dsimp only at hSw)
            go_simp
            try with_reducible rfl
          try simp only [Act.put, List.getElem_toArray, List.getElem_cons_succ, List.getElem_cons_zero, List.setIfInBounds_toArray, List.set_cons_zero, List.set_cons_succ]
          refine wpAnyH_done (by kernel_rfl) ?_ _
          go_wp2
          go_ret
          rw [HT2.out, ByteArray.mk_append_mk, ByteArray.mk_append_mk]
          exact ⟨by rw [propsB]; rfl, F4.out⟩
        exact AllReadyH.nil
      refine AllReadyH.cons (o := _) rfl (fun K hK => ?_) ?_
      · skip
        go_simp
        refine (rtext_pany _ l (_) (HV.out.old (S := []) (F1.out.trans hy (by simp)) (by simp)) hl hok).mono ?_
        rintro _ x3 ⟨rfl, g3⟩
        go_wp2_with fail
        have F3 := (F1.out.trans hy (by simp)).trans g3 (by simp)
        have F4 := Lib.hid F3
        have hcv := conv_byte hc (g3.blk hby (by simp))
        refine hK.out _ _ ⟨g3.cell (hy.cell e2 (by simp)) (by simp), g3.cell (hy.cell e3 (by simp)) (by simp)⟩ (fun hHeld => ?_)
        clear hK K
        try simp only [Act.put, List.getElem_toArray, List.getElem_cons_succ, List.getElem_cons_zero, List.setIfInBounds_toArray, List.set_cons_zero, List.set_cons_succ]
        refine wpAnyH_ready (rs := [4]) (by kernel_rfl) (by simp) ?_
        refine AllReadyH.cons (o := _) rfl (fun K hK => ?_) ?_
        · go_simp
          refine hK.out _ _ hHeld (fun hHeld => ?_)
          clear hK K
          try simp only [Act.put, List.getElem_toArray, List.getElem_cons_succ, List.getElem_cons_zero, List.setIfInBounds_toArray, List.set_cons_zero, List.set_cons_succ]
          refine wpAnyH_take (i := 5) (oi := _) (v := ?_) rfl (by kernel_rfl) (by kernel_rfl) (by kernel_rfl) (fun _ _ _ h => h) (Or.inl ⟨by rfl, ?_⟩) hHeld ?_
          rotate_left
          · intro w hSw
            (try dsimp only at hSw)
            go_simp
            try with_reducible rfl
          try simp only [Act.put, List.getElem_toArray, List.getElem_cons_succ, List.getElem_cons_zero, List.setIfInBounds_toArray, List.set_cons_zero, List.set_cons_succ]
          refine wpAnyH_take (i := 9) (oi := _) (v := ?_) rfl (by kernel_rfl) (by kernel_rfl) (by kernel_rfl) (fun _ _ _ h => h) (Or.inl ⟨by rfl, ?_⟩) hHeld ?_
          rotate_left
          · intro w hSw
            (try dsimp only at hSw)
            go_simp
            try with_reducible rfl
          try simp only [Act.put, List.getElem_toArray, List.getElem_cons_succ, List.getElem_cons_zero, List.setIfInBounds_toArray, List.set_cons_zero, List.set_cons_succ]
          refine wpAnyH_take (i := 10) (oi := _) (v := ?_) rfl (by kernel_rfl) (by kernel_rfl) (by kernel_rfl) (fun _ _ _ h => h) (Or.inl ⟨by rfl, ?_⟩) hHeld ?_
          rotate_left
          · intro w hSw
            (try dsimp only at hSw)
            go_simp
            try with_reducible rfl
          try simp only [Act.put, List.getElem_toArray, List.getElem_cons_succ, List.getElem_cons_zero, List.setIfInBounds_toArray, List.set_cons_zero, List.set_cons_succ]
          refine wpAnyH_done (by kernel_rfl) ?_ _
          go_wp2
          go_ret
          rw [HT2.out, ByteArray.mk_append_mk, ByteArray.mk_append_mk]
          exact ⟨by rw [propsB]; rfl, F4.out⟩
        exact AllReadyH.nil
      exact AllReadyH.nil
    refine AllReadyH.cons (o := _) rfl (fun K hK => ?_) ?_
    · skip
      go_simp
      refine (rtext_pany _ l (_) (HV.out.old (S := []) (F1.out.trans hf1 (by simp)) (by simp)) hl hok).mono ?_
      rintro _ x3 ⟨rfl, g3⟩
      go_wp2_with fail
      have F3 := (F1.out.trans hf1 (by simp)).trans g3 (by simp)
      have hy : Fr [] x3 (x3.alloc (.cells #[.int .u8 (c : Int)] 5)) := (Fr.refl [] x3).alloc _
      have F4 := Lib.hid (F3.trans hy (by simp))
      have hcv := conv_byte hc (blk_new x3 (.cells #[.int .u8 (c : Int)] 5))
      have q2 := g3.cell (hf1.cell e2 (by simp)) (by simp)
      have q3 := g3.cell (hf1.cell e3 (by simp)) (by simp)
      refine hK.out _ _ ⟨q2, q3⟩ (fun hHeld => ?_)
      clear hK K
      try simp only [Act.put, List.getElem_toArray, List.getElem_cons_succ, List.getElem_cons_zero, List.setIfInBounds_toArray, List.set_cons_zero, List.set_cons_succ]
      refine wpAnyH_ready (rs := [3]) (by kernel_rfl) (by simp) ?_
      refine AllReadyH.cons (o := _) rfl (fun K hK => ?_) ?_
      · go_simp
        refine hK.out _ _ ⟨hy.cell q2 (by simp), hy.cell q3 (by simp)⟩ (fun hHeld => ?_)
        clear hK K
        try simp only [Act.put, List.getElem_toArray, List.getElem_cons_succ, List.getElem_cons_zero, List.setIfInBounds_toArray, List.set_cons_zero, List.set_cons_succ]
        refine wpAnyH_ready (rs := [4]) (by kernel_rfl) (by simp) ?_
        refine AllReadyH.cons (o := _) rfl (fun K hK => ?_) ?_
        · go_simp
          refine hK.out _ _ hHeld (fun hHeld => ?_)
          clear hK K
          try simp only [Act.put, List.getElem_toArray, List.getElem_cons_succ, List.getElem_cons_zero, List.setIfInBounds_toArray, List.set_cons_zero, List.set_cons_succ]
          refine wpAnyH_take (i := 5) (oi := _) (v := ?_) rfl (by kernel_rfl) (by kernel_rfl) (by kernel_rfl) (fun _ _ _ h => h) (Or.inl ⟨by rfl, ?_⟩) hHeld ?_
          rotate_left
          · intro w hSw
            (try dsimp only at hSw)
            go_simp
            try with_reducible rfl
          try simp only [Act.put, List.getElem_toArray, List.getElem_cons_succ, List.getElem_cons_zero, List.setIfInBounds_toArray, List.set_cons_zero, List.set_cons_succ]
          refine wpAnyH_take (i := 9) (oi := _) (v := ?_) rfl (by kernel_rfl) (by kernel_rfl) (by kernel_rfl) (fun _ _ _ h => h) (Or.inl ⟨by rfl, ?_⟩) hHeld ?_
          rotate_left
          · intro w hSw
            (try dsimp only at hSw)
            go_simp
            try with_reducible rfl
          try simp only [Act.put, List.getElem_toArray, List.getElem_cons_succ, List.getElem_cons_zero, List.setIfInBounds_toArray, List.set_cons_zero, List.set_cons_succ]
          refine wpAnyH_take (i := 10) (oi := _) (v := ?_) rfl (by kernel_rfl) (by kernel_rfl) (by kernel_rfl) (fun _ _ _ h => h) (Or.inl ⟨by rfl, ?_⟩) hHeld ?_
          rotate_left
          · intro w hSw
            (try dsimp only at hSw)
            go_simp
            try with_reducible rfl
          try simp only [Act.put, List.getElem_toArray, List.getElem_cons_succ, List.getElem_cons_zero, List.setIfInBounds_toArray, List.set_cons_zero, List.set_cons_succ]
          refine wpAnyH_done (by kernel_rfl) ?_ _
          go_wp2
          go_ret
          rw [HT2.out, ByteArray.mk_append_mk, ByteArray.mk_append_mk]
          exact ⟨by rw [propsB]; rfl, F4.out⟩
        exact AllReadyH.nil
      exact AllReadyH.nil
    exact AllReadyH.nil
end Go.Proofs.Ytlhkgalmiajinaa
