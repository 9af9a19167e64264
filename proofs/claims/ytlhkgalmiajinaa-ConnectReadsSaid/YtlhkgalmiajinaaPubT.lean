/- What AckText of the reference of layer 7 comes to. Conditions: numbers within their kinds, strings that may be. -/
import Derived.Test.YtlhkgalmiajinaaPubR
import Derived.Deep.DrawnRows
import Derived.Test.YtlhkgalmiajinaaPlainG
namespace Go.Proofs.Ytlhkgalmiajinaa
open Go.RowKit
set_option linter.unusedSimpArgs false

theorem own_bytes {w : World} {H : Nat} (l : List UInt8) (hl : l.length ≤ 1000) {A : Array Value} (h : w.heap[H]? = some (.cells A 5 (0, 0))) (hA : A = (bytesV l).toArray) : w.ownsRow 0 5 1 (.slice (some ⟨H, 0, none⟩) l.length l.length) l.length (bytesV l) := by
  subst hA
  refine ⟨by simp [bytesV_len], Or.inr ⟨H, l.length, _, rfl, Nat.zero_le _, h, Nat.le_refl _, by unfold maxLen; omega, by simp [bytesV_len], ?_⟩⟩
  rw [List.take_of_length_le (by simp [bytesV_len])]
theorem conv_bytes {w : World} {H : Nat} (l : List UInt8) (hl : l.length ≤ 1000) {A : Array Value} (h : w.heap[H]? = some (.cells A 5 (0, 0))) (hA : A = (bytesV l).toArray) (n : Nat) (hn : n = l.length) :
    (convert 60 9 (.slice (some ⟨H, 0, none⟩) n n)).run Try.prog w = .ok (.string ⟨l.toArray⟩) w := by
  subst hn
  exact own_bytes_string (own_bytes l hl h hA) Try.underlying60 Try.underlying5 Try.underlying9
theorem conv_byte {w : World} {H c : Nat} (hc : c < 256) (h : w.heap[H]? = some (.cells #[.int .u8 (c : Int)] 5 (0, 0))) :
    (convert 60 9 (.slice (some ⟨H, 0, none⟩) 1 1)).run Try.prog w = .ok (.string ⟨[b8 c].toArray⟩) w :=
  conv_bytes [b8 c] (by simp) h (by simp [bytesV, b8_toNat, Nat.mod_eq_of_lt hc]) 1 rfl
set_option maxRecDepth 100000 in
set_option maxHeartbeats 4000000 in
theorem rpacktext_any (a : Ak) (v : Value) (w : World) (hc : a.code < 256) (hid : a.id < 4294967296) (hv : View w v a.props.length (a.props.flatMap prE)) (hl : a.props.length ≤ 1000) (hok : ∀ x ∈ a.props, x.n < 4294967296 ∧ x.s.length ≤ 9223372036854775807 ∧ x.t.length ≤ 9223372036854775807) :
    Calls Try.prog 23 #[.agg (akC a v).toArray] w fun e w' => e = .returned (.string ⟨(akText a).toArray⟩) ∧ Fr [] w w' := by
  obtain ⟨k, id, c, l⟩ := a
  dsimp only at hc hid hv hl hok
  have HV := Lib.hid hv
  obtain ⟨A, cp, rfl, _⟩ := hv
  have HT : Hid (akText ⟨k, id, c, l⟩ = two id ++ ((if c ≠ 0 ∨ l ≠ [] then [b8 c] else []) ++ (if l ≠ [] then propsB l else []))) := Lib.hid rfl
  have hb0 := blk_new w (.cells (akC ⟨k, id, c, l⟩ (.slice A l.length cp)).toArray 42)
  have F0 : Fr [] w (w.alloc (.cells (akC ⟨k, id, c, l⟩ (.slice A l.length cp)).toArray 42)) := (Fr.refl _ _).alloc _
  unfold akC at hb0 F0 ⊢
  go_enter Try.func23, Try.ntmps23
  go_wp2_with fail
  refine (rtwo_any id _ (by omega) (by omega)).mono ?_
  rintro _ w1 ⟨rfl, g1⟩
  rw [Int.toNat_natCast]
  have h2l : (two id).length = 2 := rfl
  have F1 := Lib.hid (F0.trans g1 (by simp))
  have hb1 := g1.blk hb0 (by simp)
  clear hb0 F0 g1
  obtain ⟨⟨e0, e1, e2, e3⟩, ⟨k0, k1, k2, k3⟩, _⟩ := blk4_facts hb1
  by_cases hl0 : l = []
  · subst hl0
    by_cases hc0 : c = 0
    · have c0 : ¬ (0 : Int) < (c : Int) := by omega
      rw [if_neg (by simp [hc0]), if_neg (by simp), List.nil_append, List.append_nil] at HT
      clear hc0
      go_wp2
      go_ret
      rw [HT.out]
      exact ⟨rfl, F1.out⟩
    · have c0 : (0 : Int) < (c : Int) := by omega
      rw [if_pos (Or.inl hc0), if_neg (by simp), List.append_nil] at HT
      clear hc0
      have hcv := conv_byte hc (blk_new w1 (.cells #[.int .u8 (c : Int)] 5))
      have n1 : ¬ 9223372036854775807 < (two id).length + 1 := by omega
      go_wp2
      go_ret
      rw [HT.out, ByteArray.mk_append_mk]
      exact ⟨rfl, F1.out.alloc _⟩
  · have HT2 : Hid (akText ⟨k, id, c, l⟩ = two id ++ [b8 c] ++ propsB l) := Lib.hid (by rw [HT.out, if_pos (Or.inr hl0), if_pos hl0, List.append_assoc])
    have hlen : 0 < l.length := List.length_pos_iff.2 hl0
    clear HT hl0
    have hpl := putsB_len l
    have hvl := varB_len' (putsB l).length
    have n1 : ¬ 9223372036854775807 < (two id).length + 1 := by omega
    have n2 : ¬ 9223372036854775807 < (two id).length + 1 + ((var (putsB l).length).length + (putsB l).length) := by omega
    have n3 : ¬ 9223372036854775807 < 3 + ((var (putsB l).length).length + (putsB l).length) := by omega
    have hf1 := (Fr.refl [] w1).drew
    clear n2
    go_upto_region 3 with (fail)
    refine wp_region_held_drew (S := fun w' => w'.cell? ⟨w.heap.size, 2, none⟩ = some (.int .u8 (c : Int)) ∧ w'.cell? ⟨w.heap.size, 3, none⟩ = some (.slice A l.length cp)) (by kernel_rfl) ⟨e2, e3⟩ (fun hHeld => ?_)
    refine wpAnyH_take (i := 0) (oi := _) (v := ?_) rfl (by kernel_rfl) (by kernel_rfl) (by kernel_rfl) (fun _ _ _ h => h) (Or.inl ⟨by rfl, ?_⟩) hHeld ?_
    rotate_left
    · intro w hSw
      (try dsimp only at hSw)
      go_simp
      try with_reducible rfl
    try simp only [Act.put, List.getElem_toArray, List.getElem_cons_succ, List.getElem_cons_zero, List.setIfInBounds_toArray, List.set_cons_zero, List.set_cons_succ]
    refine wpAnyH_take (i := 1) (oi := _) (v := ?_) rfl (by kernel_rfl) (by kernel_rfl) (by kernel_rfl) (fun _ _ _ h => h) (Or.inl ⟨by rfl, ?_⟩) hHeld ?_
    rotate_left
    · intro w hSw
      (try dsimp only at hSw)
      go_simp
      try with_reducible rfl
    try simp only [Act.put, List.getElem_toArray, List.getElem_cons_succ, List.getElem_cons_zero, List.setIfInBounds_toArray, List.set_cons_zero, List.set_cons_succ]
    refine wpAnyH_take (i := 2) (oi := _) (v := ?_) rfl (by kernel_rfl) (by kernel_rfl) (by kernel_rfl) (fun _ _ _ h => h) (Or.inl ⟨by rfl, ?_⟩) hHeld ?_
    rotate_left
    · intro w hSw
      (try dsimp only at hSw)
      go_simp
      try with_reducible rfl
    try simp only [Act.put, List.getElem_toArray, List.getElem_cons_succ, List.getElem_cons_zero, List.setIfInBounds_toArray, List.set_cons_zero, List.set_cons_succ]
    refine wpAnyH_take (i := 6) (oi := _) (v := ?_) rfl (by kernel_rfl) (by kernel_rfl) (by kernel_rfl) (fun _ _ _ h => h) (Or.inl ⟨by rfl, ?_⟩) hHeld ?_
    rotate_left
    · intro w hSw
      (try dsimp only at hSw)
      go_simp
      try with_reducible rfl
    try simp only [Act.put, List.getElem_toArray, List.getElem_cons_succ, List.getElem_cons_zero, List.setIfInBounds_toArray, List.set_cons_zero, List.set_cons_succ]
    refine wpAnyH_take (i := 7) (oi := _) (v := ?_) rfl (by kernel_rfl) (by kernel_rfl) (by kernel_rfl) (fun _ _ _ h => h) (Or.inl ⟨by rfl, ?_⟩) hHeld ?_
    rotate_left
    · intro w hSw
      (try dsimp only at hSw)
      go_simp
      try with_reducible rfl
    try simp only [Act.put, List.getElem_toArray, List.getElem_cons_succ, List.getElem_cons_zero, List.setIfInBounds_toArray, List.set_cons_zero, List.set_cons_succ]
    refine wpAnyH_ready (rs := [3, 8]) (by kernel_rfl) (by simp) ?_
    refine AllReadyH.cons (o := _) rfl (fun K hK => ?_) ?_
    · go_simp
      have hy : Fr [] w1 (w1.alloc (.cells #[.int .u8 (c : Int)] 5)).drew := ((Fr.refl [] w1).alloc _).drew
      have hby : (w1.alloc (.cells #[.int .u8 (c : Int)] 5)).drew.heap[w1.heap.size]? = some (.cells #[.int .u8 (c : Int)] 5 (0, 0)) := blk_new _ _
      refine hK.out _ _ ⟨hy.cell e2 (by simp), hy.cell e3 (by simp)⟩ (fun hHeld => ?_)
      clear hK K
      try simp only [Act.put, List.getElem_toArray, List.getElem_cons_succ, List.getElem_cons_zero, List.setIfInBounds_toArray, List.set_cons_zero, List.set_cons_succ]
      refine wpAnyH_ready (rs := [4, 8]) (by kernel_rfl) (by simp) ?_
      refine AllReadyH.cons (o := _) rfl (fun K hK => ?_) ?_
      · have hcv := conv_byte hc hby
        go_simp
        refine hK.out _ _ ⟨hy.cell e2 (by simp), hy.cell e3 (by simp)⟩ (fun hHeld => ?_)
        clear hK K
        try simp only [Act.put, List.getElem_toArray, List.getElem_cons_succ, List.getElem_cons_zero, List.setIfInBounds_toArray, List.set_cons_zero, List.set_cons_succ]
        refine wpAnyH_take (i := 5) (oi := _) (v := ?_) rfl (by kernel_rfl) (by kernel_rfl) (by kernel_rfl) (fun _ _ _ h => h) (Or.inl ⟨by rfl, ?_⟩) hHeld ?_
        rotate_left
        · intro w hSw
          (try dsimp only at hSw)
          go_simp
          try with_reducible rfl
        try simp only [Act.put, List.getElem_toArray, List.getElem_cons_succ, List.getElem_cons_zero, List.setIfInBounds_toArray, List.set_cons_zero, List.set_cons_succ]
        refine wpAnyH_ready (rs := [8]) (by kernel_rfl) (by simp) ?_
        refine AllReadyH.cons (o := _) rfl (fun K hK => ?_) ?_
        · skip
          go_simp
          refine (rtext_pany _ l (_) (HV.out.old (S := []) (F1.out.trans hy (by simp)) (by simp)) hl hok).mono ?_
          rintro _ x3 ⟨rfl, g3⟩
          go_wp2_with fail
          have F3 := (F1.out.trans hy (by simp)).trans g3 (by simp)
          have F4 := Lib.hid F3
          refine hK.out _ _ ⟨g3.cell (hy.cell e2 (by simp)) (by simp), g3.cell (hy.cell e3 (by simp)) (by simp)⟩ (fun hHeld => ?_)
          clear hK K
          try simp only [Act.put, List.getElem_toArray, List.getElem_cons_succ, List.getElem_cons_zero, List.setIfInBounds_toArray, List.set_cons_zero, List.set_cons_succ]
          refine wpAnyH_take (i := 9) (oi := _) (v := ?_) rfl (by kernel_rfl) (by kernel_rfl) (by kernel_rfl) (fun _ _ _ h => h) (Or.inl ⟨by rfl, ?_⟩) hHeld ?_
          rotate_left
          · intro w hSw
            (try dsimp only at hSw)
            go_simp
            try with_reducible rfl
          try simp only [Act.put, List.getElem_toArray, List.getElem_cons_succ, List.getElem_cons_zero, List.setIfInBounds_toArray, List.set_cons_zero, List.set_cons_succ]
          refine wpAnyH_take (i := 10) (oi := _) (v := ?_) rfl (by kernel_rfl) (by kernel_rfl) (by kernel_rfl) (fun _ _ _ h => h) (Or.inl ⟨by rfl, ?_⟩) hHeld ?_
          rotate_left
          · intro w hSw
            (try dsimp only at hSw)
            go_simp
            try with_reducible rfl
          try simp only [Act.put, List.getElem_toArray, List.getElem_cons_succ, List.getElem_cons_zero, List.setIfInBounds_toArray, List.set_cons_zero, List.set_cons_succ]
          refine wpAnyH_done (by kernel_rfl) ?_ _
          go_wp2
          go_ret
          rw [HT2.out, ByteArray.mk_append_mk, ByteArray.mk_append_mk]
          exact ⟨by rw [propsB]; rfl, F4.out⟩
        exact AllReadyH.nil
      refine AllReadyH.cons (o := _) rfl (fun K hK => ?_) ?_
      · skip
        go_simp
        refine (rtext_pany _ l (_) (HV.out.old (S := []) (F1.out.trans hy (by simp)) (by simp)) hl hok).mono ?_
        rintro _ x3 ⟨rfl, g3⟩
        go_wp2_with fail
        have F3 := (F1.out.trans hy (by simp)).trans g3 (by simp)
        have F4 := Lib.hid F3
        have hcv := conv_byte hc (g3.blk hby (by simp))
        refine hK.out _ _ ⟨g3.cell (hy.cell e2 (by simp)) (by simp), g3.cell (hy.cell e3 (by simp)) (by simp)⟩ (fun hHeld => ?_)
        clear hK K
        try simp only [Act.put, List.getElem_toArray, List.getElem_cons_succ, List.getElem_cons_zero, List.setIfInBounds_toArray, List.set_cons_zero, List.set_cons_succ]
        refine wpAnyH_ready (rs := [4]) (by kernel_rfl) (by simp) ?_
        refine AllReadyH.cons (o := _) rfl (fun K hK => ?_) ?_
        · go_simp
          refine hK.out _ _ hHeld (fun hHeld => ?_)
          clear hK K
          try simp only [Act.put, List.getElem_toArray, List.getElem_cons_succ, List.getElem_cons_zero, List.setIfInBounds_toArray, List.set_cons_zero, List.set_cons_succ]
          refine wpAnyH_take (i := 5) (oi := _) (v := ?_) rfl (by kernel_rfl) (by kernel_rfl) (by kernel_rfl) (fun _ _ _ h => h) (Or.inl ⟨by rfl, ?_⟩) hHeld ?_
          rotate_left
          · intro w hSw
            (try dsimp only at hSw)
            go_simp
            try with_reducible rfl
          try simp only [Act.put, List.getElem_toArray, List.getElem_cons_succ, List.getElem_cons_zero, List.setIfInBounds_toArray, List.set_cons_zero, List.set_cons_succ]
          refine wpAnyH_take (i := 9) (oi := _) (v := ?_) rfl (by kernel_rfl) (by kernel_rfl) (by kernel_rfl) (fun _ _ _ h => h) (Or.inl ⟨by rfl, ?_⟩) hHeld ?_
          rotate_left
          · intro w hSw
            (try dsimp only at hSw)
            go_simp
            try with_reducible rfl
          try simp only [Act.put, List.getElem_toArray, List.getElem_cons_succ, List.getElem_cons_zero, List.setIfInBounds_toArray, List.set_cons_zero, List.set_cons_succ]
          refine wpAnyH_take (i := 10) (oi := _) (v := ?_) rfl (by kernel_rfl) (by kernel_rfl) (by kernel_rfl) (fun _ _ _ h => h) (Or.inl ⟨by rfl, ?_⟩) hHeld ?_
          rotate_left
          · intro w hSw
            (try dsimp only at hSw)
            go_simp
            try with_reducible rfl
          try simp only [Act.put, List.getElem_toArray, List.getElem_cons_succ, List.getElem_cons_zero, List.setIfInBounds_toArray, List.set_cons_zero, List.set_cons_succ]
          refine wpAnyH_done (by kernel_rfl) ?_ _
          go_wp2
          go_ret
          rw [HT2.out, ByteArray.mk_append_mk, ByteArray.mk_append_mk]
          exact ⟨by rw [propsB]; rfl, F4.out⟩
        exact AllReadyH.nil
      exact AllReadyH.nil
    refine AllReadyH.cons (o := _) rfl (fun K hK => ?_) ?_
    · skip
      go_simp
      refine (rtext_pany _ l (_) (HV.out.old (S := []) (F1.out.trans hf1 (by simp)) (by simp)) hl hok).mono ?_
      rintro _ x3 ⟨rfl, g3⟩
      go_wp2_with fail
      have F3 := (F1.out.trans hf1 (by simp)).trans g3 (by simp)
      have hy : Fr [] x3 (x3.alloc (.cells #[.int .u8 (c : Int)] 5)) := (Fr.refl [] x3).alloc _
      have F4 := Lib.hid (F3.trans hy (by simp))
      have hcv := conv_byte hc (blk_new x3 (.cells #[.int .u8 (c : Int)] 5))
      have q2 := g3.cell (hf1.cell e2 (by simp)) (by simp)
      have q3 := g3.cell (hf1.cell e3 (by simp)) (by simp)
      refine hK.out _ _ ⟨q2, q3⟩ (fun hHeld => ?_)
      clear hK K
      try simp only [Act.put, List.getElem_toArray, List.getElem_cons_succ, List.getElem_cons_zero, List.setIfInBounds_toArray, List.set_cons_zero, List.set_cons_succ]
      refine wpAnyH_ready (rs := [3]) (by kernel_rfl) (by simp) ?_
      refine AllReadyH.cons (o := _) rfl (fun K hK => ?_) ?_
      · go_simp
        refine hK.out _ _ ⟨hy.cell q2 (by simp), hy.cell q3 (by simp)⟩ (fun hHeld => ?_)
        clear hK K
        try simp only [Act.put, List.getElem_toArray, List.getElem_cons_succ, List.getElem_cons_zero, List.setIfInBounds_toArray, List.set_cons_zero, List.set_cons_succ]
        refine wpAnyH_ready (rs := [4]) (by kernel_rfl) (by simp) ?_
        refine AllReadyH.cons (o := _) rfl (fun K hK => ?_) ?_
        · go_simp
          refine hK.out _ _ hHeld (fun hHeld => ?_)
          clear hK K
          try simp only [Act.put, List.getElem_toArray, List.getElem_cons_succ, List.getElem_cons_zero, List.setIfInBounds_toArray, List.set_cons_zero, List.set_cons_succ]
          refine wpAnyH_take (i := 5) (oi := _) (v := ?_) rfl (by kernel_rfl) (by kernel_rfl) (by kernel_rfl) (fun _ _ _ h => h) (Or.inl ⟨by rfl, ?_⟩) hHeld ?_
          rotate_left
          · intro w hSw
            (try dsimp only at hSw)
            go_simp
            try with_reducible rfl
          try simp only [Act.put, List.getElem_toArray, List.getElem_cons_succ, List.getElem_cons_zero, List.setIfInBounds_toArray, List.set_cons_zero, List.set_cons_succ]
          refine wpAnyH_take (i := 9) (oi := _) (v := ?_) rfl (by kernel_rfl) (by kernel_rfl) (by kernel_rfl) (fun _ _ _ h => h) (Or.inl ⟨by rfl, ?_⟩) hHeld ?_
          rotate_left
          · intro w hSw
            (try dsimp only at hSw)
            go_simp
            try with_reducible rfl
          try simp only [Act.put, List.getElem_toArray, List.getElem_cons_succ, List.getElem_cons_zero, List.setIfInBounds_toArray, List.set_cons_zero, List.set_cons_succ]
          refine wpAnyH_take (i := 10) (oi := _) (v := ?_) rfl (by kernel_rfl) (by kernel_rfl) (by kernel_rfl) (fun _ _ _ h => h) (Or.inl ⟨by rfl, ?_⟩) hHeld ?_
          rotate_left
          · intro w hSw
            (try dsimp only at hSw)
            go_simp
            try with_reducible rfl
          try simp only [Act.put, List.getElem_toArray, List.getElem_cons_succ, List.getElem_cons_zero, List.setIfInBounds_toArray, List.set_cons_zero, List.set_cons_succ]
          refine wpAnyH_done (by kernel_rfl) ?_ _
          go_wp2
          go_ret
          rw [HT2.out, ByteArray.mk_append_mk, ByteArray.mk_append_mk]
          exact ⟨by rw [propsB]; rfl, F4.out⟩
        exact AllReadyH.nil
      exact AllReadyH.nil
    exact AllReadyH.nil
end Go.Proofs.Ytlhkgalmiajinaa
namespace Go.Proofs.Ytlhkgalmiajinaa
open Go.RowKit

/-- What stands while the reference reads an answer: the cursor in block C, its answer in the next. -/
structure RAS (w y : World) (C : Nat) (p0 p1 p2 p3 : Value) (r : Rd) : Prop where
  p : y.heap[C + 1]? = some (.cells #[p0, p1, p2, p3] 42 (0, 0))
  c : y.heap[C]? = some (.cells #[.string ⟨r.s.toArray⟩, .int .i64 r.e] 125 (0, 0))
  a : y.heap[w.heap.size]? = some (.cells #[.int .i64 0, .int .u32 0, .int .u8 0, .slice none 0 0] 42 (0, 0))
  f : Fr [] w y
  cb : w.heap.size < C
theorem RAS.go {w y y' : World} {C : Nat} {p0 p1 p2 p3 : Value} {r : Rd} (h : RAS w y C p0 p1 p2 p3 r) (g : Fr [] y y') : RAS w y' C p0 p1 p2 p3 r :=
  ⟨g.blk h.p (by simp), g.blk h.c (by simp), g.blk h.a (by simp), h.f.trans g (by simp), h.cb⟩
theorem RAS.setp {w y : World} {C : Nat} {p0 p1 p2 p3 : Value} {r : Rd} (h : RAS w y C p0 p1 p2 p3 r) (i : Nat) (v q0 q1 q2 q3 : Value) (hi : (#[p0, p1, p2, p3] : Array Value).setIfInBounds i v = #[q0, q1, q2, q3]) : RAS w (y.setCell ⟨C + 1, i, none⟩ v) C q0 q1 q2 q3 r := by
  have hcb := h.cb
  refine ⟨?_, blk_far h.c (by simp) _, blk_far h.a (by simp; omega) _, h.f.setCell (Or.inl (by simp; omega)) _, h.cb⟩
  rw [← hi]; exact blk_set h.p i v
theorem RAS.setc {w y : World} {C : Nat} {p0 p1 p2 p3 : Value} {r : Rd} (h : RAS w y C p0 p1 p2 p3 r) (r' : Rd) : RAS w ((y.setCell ⟨C, 0, none⟩ (.string ⟨r'.s.toArray⟩)).setCell ⟨C, 1, none⟩ (.int .i64 r'.e)) C p0 p1 p2 p3 r' := by
  have hcb := h.cb
  exact ⟨blk_far (blk_far h.p (by simp) _) (by simp) _, blk2_set h.c _ _, blk_far (blk_far h.a (by simp; omega) _) (by simp; omega) _, (h.f.setCell (Or.inl (by simp; omega)) _).setCell (Or.inl (by simp; omega)) _, h.cb⟩
theorem RAS.sete {w y : World} {C : Nat} {p0 p1 p2 p3 : Value} {r : Rd} (h : RAS w y C p0 p1 p2 p3 r) (x : Int) : RAS w (y.setCell ⟨C, 1, none⟩ (.int .i64 x)) C p0 p1 p2 p3 ⟨r.s, x⟩ := by
  have hcb := h.cb
  exact ⟨blk_far h.p (by simp) _, blk_set h.c 1 _, blk_far h.a (by simp; omega) _, h.f.setCell (Or.inl (by simp; omega)) _, h.cb⟩
theorem akCode_eq (r : Rd) : akCode r = if (decide (r.e = 0) && !r.s.isEmpty) = true then r.num 1 else (0, r) := by
  unfold akCode
  by_cases hs : r.s = []
  · rw [if_pos hs, if_neg (by simp [hs])]
  · rw [if_neg hs]
    by_cases he : r.e = 0
    · rw [if_pos (by simp [he, hs])]
    · rw [if_neg (by simp [he]), num_bad r 1 he]
theorem akProps_eq (k : Int) (r : Rd) : akProps k r = if (decide (r.e = 0) && !r.s.isEmpty) = true then takeP r k false else ([], r) := by
  unfold akProps
  by_cases hs : r.s = []
  · rw [if_pos hs, if_neg (by simp [hs])]
  · rw [if_neg hs]
    by_cases he : r.e = 0
    · rw [if_pos (by simp [he, hs])]
    · rw [if_neg (by simp [he]), takeP_bad r k false he]
set_option maxRecDepth 100000 in
set_option maxHeartbeats 4000000 in
theorem rpackparse_any (k : Int) (s : List UInt8) (w : World) (hs : s.length ≤ 1000000) :
    Calls Try.prog 47 #[.int .i64 k, .string ⟨s.toArray⟩] w (AckTo 120 (akParse k s) w) := by
  have F0 : Fr [] w (w.alloc (.cells #[.int .i64 0, .int .u32 0, .int .u8 0, .slice none 0 0] 42)) := (Fr.refl _ _).alloc _
  by_cases hk4 : k < 4
  · have HR : Hid (akParse k s = (noAk, 5)) := Lib.hid (by rw [akParse, if_pos (Or.inl hk4)])
    go_enter Try.func47, Try.ntmps47
    go_wp2
    refine bodyPost_ret (v := .tuple #[.agg #[.int .i64 0, .int .u32 0, .int .u8 0, .slice none 0 0], .int .i64 5]) (by simp [results, Try.results47, go_sem]) rfl ?_
    rw [HR.out]
    exact ⟨.slice none 0 0, rfl, World.ownsRow_nil _ _ _ _, F0⟩
  by_cases hk7 : 7 < k
  · have HR : Hid (akParse k s = (noAk, 5)) := Lib.hid (by rw [akParse, if_pos (Or.inr hk7)])
    go_enter Try.func47, Try.ntmps47
    go_wp2
    refine bodyPost_ret (v := .tuple #[.agg #[.int .i64 0, .int .u32 0, .int .u8 0, .slice none 0 0], .int .i64 5]) (by simp [results, Try.results47, go_sem]) rfl ?_
    rw [HR.out]
    exact ⟨.slice none 0 0, rfl, World.ownsRow_nil _ _ _ _, F0⟩
  have HR : Hid (akParse k s = if akE k s = 0 then (⟨k, (Rd.ident ⟨s, 0⟩).1, (akCode (Rd.ident ⟨s, 0⟩).2).1, (akProps k (akMay k (akCode (Rd.ident ⟨s, 0⟩).2))).1⟩, 0) else (noAk, akE k s)) := Lib.hid (by rw [akParse, if_neg (by omega)])
  unfold akE at HR
  have k4 : decide (k < 4) = false := by simpa using hk4
  have k7 : decide (7 < k) = false := by simpa using hk7
  have hb0 := blk_new w (.cells #[.int .i64 0, .int .u32 0, .int .u8 0, .slice none 0 0] 42)
  go_enter Try.func47, Try.ntmps47
  go_wp2_with fail
  refine (rident_any ⟨s, 0⟩ _ (by show s.length ≤ _; omega)).mono ?_
  rintro _ w2 ⟨rfl, g2⟩
  have hs2 : (Rd.ident ⟨s, 0⟩).2.s.length ≤ s.length := ident_left ⟨s, 0⟩
  generalize Rd.ident ⟨s, 0⟩ = T at *
  obtain ⟨id, r1⟩ := T
  dsimp only at hs2 HR ⊢
  have z2 := g2.size
  rw [World.size_alloc] at z2
  have H1 : Hid (RAS w ((w2.alloc (.cells #[.string ⟨r1.s.toArray⟩, .int .i64 r1.e] 125)).alloc (.cells #[.int .i64 k, .int .u32 (id : Int), .int .u8 0, .slice none 0 0] 42)) w2.heap.size (.int .i64 k) (.int .u32 (id : Int)) (.int .u8 0) (.slice none 0 0) r1) :=
    Lib.hid ⟨blk_at1 _ _ _, blk_old (blk_new _ _) _, blk_old (blk_old (g2.blk hb0 (by simp)) _) _, ((F0.trans g2 (by simp)).alloc _).alloc _, by omega⟩
  clear hb0 F0 g2
  go_upto_region 5 with (fail)
  obtain ⟨y, hy⟩ : ∃ y, (w2.alloc (.cells #[.string ⟨r1.s.toArray⟩, .int .i64 r1.e] 125)).alloc (.cells #[.int .i64 k, .int .u32 (id : Int), .int .u8 0, .slice none 0 0] 42) = y := ⟨_, rfl⟩
  obtain ⟨C, hC⟩ : ∃ C, w2.heap.size = C := ⟨_, rfl⟩
  rw [hy, hC] at H1 ⊢
  clear hy hC
  obtain ⟨⟨e0, e1, e2, e3⟩, ⟨k0, k1, k2, k3⟩, _⟩ := blk4_facts (H1.out).p
  obtain ⟨c0, c1, f0, f1, _⟩ := blk2_facts (H1.out).c
  go_cut [36] (fun v36 wx => v36 = .bool (decide (r1.e = 0) && !r1.s.isEmpty) ∧ y = wx)
  case first =>
    obtain ⟨S, e⟩ := r1
    by_cases he : e = 0
    · have e5 : (e == 0) = true := by simpa using he
      have d5 : decide (e = 0) = true := by simpa using he
      clear he
      cases S
      all_goals
        go_wp2
        go_meet
        rw [d5]
        exact ⟨rfl, rfl⟩
    · have e5 : (e == 0) = false := by simpa using he
      have d5 : decide (e = 0) = false := by simpa using he
      clear he
      go_wp2
      go_meet
      rw [d5]
      exact ⟨by rw [Bool.false_and], rfl⟩
  case rest =>
    obtain ⟨rfl, hwc⟩ := hcut
    rw [← hwc]
    clear hwc
    clear wc
    have hs3 : (akCode r1).2.s.length ≤ s.length ∧ (akCode r1).1 < 256 := by
      unfold akCode
      split
      · exact ⟨hs2, (by decide : (0 : Nat) < 256)⟩
      · have := r1.raw_left 1
        have h2 := r1.num_lt 1
        exact ⟨Nat.le_trans this hs2, by omega⟩
    have HC := Lib.hid (akCode_eq r1)
    generalize (decide (r1.e = 0) && !r1.s.isEmpty) = b at *
    generalize akCode r1 = T at *
    obtain ⟨c, r2⟩ := T
    dsimp only at hs3 HR
    obtain ⟨hs3, hc⟩ := hs3
    go_upto_if 36 with (fail)
    go_cut [] (fun wx => RAS w wx C (.int .i64 k) (.int .u32 (id : Int)) (.int .u8 (c : Int)) (.slice none 0 0) r2)
    case first =>
      cases b
      · rw [if_neg (by decide)] at HC
        go_wp2
        go_meet
        have := HC.out
        cases this
        exact H1.out
      · rw [if_pos rfl] at HC
        go_wp2_with fail
        refine (rnum_any r1 1 _ (by omega) (by decide) (by decide)).mono ?_
        rintro _ x ⟨rfl, gx⟩
        rw [show (1 : Int).toNat = 1 from rfl, ← HC.out]
        dsimp only
        have gx := gx.alloc (.cells #[.string ⟨r2.s.toArray⟩, .int .i64 r2.e] 125)
        have H2 := Lib.hid (((H1.out.go gx).setc r2).setp 2 (.int .u8 (c : Int)) _ _ _ _ rfl)
        clear e0 e1 e2 e3 k0 k1 k2 k3 c0 c1 f0 f1
        obtain ⟨⟨e0, e1, e2, e3⟩, ⟨k0, k1, k2, k3⟩, _⟩ := blk4_facts (H1.out.go gx).p
        obtain ⟨c0, c1, f0, f1, _⟩ := blk2_facts (H1.out.go gx).c
        have hce : (c : Int) % 256 = c := by omega
        go_wp2
        go_meet
        exact H2.out
    case rest =>
      clear H1 HC
      have H1 := Lib.hid hcut
      clear e0 e1 e2 e3 k0 k1 k2 k3 c0 c1 f0 f1
      clear hcut
      generalize wc = y at *
      obtain ⟨⟨e0, e1, e2, e3⟩, ⟨k0, k1, k2, k3⟩, _⟩ := blk4_facts (H1.out).p
      obtain ⟨c0, c1, f0, f1, _⟩ := blk2_facts (H1.out).c
      go_upto_region 9 with (fail)
      go_cut [56] (fun v56 wx => v56 = .bool (decide (r2.e = 0) && !mayC k c) ∧ RAS w wx C (.int .i64 k) (.int .u32 (id : Int)) (.int .u8 (c : Int)) (.slice none 0 0) r2)
      case first =>
        by_cases he : r2.e = 0
        · have e5 : (r2.e == 0) = true := by simpa using he
          have d5 : decide (r2.e = 0) = true := by simpa using he
          clear he
          go_wp2_with fail
          refine (rmayr_any k c hc _).mono ?_
          rintro _ x ⟨rfl, gx⟩
          go_wp2
          go_meet
          rw [d5]
          exact ⟨by rw [Bool.true_and], H1.out.go gx⟩
        · have e5 : (r2.e == 0) = false := by simpa using he
          have d5 : decide (r2.e = 0) = false := by simpa using he
          clear he
          go_wp2
          go_meet
          rw [d5]
          exact ⟨by rw [Bool.false_and], H1.out⟩
      case rest =>
        obtain ⟨rfl, hcut⟩ := hcut
        clear H1
        have H1 := Lib.hid hcut
        clear e0 e1 e2 e3 k0 k1 k2 k3 c0 c1 f0 f1
        clear hcut
        generalize wc = y at *
        obtain ⟨⟨e0, e1, e2, e3⟩, ⟨k0, k1, k2, k3⟩, _⟩ := blk4_facts (H1.out).p
        obtain ⟨c0, c1, f0, f1, _⟩ := blk2_facts (H1.out).c
        have hm4 : (akMay k (c, r2)).s.length ≤ s.length := by
          unfold akMay Rd.fail
          split
          · exact hs3
          · split <;> exact hs3
        have HM : Hid (akMay k (c, r2) = if (decide (r2.e = 0) && !mayC k c) = true then ⟨r2.s, 2⟩ else r2) := Lib.hid (by
          unfold akMay
          dsimp only
          by_cases he : r2.e = 0
          · cases mayC k c <;> simp [he, Rd.fail]
          · rw [fail_bad r2 2 he]; simp [he])
        generalize akMay k (c, r2) = r3 at *
        generalize (decide (r2.e = 0) && !mayC k c) = b at *
        go_upto_if 56 with (fail)
        go_cut [] (fun wx => RAS w wx C (.int .i64 k) (.int .u32 (id : Int)) (.int .u8 (c : Int)) (.slice none 0 0) r3)
        case first =>
          cases b
          · rw [if_neg (by decide)] at HM
            go_wp2
            go_meet
            rw [HM.out]
            exact H1.out
          · rw [if_pos rfl] at HM
            have H2 := Lib.hid (H1.out.sete 2)
            go_wp2
            go_meet
            rw [HM.out]
            exact H2.out
        case rest =>
          clear H1 HM
          have H1 := Lib.hid hcut
          clear e0 e1 e2 e3 k0 k1 k2 k3 c0 c1 f0 f1
          clear hcut
          generalize wc = y at *
          obtain ⟨⟨e0, e1, e2, e3⟩, ⟨k0, k1, k2, k3⟩, _⟩ := blk4_facts (H1.out).p
          obtain ⟨c0, c1, f0, f1, _⟩ := blk2_facts (H1.out).c
          go_upto_region 11 with (fail)
          go_cut [65] (fun v65 wx => v65 = .bool (decide (r3.e = 0) && !r3.s.isEmpty) ∧ y = wx)
          case first =>
            obtain ⟨S, e⟩ := r3
            by_cases he : e = 0
            · have e5 : (e == 0) = true := by simpa using he
              have d5 : decide (e = 0) = true := by simpa using he
              clear he
              cases S
              all_goals
                go_wp2
                go_meet
                rw [d5]
                exact ⟨rfl, rfl⟩
            · have e5 : (e == 0) = false := by simpa using he
              have d5 : decide (e = 0) = false := by simpa using he
              clear he
              go_wp2
              go_meet
              rw [d5]
              exact ⟨by rw [Bool.false_and], rfl⟩
          case rest =>
            obtain ⟨rfl, hwc⟩ := hcut
            rw [← hwc]
            clear hwc
            clear wc
            have HK := Lib.hid (akProps_eq k r3)
            generalize (decide (r3.e = 0) && !r3.s.isEmpty) = b at *
            generalize akProps k r3 = R at *
            obtain ⟨l, r4⟩ := R
            dsimp only at HR
            go_upto_if 65 with (fail)
            go_cut [] (fun wx => ∃ A4 c4, RAS w wx C (.int .i64 k) (.int .u32 (id : Int)) (.int .u8 (c : Int)) (.slice A4 l.length c4) r4 ∧ wx.ownsRow y.heap.size 120 4 (.slice A4 l.length c4) l.length (l.flatMap prE))
            case first =>
              cases b
              · rw [if_neg (by decide)] at HK
                go_wp2
                go_meet
                have := HK.out
                cases this
                exact ⟨none, 0, H1.out, World.ownsRow_nil _ _ _ _⟩
              · rw [if_pos rfl] at HK
                go_wp2_with fail
                refine (rprops_any r3 k false _ (by omega)).mono ?_
                rw [← HK.out]
                rintro _ x ⟨v, rfl, own5, gx⟩
                dsimp only at own5 ⊢
                obtain ⟨A4, c4, rfl⟩ := own_shape own5
                have hlow := Lib.hid (fun k hk => (own5.lt k hk).1)
                have gx := gx.alloc (.cells #[.string ⟨r4.s.toArray⟩, .int .i64 r4.e] 125)
                have hCy : C + 1 < y.heap.size := blk_lt H1.out.p
                have H2 := Lib.hid (((H1.out.go gx).setc r4).setp 3 (.slice A4 l.length c4) _ _ _ _ rfl)
                have own6 := own5.alloc (.cells #[.string ⟨r4.s.toArray⟩, .int .i64 r4.e] 125)
                have own7 := own_set (own_set own6 (p := ⟨C, 0, none⟩) (by intro e; have := hlow.out _ e.symm; simp at this; omega) (.string ⟨r4.s.toArray⟩)) (p := ⟨C, 1, none⟩) (by intro e; have := hlow.out _ e.symm; simp at this; omega) (.int .i64 r4.e)
                have own8 := Lib.hid (own_set own7 (p := ⟨C + 1, 3, none⟩) (by intro e; have := hlow.out _ e.symm; simp at this; omega) (.slice A4 l.length c4))
                clear own5 own6 own7
                clear e0 e1 e2 e3 k0 k1 k2 k3 c0 c1 f0 f1
                obtain ⟨⟨e0, e1, e2, e3⟩, ⟨k0, k1, k2, k3⟩, _⟩ := blk4_facts (H1.out.go gx).p
                obtain ⟨c0, c1, f0, f1, _⟩ := blk2_facts (H1.out.go gx).c
                go_wp2
                go_meet
                exact ⟨A4, c4, H2.out, own8.out⟩
            case rest =>
              obtain ⟨A4, c4, hcut, own6⟩ := hcut
              have hyw : w.heap.size < y.heap.size := by have := H1.out.cb; have := blk_lt H1.out.c; omega
              clear H1 HK
              have H1 := Lib.hid hcut
              clear e0 e1 e2 e3 k0 k1 k2 k3 c0 c1 f0 f1
              clear hcut
              have hlow := Lib.hid (fun k hk => (own6.lt k hk).1)
              obtain ⟨⟨e0, e1, e2, e3⟩, ⟨k0, k1, k2, k3⟩, _⟩ := blk4_facts (H1.out).p
              obtain ⟨c0, c1, f0, f1, _⟩ := blk2_facts (H1.out).c
              go_wp2_with fail
              refine (end6_any r4.s r4.e _).mono ?_
              rintro _ x8 ⟨rfl, g8⟩
              have H8 := Lib.hid (H1.out.go g8)
              have own9 := Lib.hid (own_fr g8 own6 (by simp))
              clear H1 own6 g8
              clear e0 e1 e2 e3 k0 k1 k2 k3 c0 c1 f0 f1
              obtain ⟨⟨e0, e1, e2, e3⟩, ⟨k0, k1, k2, k3⟩, _⟩ := blk4_facts (H8.out).p
              obtain ⟨c0, c1, f0, f1, _⟩ := blk2_facts (H8.out).c
              obtain ⟨E, hE0⟩ : ∃ E, Rd.ends ⟨r4.s, r4.e⟩ = E := ⟨_, rfl⟩
              rw [hE0]
              rw [show r4.ends = E from hE0] at HR
              by_cases hE : E = 0
              · have E0 : (E != 0) = false := by simpa using hE
                rw [if_pos hE] at HR
                clear hE hE0
                obtain ⟨d0, d1, d2, d3⟩ := (blk4_facts H8.out.a).1
                obtain ⟨g0, g1, g2, g3⟩ := (blk4_facts H8.out.a).2.1
                have HZ := Lib.hid (blk4_set H8.out.a (.int .i64 k) (.int .u32 (id : Int)) (.int .u8 (c : Int)) (.slice A4 l.length c4))
                have FZ := Lib.hid (fr4_set H8.out.f (b := w.heap.size) (Nat.le_refl _) (.int .i64 k) (.int .u32 (id : Int)) (.int .u8 (c : Int)) (.slice A4 l.length c4))
                have OZ := Lib.hid (own_base (own_set4 own9.out (b := w.heap.size) (by intro e; have := hlow.out _ e.symm; omega) (.int .i64 k) (.int .u32 (id : Int)) (.int .u8 (c : Int)) (.slice A4 l.length c4)) (base' := w.heap.size) (fun k hk => by have := hlow.out k hk; omega))
                go_wp2
                change bodyPost _ _ _ _ _ (set4 x8 w.heap.size (.int .i64 k) (.int .u32 (id : Int)) (.int .u8 (c : Int)) (.slice A4 l.length c4))
                generalize set4 x8 w.heap.size (.int .i64 k) (.int .u32 (id : Int)) (.int .u8 (c : Int)) (.slice A4 l.length c4) = W5 at *
                clear d0 d1 d2 d3 g0 g1 g2 g3
                clear e0 e1 e2 e3 k0 k1 k2 k3 c0 c1 f0 f1
                obtain ⟨e0, e1, e2, e3⟩ := (blk4_facts HZ.out).1
                refine bodyPost_ret (v := .tuple #[.agg #[.int .i64 k, .int .u32 (id : Int), .int .u8 (c : Int), .slice A4 l.length c4], .int .i64 0]) (by simp [results, Try.results47, go_sem, e0, e1, e2, e3]) rfl ?_
                rw [HR.out]
                exact ⟨.slice A4 l.length c4, rfl, OZ.out, FZ.out⟩
              · have E0 : (E != 0) = true := by simpa using hE
                rw [if_neg hE] at HR
                clear hE
                go_wp2_with fail
                refine (end6_any r4.s r4.e _).mono ?_
                rintro _ x9 ⟨rfl, g9⟩
                rw [hE0]
                have H9 := Lib.hid (H8.out.go g9)
                clear H8 g9 own9 hE0
                clear e0 e1 e2 e3 k0 k1 k2 k3 c0 c1 f0 f1
                obtain ⟨d0, d1, d2, d3⟩ := (blk4_facts H9.out.a).1
                obtain ⟨g0, g1, g2, g3⟩ := (blk4_facts H9.out.a).2.1
                have HZ := Lib.hid (blk4_set H9.out.a (.int .i64 0) (.int .u32 0) (.int .u8 0) (.slice none 0 0))
                have FZ := Lib.hid (fr4_set H9.out.f (b := w.heap.size) (Nat.le_refl _) (.int .i64 0) (.int .u32 0) (.int .u8 0) (.slice none 0 0))
                go_wp2
                change bodyPost _ _ _ _ _ (set4 x9 w.heap.size (.int .i64 0) (.int .u32 0) (.int .u8 0) (.slice none 0 0))
                generalize set4 x9 w.heap.size (.int .i64 0) (.int .u32 0) (.int .u8 0) (.slice none 0 0) = W5 at *
                clear d0 d1 d2 d3 g0 g1 g2 g3
                obtain ⟨e0, e1, e2, e3⟩ := (blk4_facts HZ.out).1
                refine bodyPost_ret (v := .tuple #[.agg #[.int .i64 0, .int .u32 0, .int .u8 0, .slice none 0 0], .int .i64 E]) (by simp [results, Try.results47, go_sem, e0, e1, e2, e3]) rfl ?_
                rw [HR.out]
                exact ⟨.slice none 0 0, rfl, World.ownsRow_nil _ _ _ _, FZ.out⟩
end Go.Proofs.Ytlhkgalmiajinaa
