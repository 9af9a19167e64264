/- The walk of the law PublishZero. -/
import Derived.Test.YtlhkgalmiajinaaPublishOne
import Derived.Test.YtlhkgalmiajinaaLetters
import Derived.Test.YtlhkgalmiajinaaDrawn
import Derived.Test.YtlhkgalmiajinaaPubO
import Derived.Deep.DrawnRows
namespace Go.Proofs.Ytlhkgalmiajinaa
open Go.RowKit
set_option linter.unusedSimpArgs false
set_option linter.unusedVariables false
attribute [local go_sem ↓] Go.wp_at_zero Go.wp_at_succ

theorem and1_fin : ∀ q : Fin 256, bits .and .u8 (q.val : Int) 1 = ((q.val % 2 : Nat) : Int) := by decide +kernel
set_option maxRecDepth 100000 in
set_option maxHeartbeats 40000000 in
theorem publishZero_walk (p : Pb) (v : Value) (a1 : Int) (w1 : (Lit.int .i64 a1).wf = true) (w : World) (hq : p.qos < 256) (ht : p.topic.length ≤ 9223372036854775807) (hy : p.pay.length ≤ 9223372036854775807) (hv : View w v p.props.length (p.props.flatMap prE)) :
    Calls Try.prog 9 #[.agg (pbC p v).toArray, .int .i64 a1] w fun e w' => e = .returned (.bool true) ∧ Fr [] w w' := by
  have _ := w1
  clear w1
  obtain ⟨dup, ret, q, id, l, t, y⟩ := p
  dsimp only at hq ht hy hv
  obtain ⟨A, cp, rfl, _⟩ := hv
  have ha := and3 a1
  obtain ⟨m, hm⟩ := Int.eq_ofNat_of_zero_le (show 0 ≤ a1 % 4 by omega)
  have hm4 : m < 4 := by omega
  rw [hm] at ha
  clear hm
  obtain ⟨k, hk⟩ : ∃ k : Nat, k = 4 + m := ⟨_, rfl⟩
  have hk0 : 4 ≤ k := by omega
  have hk7 : k ≤ 7 := by omega
  have hkm : 4 + (m : Int) = (k : Int) := by omega
  have HK := Lib.hid (And.intro hk hm4)
  clear hk hm4
  have hq1 := and1_fin ⟨q, hq⟩
  dsimp only at hq1
  obtain ⟨Q, hQ⟩ : ∃ Q : Nat, Q = 1 + q % 2 := ⟨_, rfl⟩
  have hQ0 : 0 < Q := by omega
  have hQ3 : Q < 3 := by omega
  have hQm : 1 + ((q % 2 : Nat) : Int) = (Q : Int) := by omega
  generalize q % 2 = r at *
  have hQw : IntKind.wrap .u8 (Q : Int) = (Q : Int) := by rw [IntKind.wrap_u8]; omega
  have HQ := Lib.hid hQ
  clear hQ
  have hb0 := blk_new w (.cells (pbC ⟨dup, ret, q, id, l, t, y⟩ (.slice A l.length cp)).toArray 26)
  have F0 : Fr [] w (w.alloc (.cells (pbC ⟨dup, ret, q, id, l, t, y⟩ (.slice A l.length cp)).toArray 26)) := (Fr.refl _ _).alloc _
  unfold pbC at hb0 F0 ⊢
  go_enter Try.func9, Try.ntmps9
  go_wp2_with fail
  refine (awake7_any _).mono ?_
  rintro _ w1 ⟨rfl, g1⟩
  have hb1 := g1.blk hb0 (by simp)
  have F1 := Lib.hid (F0.trans g1 (by simp))
  clear hb0 F0 g1
  obtain ⟨⟨e0, e1, e2, e3, e4, e5, e6⟩, _, _⟩ := blk7_facts hb1
  have HB := Lib.hid hb1
  go_upto_region 3 with (fail)
  go_cut [5] (fun v5 wx => ∃ b, v5 = .pointer (some ⟨b, 0, none⟩) ∧ wx.heap[b]? = some (.cells #[.bool false, .bool false, .int .u8 (Q : Int), .int .u32 0, .slice none 0 0, .string ⟨(lettersB (t.take 20)).toArray⟩, .string ⟨(y.take 50).toArray⟩] 26 (0, 0)) ∧ Fr [] w wx)
  case first =>
    refine wp_region_late [] (S := fun w' => w'.cell? ⟨w.heap.size, 2, none⟩ = some (.int .u8 (q : Int)) ∧ w'.cell? ⟨w.heap.size, 5, none⟩ = some (.string ⟨t.toArray⟩) ∧ w'.cell? ⟨w.heap.size, 6, none⟩ = some (.string ⟨y.toArray⟩)) (by kernel_rfl) ⟨e2, e5, e6⟩ (fun hHeld => ?_)
    have fd := (Fr.refl [] w1).drew
    have hbd := fd.blk HB.out (by simp)
    obtain ⟨wd, hwd⟩ : ∃ wd, w1.drew = wd := ⟨_, rfl⟩
    rw [hwd] at hHeld fd hbd ⊢
    clear hwd e0 e1 e2 e3 e4 e5 e6
    obtain ⟨⟨e0, e1, e2, e3, e4, e5, e6⟩, _, _⟩ := blk7_facts hbd
    have HBd := Lib.hid hbd
    clear hbd
    refine wpLate_take (i := 0) (oi := _) (v := ?_) rfl (by kernel_rfl) (by kernel_rfl) (by kernel_rfl) (by kernel_rfl) (fun _ _ _ h => h) (Gives.load (by rfl) ?_) hHeld ?_
    rotate_left
    · intro w hSw
      (try dsimp only at hSw)
      go_simp
      try with_reducible rfl
    try simp only [Act.put, List.getElem_toArray, List.getElem_cons_succ, List.getElem_cons_zero, List.setIfInBounds_toArray, List.set_cons_zero, List.set_cons_succ]
    refine wpLate_take (i := 1) (oi := _) (v := ?_) rfl (by kernel_rfl) (by kernel_rfl) (by kernel_rfl) (by kernel_rfl) (fun _ _ _ h => h) (Gives.load (by rfl) ?_) hHeld ?_
    rotate_left
    · intro w hSw
      (try dsimp only at hSw)
      go_simp
      try with_reducible rfl
    try simp only [Act.put, List.getElem_toArray, List.getElem_cons_succ, List.getElem_cons_zero, List.setIfInBounds_toArray, List.set_cons_zero, List.set_cons_succ]
    refine wpLate_take (i := 2) (oi := _) (v := ?_) rfl (by kernel_rfl) (by kernel_rfl) (by kernel_rfl) (by kernel_rfl) (fun _ _ _ h => h) (Gives.load (by rfl) ?_) hHeld ?_
    rotate_left
    · intro w hSw
      (try dsimp only at hSw)
      go_simp
      try with_reducible rfl
    try simp only [Act.put, List.getElem_toArray, List.getElem_cons_succ, List.getElem_cons_zero, List.setIfInBounds_toArray, List.set_cons_zero, List.set_cons_succ]
    refine wpLate_take (i := 3) (oi := _) (v := ?_) rfl (by kernel_rfl) (by kernel_rfl) (by kernel_rfl) (by kernel_rfl) (fun _ _ _ h => h) (Gives.load (by rfl) ?_) hHeld ?_
    rotate_left
    · intro w hSw
      (try dsimp only at hSw)
      go_simp
      try with_reducible rfl
    try simp only [Act.put, List.getElem_toArray, List.getElem_cons_succ, List.getElem_cons_zero, List.setIfInBounds_toArray, List.set_cons_zero, List.set_cons_succ]
    refine wpLate_take (i := 4) (oi := _) (v := ?_) rfl (by kernel_rfl) (by kernel_rfl) (by kernel_rfl) (by kernel_rfl) (fun _ _ _ h => h) (Gives.load (by rfl) ?_) hHeld ?_
    rotate_left
    · intro w hSw
      (try dsimp only at hSw)
      go_simp
      try with_reducible rfl
    try simp only [Act.put, List.getElem_toArray, List.getElem_cons_succ, List.getElem_cons_zero, List.setIfInBounds_toArray, List.set_cons_zero, List.set_cons_succ]
    refine wpLate_take (i := 5) (oi := _) (v := ?_) rfl (by kernel_rfl) (by kernel_rfl) (by kernel_rfl) (by kernel_rfl) (fun _ _ _ h => h) (Gives.load (by rfl) ?_) hHeld ?_
    rotate_left
    · intro w hSw
      (try dsimp only at hSw)
      go_simp
      try with_reducible rfl
    try simp only [Act.put, List.getElem_toArray, List.getElem_cons_succ, List.getElem_cons_zero, List.setIfInBounds_toArray, List.set_cons_zero, List.set_cons_succ]
    try rw [hQw]
    refine wpLate_take (i := 7) (oi := _) (v := ?_) rfl (by kernel_rfl) (by kernel_rfl) (by kernel_rfl) (by kernel_rfl) (fun _ _ _ h => h) (Gives.load (by rfl) ?_) hHeld ?_
    rotate_left
    · intro w hSw
      (try dsimp only at hSw)
      go_simp
      try with_reducible rfl
    try simp only [Act.put, List.getElem_toArray, List.getElem_cons_succ, List.getElem_cons_zero, List.setIfInBounds_toArray, List.set_cons_zero, List.set_cons_succ]
    refine wpLate_take (i := 8) (oi := _) (v := ?_) rfl (by kernel_rfl) (by kernel_rfl) (by kernel_rfl) (by kernel_rfl) (fun _ _ _ h => h) (Gives.load (by rfl) ?_) hHeld ?_
    rotate_left
    · intro w hSw
      (try dsimp only at hSw)
      go_simp
      try with_reducible rfl
    try simp only [Act.put, List.getElem_toArray, List.getElem_cons_succ, List.getElem_cons_zero, List.setIfInBounds_toArray, List.set_cons_zero, List.set_cons_succ]
    refine wpLate_ready (rs := [6, 11]) (by kernel_rfl) (by simp) ?_
    refine AllLate.cons (o := _) rfl (fun K hK => ?_) ?_
    · go_simp
      refine (letters_law07 t ht _).mono ?_
      rintro _ x ⟨rfl, f⟩
      go_wp2_with fail
      refine hK.out _ _ (fun _ => ⟨(f).cell e2 (by simp), (f).cell e5 (by simp), (f).cell e6 (by simp)⟩) (fun hHeld => ?_)
      replace hHeld := hHeld (by kernel_rfl)
      clear hK K
      try simp only [Act.put, List.getElem_toArray, List.getElem_cons_succ, List.getElem_cons_zero, List.setIfInBounds_toArray, List.set_cons_zero, List.set_cons_succ]
      refine wpLate_pure (i := 9) (oi := _) (v := .string ⟨(y.take 50).toArray⟩) rfl (by kernel_rfl) (by kernel_rfl) (by kernel_rfl) (by kernel_rfl) (fun _ _ _ h => h) (Gives.quiet 36 #[.string ⟨y.toArray⟩, .int .i64 50] (by rfl) ?_ (fun w => cut_any y 50 w hy (by decide))) (fun _ => hHeld) ?_
      · intro w
        go_simp
      try simp only [Act.put, List.getElem_toArray, List.getElem_cons_succ, List.getElem_cons_zero, List.setIfInBounds_toArray, List.set_cons_zero, List.set_cons_succ]
      refine wpLate_pure (i := 10) (oi := _) (v := ?_) rfl (by kernel_rfl) (by kernel_rfl) (by kernel_rfl) (by kernel_rfl) (fun _ _ _ h => h) (Gives.load (by rfl) ?_) (fun _ => hHeld) ?_
      rotate_left
      · intro w hSw
        clear hSw
        go_simp
        try with_reducible rfl
      try simp only [Act.put, List.getElem_toArray, List.getElem_cons_succ, List.getElem_cons_zero, List.setIfInBounds_toArray, List.set_cons_zero, List.set_cons_succ]
      refine wpLate_ready (rs := [11]) (by kernel_rfl) (by simp) ?_
      refine AllLate.cons (o := _) rfl (fun K hK => ?_) ?_
      · go_simp
        have fx := f.alloc (.cells #[.bool false, .bool false, .int .u8 0, .int .u32 0, .slice none 0 0, .string ⟨#[]⟩, .string ⟨#[]⟩] 26)
        refine hK.out _ _ (fun _ => ⟨(fx).cell e2 (by simp), (fx).cell e5 (by simp), (fx).cell e6 (by simp)⟩) (fun hHeld => ?_)
        replace hHeld := hHeld (by kernel_rfl)
        clear hK K
        try simp only [Act.put, List.getElem_toArray, List.getElem_cons_succ, List.getElem_cons_zero, List.setIfInBounds_toArray, List.set_cons_zero, List.set_cons_succ]
        refine wpLate_ready (rs := [12]) (by kernel_rfl) (by simp) ?_
        refine AllLate.cons (o := _) rfl (fun K hK => ?_) ?_
        · go_simp
          have fy := f.alloc (.cells #[.bool false, .bool false, .int .u8 (Q : Int), .int .u32 0, .slice none 0 0, .string ⟨(lettersB (t.take 20)).toArray⟩, .string ⟨(y.take 50).toArray⟩] 26)
          refine hK.out _ _ (fun _ => ⟨(fy).cell e2 (by simp), (fy).cell e5 (by simp), (fy).cell e6 (by simp)⟩) (fun hHeld => ?_)
          replace hHeld := hHeld (by kernel_rfl)
          clear hK K
          try simp only [Act.put, List.getElem_toArray, List.getElem_cons_succ, List.getElem_cons_zero, List.setIfInBounds_toArray, List.set_cons_zero, List.set_cons_succ]
          refine wpLate_done (by kernel_rfl) ?_ _
          go_wp2
          go_meet
          exact ⟨x.heap.size, rfl, blk_new _ _, (F1.out.trans (fd.trans f (by simp)) (by simp)).alloc _⟩
        exact AllLate.nil
      exact AllLate.nil
    refine AllLate.cons (o := _) rfl (fun K hK => ?_) ?_
    · go_simp
      have fa := (Fr.refl [] wd).alloc (.cells #[.bool false, .bool false, .int .u8 0, .int .u32 0, .slice none 0 0, .string ⟨#[]⟩, .string ⟨#[]⟩] 26)
      have na := blk_new wd (.cells #[.bool false, .bool false, .int .u8 0, .int .u32 0, .slice none 0 0, .string ⟨#[]⟩, .string ⟨#[]⟩] 26)
      refine hK.out _ _ (fun _ => ⟨(fa).cell e2 (by simp), (fa).cell e5 (by simp), (fa).cell e6 (by simp)⟩) (fun hHeld => ?_)
      replace hHeld := hHeld (by kernel_rfl)
      clear hK K
      try simp only [Act.put, List.getElem_toArray, List.getElem_cons_succ, List.getElem_cons_zero, List.setIfInBounds_toArray, List.set_cons_zero, List.set_cons_succ]
      refine wpLate_ready (rs := [6]) (by kernel_rfl) (by simp) ?_
      refine AllLate.cons (o := _) rfl (fun K hK => ?_) ?_
      · go_simp
        refine (letters_law07 t ht _).mono ?_
        rintro _ x ⟨rfl, f⟩
        go_wp2_with fail
        have fx := fa.trans f (by simp)
        have nb := f.blk na (by simp)
        refine hK.out _ _ (fun _ => ⟨(fx).cell e2 (by simp), (fx).cell e5 (by simp), (fx).cell e6 (by simp)⟩) (fun hHeld => ?_)
        replace hHeld := hHeld (by kernel_rfl)
        clear hK K
        try simp only [Act.put, List.getElem_toArray, List.getElem_cons_succ, List.getElem_cons_zero, List.setIfInBounds_toArray, List.set_cons_zero, List.set_cons_succ]
        refine wpLate_pure (i := 9) (oi := _) (v := .string ⟨(y.take 50).toArray⟩) rfl (by kernel_rfl) (by kernel_rfl) (by kernel_rfl) (by kernel_rfl) (fun _ _ _ h => h) (Gives.quiet 36 #[.string ⟨y.toArray⟩, .int .i64 50] (by rfl) ?_ (fun w => cut_any y 50 w hy (by decide))) (fun _ => hHeld) ?_
        · intro w
          go_simp
        try simp only [Act.put, List.getElem_toArray, List.getElem_cons_succ, List.getElem_cons_zero, List.setIfInBounds_toArray, List.set_cons_zero, List.set_cons_succ]
        refine wpLate_pure (i := 10) (oi := _) (v := ?_) rfl (by kernel_rfl) (by kernel_rfl) (by kernel_rfl) (by kernel_rfl) (fun _ _ _ h => h) (Gives.load (by rfl) ?_) (fun _ => hHeld) ?_
        rotate_left
        · intro w hSw
          clear hSw
          go_simp
          try with_reducible rfl
        try simp only [Act.put, List.getElem_toArray, List.getElem_cons_succ, List.getElem_cons_zero, List.setIfInBounds_toArray, List.set_cons_zero, List.set_cons_succ]
        obtain ⟨⟨n0, n1, n2, n3, n4, n5, n6⟩, ⟨m0, m1, m2, m3, m4, m5, m6⟩, nl⟩ := blk7_facts nb
        have FS := (set7_fr x wd.heap.size (.bool false) (.bool false) (.int .u8 (Q : Int)) (.int .u32 0) (.slice none 0 0) (.string ⟨(lettersB (t.take 20)).toArray⟩) (.string ⟨(y.take 50).toArray⟩))
        have hwl : w.heap.size < wd.heap.size := blk_lt HBd.out
        refine wpLate_ready (rs := [12]) (by kernel_rfl) (by simp) ?_
        refine AllLate.cons (o := _) rfl (fun K hK => ?_) ?_
        · go_simp
          change K _ (set7 x wd.heap.size (.bool false) (.bool false) (.int .u8 (Q : Int)) (.int .u32 0) (.slice none 0 0) (.string ⟨(lettersB (t.take 20)).toArray⟩) (.string ⟨(y.take 50).toArray⟩))
          refine hK.out _ _ (fun _ => ⟨FS.cell (fx.cell e2 (by simp)) (by simp; omega), FS.cell (fx.cell e5 (by simp)) (by simp; omega), FS.cell (fx.cell e6 (by simp)) (by simp; omega)⟩) (fun hHeld => ?_)
          replace hHeld := hHeld (by kernel_rfl)
          clear hK K
          try simp only [Act.put, List.getElem_toArray, List.getElem_cons_succ, List.getElem_cons_zero, List.setIfInBounds_toArray, List.set_cons_zero, List.set_cons_succ]
          refine wpLate_done (by kernel_rfl) ?_ _
          go_wp2_with fail
          go_meet
          exact ⟨wd.heap.size, rfl, blk7_set nb (.bool false) (.bool false) (.int .u8 (Q : Int)) (.int .u32 0) (.slice none 0 0) (.string ⟨(lettersB (t.take 20)).toArray⟩) (.string ⟨(y.take 50).toArray⟩), fr7_set (F1.out.trans (fd.trans fx (by simp)) (by simp)) (by have := F1.out.size; have := fd.size; omega) (.bool false) (.bool false) (.int .u8 (Q : Int)) (.int .u32 0) (.slice none 0 0) (.string ⟨(lettersB (t.take 20)).toArray⟩) (.string ⟨(y.take 50).toArray⟩)⟩
        exact AllLate.nil
      exact AllLate.nil
    exact AllLate.nil
  case rest =>
    obtain ⟨b, rfl, hbb, F2⟩ := hcut
    clear e0 e1 e2 e3 e4 e5 e6 F1 HB hb1
    generalize wc = z at *
    obtain ⟨⟨e0, e1, e2, e3, e4, e5, e6⟩, _, _⟩ := blk7_facts hbb
    have HB := Lib.hid hbb
    have F2 := Lib.hid F2
    have h20 : (t.take 20).length ≤ 20 := List.length_take_le _ _
    have h50 : (y.take 50).length ≤ 50 := List.length_take_le _ _
    clear hbb
    have hfl : pbFlags ⟨false, false, Q, 0, [], lettersB (t.take 20), y.take 50⟩ = Q * 2 := by
      show Q % 4 * 2 + 0 + 0 = Q * 2
      omega
    have htx : pbText ⟨false, false, Q, 0, [], lettersB (t.take 20), y.take 50⟩ = dataB (lettersB (t.take 20)) ++ (two 0 ++ (propsB [] ++ y.take 50)) := by
      show _ ++ ((if 0 < Q then two 0 else []) ++ _) = _
      rw [if_pos hQ0]
    have hlt : (dataB (lettersB (t.take 20)) ++ (two 0 ++ (propsB [] ++ y.take 50))).length ≤ 1000000 := by
      have h1 := dataB_len (lettersB (t.take 20))
      have h2 : (propsB []).length = 1 := by decide
      simp only [List.length_append, h2, two_len]; omega
    have HPZ := Lib.hid (zero_pub Q hQ0 hQ3 (Q * 2) (by omega) (t.take 20) (propsB [] ++ y.take 50) (by omega))
    have HFL := Lib.hid hfl
    have HTX := Lib.hid htx
    have HLT := Lib.hid hlt
    clear hfl htx hlt
    go_upto_region 4 with (fail)
    go_cut [6, 7] (fun v6 v7 wx => v7 = .int .i64 3 ∧ Fr [] w wx)
    case first =>
      refine wp_region_late [] (S := fun w' => w'.cell? ⟨b, 0, none⟩ = some (.bool false) ∧ w'.cell? ⟨b, 1, none⟩ = some (.bool false) ∧ w'.cell? ⟨b, 2, none⟩ = some (.int .u8 (Q : Int)) ∧ w'.cell? ⟨b, 3, none⟩ = some (.int .u32 0) ∧ w'.cell? ⟨b, 4, none⟩ = some (.slice none 0 0) ∧ w'.cell? ⟨b, 5, none⟩ = some (.string ⟨(lettersB (t.take 20)).toArray⟩) ∧ w'.cell? ⟨b, 6, none⟩ = some (.string ⟨(y.take 50).toArray⟩)) (by kernel_rfl) ⟨e0, e1, e2, e3, e4, e5, e6⟩ (fun hHeld => ?_)
      have fd := (Fr.refl [] z).drew
      have hbd := fd.blk HB.out (by simp)
      obtain ⟨zd, hzd⟩ : ∃ zd, z.drew = zd := ⟨_, rfl⟩
      rw [hzd] at hHeld fd hbd ⊢
      clear hzd e0 e1 e2 e3 e4 e5 e6
      have HBz := Lib.hid hbd
      clear hbd
      refine wpLate_take (i := 0) (oi := _) (v := ?_) rfl (by kernel_rfl) (by kernel_rfl) (by kernel_rfl) (by kernel_rfl) (fun _ _ _ h => h) (Gives.load (by rfl) ?_) hHeld ?_
      rotate_left
      · intro w hSw
        (try dsimp only at hSw)
        go_simp
        try with_reducible rfl
      try simp only [Act.put, List.getElem_toArray, List.getElem_cons_succ, List.getElem_cons_zero, List.setIfInBounds_toArray, List.set_cons_zero, List.set_cons_succ]
      refine wpLate_take (i := 2) (oi := _) (v := ?_) rfl (by kernel_rfl) (by kernel_rfl) (by kernel_rfl) (by kernel_rfl) (fun _ _ _ h => h) (Gives.load (by rfl) ?_) hHeld ?_
      rotate_left
      · intro w hSw
        (try dsimp only at hSw)
        go_simp
        try with_reducible rfl
      try simp only [Act.put, List.getElem_toArray, List.getElem_cons_succ, List.getElem_cons_zero, List.setIfInBounds_toArray, List.set_cons_zero, List.set_cons_succ]
      refine wpLate_ready (rs := [1, 8]) (by kernel_rfl) (by simp) ?_
      refine AllLate.cons (o := _) rfl (fun K hK => ?_) ?_
      · go_simp
        refine (pflags_any ⟨false, false, Q, 0, [], lettersB (t.take 20), y.take 50⟩ (.slice none 0 0) _ (by show Q < 256; omega)).mono ?_
        rintro _ x0 ⟨rfl, f⟩
        rw [HFL.out]
        go_wp2_with fail
        have f0 := (Fr.refl [] zd).trans f (by simp)
        clear f
        refine hK.out _ _ (fun _ => (blk7_facts ((f0).blk HBz.out (by simp))).1) (fun hHeld => ?_)
        replace hHeld := hHeld (by kernel_rfl)
        clear hK K
        try simp only [Act.put, List.getElem_toArray, List.getElem_cons_succ, List.getElem_cons_zero, List.setIfInBounds_toArray, List.set_cons_zero, List.set_cons_succ]
        refine wpLate_ready (rs := [3, 8]) (by kernel_rfl) (by simp) ?_
        refine AllLate.cons (o := _) rfl (fun K hK => ?_) ?_
        · go_simp
          refine (ptext_any ⟨false, false, Q, 0, [], lettersB (t.take 20), y.take 50⟩ (.slice none 0 0) _ (by show Q < 256; omega) (by show (0 : Nat) < _; omega) (View.nil _) (by show (0 : Nat) ≤ 1000; omega) (by intro x hx; exact absurd hx (by show ¬ x ∈ []; simp)) (by show (lettersB (t.take 20)).length ≤ _; rw [lettersB_len]; omega) (by show (y.take 50).length ≤ _; omega)).mono ?_
          rintro _ x1 ⟨rfl, f⟩
          rw [HTX.out]
          go_wp2_with fail
          have f1 := (f0).trans f (by simp)
          clear f
          refine hK.out _ _ (fun _ => (blk7_facts ((f1).blk HBz.out (by simp))).1) (fun hHeld => ?_)
          replace hHeld := hHeld (by kernel_rfl)
          clear hK K
          try simp only [Act.put, List.getElem_toArray, List.getElem_cons_succ, List.getElem_cons_zero, List.setIfInBounds_toArray, List.set_cons_zero, List.set_cons_succ]
          refine wpLate_ready (rs := [4, 8]) (by kernel_rfl) (by simp) ?_
          refine AllLate.cons (o := _) rfl (fun K hK => ?_) ?_
          · go_simp
            refine (pparse_any (Q * 2) _ _ (by omega) HLT.out).mono ?_
            rw [HPZ.out]
            rintro _ x2 ⟨v6, rfl, o6, f⟩
            unfold pbC noPb
            obtain ⟨A6, c6, rfl⟩ := own_shape o6
            dsimp only
            go_wp2_with fail
            have f2 := (f1).trans f (by simp)
            clear f
            refine hK.out _ _ (fun _ => (blk7_facts ((f2).blk HBz.out (by simp))).1) (fun hHeld => ?_)
            replace hHeld := hHeld (by kernel_rfl)
            clear hK K
            try simp only [Act.put, List.getElem_toArray, List.getElem_cons_succ, List.getElem_cons_zero, List.setIfInBounds_toArray, List.set_cons_zero, List.set_cons_succ]
            refine wpLate_pure (i := 5) (oi := _) (v := ?_) rfl (by kernel_rfl) (by kernel_rfl) (by kernel_rfl) (by kernel_rfl) (fun _ _ _ h => h) (Gives.load (by rfl) ?_) (fun _ => hHeld) ?_
            rotate_left
            · intro w hSw
              clear hSw
              go_simp
              try with_reducible rfl
            try simp only [Act.put, List.getElem_toArray, List.getElem_cons_succ, List.getElem_cons_zero, List.setIfInBounds_toArray, List.set_cons_zero, List.set_cons_succ]
            refine wpLate_pure (i := 6) (oi := _) (v := ?_) rfl (by kernel_rfl) (by kernel_rfl) (by kernel_rfl) (by kernel_rfl) (fun _ _ _ h => h) (Gives.load (by rfl) ?_) (fun _ => hHeld) ?_
            rotate_left
            · intro w hSw
              clear hSw
              go_simp
              try with_reducible rfl
            try simp only [Act.put, List.getElem_toArray, List.getElem_cons_succ, List.getElem_cons_zero, List.setIfInBounds_toArray, List.set_cons_zero, List.set_cons_succ]
            refine wpLate_pure (i := 7) (oi := _) (v := ?_) rfl (by kernel_rfl) (by kernel_rfl) (by kernel_rfl) (by kernel_rfl) (fun _ _ _ h => h) (Gives.load (by rfl) ?_) (fun _ => hHeld) ?_
            rotate_left
            · intro w hSw
              clear hSw
              go_simp
              try with_reducible rfl
            try simp only [Act.put, List.getElem_toArray, List.getElem_cons_succ, List.getElem_cons_zero, List.setIfInBounds_toArray, List.set_cons_zero, List.set_cons_succ]
            refine wpLate_ready (rs := [8]) (by kernel_rfl) (by simp) ?_
            refine AllLate.cons (o := _) rfl (fun K hK => ?_) ?_
            · go_simp
              have f3 := (f2).alloc (.cells #[.bool false, .bool false, .int .u8 0, .int .u32 0, .slice none 0 0, .string ⟨#[]⟩, .string ⟨#[]⟩] 26)
              have nb3 := blk_new (x2) (.cells #[.bool false, .bool false, .int .u8 0, .int .u32 0, .slice none 0 0, .string ⟨#[]⟩, .string ⟨#[]⟩] 26)
              have FSZ : zd.heap.size ≤ (x2).heap.size := (f2).size
              refine hK.out _ _ (fun _ => (blk7_facts ((f3).blk HBz.out (by simp))).1) (fun hHeld => ?_)
              replace hHeld := hHeld (by kernel_rfl)
              clear hK K
              try simp only [Act.put, List.getElem_toArray, List.getElem_cons_succ, List.getElem_cons_zero, List.setIfInBounds_toArray, List.set_cons_zero, List.set_cons_succ]
              refine wpLate_ready (rs := [9]) (by kernel_rfl) (by simp) ?_
              refine AllLate.cons (o := _) rfl (fun K hK => ?_) ?_
              · go_simp
                have fz := (f2).alloc (.cells #[.bool false, .bool false, .int .u8 0, .int .u32 0, .slice A6 0 c6, .string ⟨#[]⟩, .string ⟨#[]⟩] 26)
                refine hK.out _ _ (fun _ => (blk7_facts ((fz).blk HBz.out (by simp))).1) (fun hHeld => ?_)
                replace hHeld := hHeld (by kernel_rfl)
                clear hK K
                try simp only [Act.put, List.getElem_toArray, List.getElem_cons_succ, List.getElem_cons_zero, List.setIfInBounds_toArray, List.set_cons_zero, List.set_cons_succ]
                refine wpLate_pure (i := 10) (oi := _) (v := ?_) rfl (by kernel_rfl) (by kernel_rfl) (by kernel_rfl) (by kernel_rfl) (fun _ _ _ h => h) (Gives.load (by rfl) ?_) (fun _ => hHeld) ?_
                rotate_left
                · intro w hSw
                  clear hSw
                  go_simp
                  try with_reducible rfl
                try simp only [Act.put, List.getElem_toArray, List.getElem_cons_succ, List.getElem_cons_zero, List.setIfInBounds_toArray, List.set_cons_zero, List.set_cons_succ]
                refine wpLate_done (by kernel_rfl) ?_ _
                go_wp2_with fail
                go_meet
                exact ⟨rfl, F2.out.trans (fd.trans fz (by simp)) (by simp)⟩
              exact AllLate.nil
            exact AllLate.nil
          refine AllLate.cons (o := _) rfl (fun K hK => ?_) ?_
          · go_simp
            have f2 := (f1).alloc (.cells #[.bool false, .bool false, .int .u8 0, .int .u32 0, .slice none 0 0, .string ⟨#[]⟩, .string ⟨#[]⟩] 26)
            have nb2 := blk_new (x1) (.cells #[.bool false, .bool false, .int .u8 0, .int .u32 0, .slice none 0 0, .string ⟨#[]⟩, .string ⟨#[]⟩] 26)
            have FSZ : zd.heap.size ≤ (x1).heap.size := (f1).size
            refine hK.out _ _ (fun _ => (blk7_facts ((f2).blk HBz.out (by simp))).1) (fun hHeld => ?_)
            replace hHeld := hHeld (by kernel_rfl)
            clear hK K
            try simp only [Act.put, List.getElem_toArray, List.getElem_cons_succ, List.getElem_cons_zero, List.setIfInBounds_toArray, List.set_cons_zero, List.set_cons_succ]
            refine wpLate_ready (rs := [4]) (by kernel_rfl) (by simp) ?_
            refine AllLate.cons (o := _) rfl (fun K hK => ?_) ?_
            · go_simp
              refine (pparse_any (Q * 2) _ _ (by omega) HLT.out).mono ?_
              rw [HPZ.out]
              rintro _ x3 ⟨v6, rfl, o6, f⟩
              unfold pbC noPb
              obtain ⟨A6, c6, rfl⟩ := own_shape o6
              dsimp only
              go_wp2_with fail
              have f3 := (f2).trans f (by simp)
              have nb3 := f.blk nb2 (by simp)
              clear f
              refine hK.out _ _ (fun _ => (blk7_facts ((f3).blk HBz.out (by simp))).1) (fun hHeld => ?_)
              replace hHeld := hHeld (by kernel_rfl)
              clear hK K
              try simp only [Act.put, List.getElem_toArray, List.getElem_cons_succ, List.getElem_cons_zero, List.setIfInBounds_toArray, List.set_cons_zero, List.set_cons_succ]
              refine wpLate_pure (i := 5) (oi := _) (v := ?_) rfl (by kernel_rfl) (by kernel_rfl) (by kernel_rfl) (by kernel_rfl) (fun _ _ _ h => h) (Gives.load (by rfl) ?_) (fun _ => hHeld) ?_
              rotate_left
              · intro w hSw
                clear hSw
                go_simp
                try with_reducible rfl
              try simp only [Act.put, List.getElem_toArray, List.getElem_cons_succ, List.getElem_cons_zero, List.setIfInBounds_toArray, List.set_cons_zero, List.set_cons_succ]
              refine wpLate_pure (i := 6) (oi := _) (v := ?_) rfl (by kernel_rfl) (by kernel_rfl) (by kernel_rfl) (by kernel_rfl) (fun _ _ _ h => h) (Gives.load (by rfl) ?_) (fun _ => hHeld) ?_
              rotate_left
              · intro w hSw
                clear hSw
                go_simp
                try with_reducible rfl
              try simp only [Act.put, List.getElem_toArray, List.getElem_cons_succ, List.getElem_cons_zero, List.setIfInBounds_toArray, List.set_cons_zero, List.set_cons_succ]
              refine wpLate_pure (i := 7) (oi := _) (v := ?_) rfl (by kernel_rfl) (by kernel_rfl) (by kernel_rfl) (by kernel_rfl) (fun _ _ _ h => h) (Gives.load (by rfl) ?_) (fun _ => hHeld) ?_
              rotate_left
              · intro w hSw
                clear hSw
                go_simp
                try with_reducible rfl
              try simp only [Act.put, List.getElem_toArray, List.getElem_cons_succ, List.getElem_cons_zero, List.setIfInBounds_toArray, List.set_cons_zero, List.set_cons_succ]
              refine wpLate_ready (rs := [9]) (by kernel_rfl) (by simp) ?_
              refine AllLate.cons (o := _) rfl (fun K hK => ?_) ?_
              · obtain ⟨⟨n0, n1, n2, n3, n4, n5, n6⟩, ⟨m0, m1, m2, m3, m4, m5, m6⟩, nl⟩ := blk7_facts nb3
                have fs := set7_fr x3 ((x1).heap.size) (.bool false) (.bool false) (.int .u8 0) (.int .u32 0) (.slice A6 0 c6) (.string ⟨#[]⟩) (.string ⟨#[]⟩)
                have hbz := blk_lt HBz.out
                go_simp
                change K _ (set7 x3 ((x1).heap.size) (.bool false) (.bool false) (.int .u8 0) (.int .u32 0) (.slice A6 0 c6) (.string ⟨#[]⟩) (.string ⟨#[]⟩))
                refine hK.out _ _ (fun _ => (blk7_facts (fs.blk ((f3).blk HBz.out (by simp)) (by have := FSZ; simp; omega))).1) (fun hHeld => ?_)
                replace hHeld := hHeld (by kernel_rfl)
                clear hK K
                try simp only [Act.put, List.getElem_toArray, List.getElem_cons_succ, List.getElem_cons_zero, List.setIfInBounds_toArray, List.set_cons_zero, List.set_cons_succ]
                refine wpLate_pure (i := 10) (oi := _) (v := ?_) rfl (by kernel_rfl) (by kernel_rfl) (by kernel_rfl) (by kernel_rfl) (fun _ _ _ h => h) (Gives.load (by rfl) ?_) (fun _ => hHeld) ?_
                rotate_left
                · intro w hSw
                  clear hSw
                  go_simp
                  try with_reducible rfl
                try simp only [Act.put, List.getElem_toArray, List.getElem_cons_succ, List.getElem_cons_zero, List.setIfInBounds_toArray, List.set_cons_zero, List.set_cons_succ]
                refine wpLate_done (by kernel_rfl) ?_ _
                go_wp2_with fail
                go_meet
                exact ⟨rfl, fr7_set (F2.out.trans (fd.trans (f3) (by simp)) (by simp)) (by have := F2.out.size; have := fd.size; have := FSZ; omega) (.bool false) (.bool false) (.int .u8 0) (.int .u32 0) (.slice A6 0 c6) (.string ⟨#[]⟩) (.string ⟨#[]⟩)⟩
              exact AllLate.nil
            exact AllLate.nil
          exact AllLate.nil
        refine AllLate.cons (o := _) rfl (fun K hK => ?_) ?_
        · go_simp
          have f1 := (f0).alloc (.cells #[.bool false, .bool false, .int .u8 0, .int .u32 0, .slice none 0 0, .string ⟨#[]⟩, .string ⟨#[]⟩] 26)
          have nb1 := blk_new (x0) (.cells #[.bool false, .bool false, .int .u8 0, .int .u32 0, .slice none 0 0, .string ⟨#[]⟩, .string ⟨#[]⟩] 26)
          have FSZ : zd.heap.size ≤ (x0).heap.size := (f0).size
          refine hK.out _ _ (fun _ => (blk7_facts ((f1).blk HBz.out (by simp))).1) (fun hHeld => ?_)
          replace hHeld := hHeld (by kernel_rfl)
          clear hK K
          try simp only [Act.put, List.getElem_toArray, List.getElem_cons_succ, List.getElem_cons_zero, List.setIfInBounds_toArray, List.set_cons_zero, List.set_cons_succ]
          refine wpLate_ready (rs := [3]) (by kernel_rfl) (by simp) ?_
          refine AllLate.cons (o := _) rfl (fun K hK => ?_) ?_
          · go_simp
            refine (ptext_any ⟨false, false, Q, 0, [], lettersB (t.take 20), y.take 50⟩ (.slice none 0 0) _ (by show Q < 256; omega) (by show (0 : Nat) < _; omega) (View.nil _) (by show (0 : Nat) ≤ 1000; omega) (by intro x hx; exact absurd hx (by show ¬ x ∈ []; simp)) (by show (lettersB (t.take 20)).length ≤ _; rw [lettersB_len]; omega) (by show (y.take 50).length ≤ _; omega)).mono ?_
            rintro _ x2 ⟨rfl, f⟩
            rw [HTX.out]
            go_wp2_with fail
            have f2 := (f1).trans f (by simp)
            have nb2 := f.blk nb1 (by simp)
            clear f
            refine hK.out _ _ (fun _ => (blk7_facts ((f2).blk HBz.out (by simp))).1) (fun hHeld => ?_)
            replace hHeld := hHeld (by kernel_rfl)
            clear hK K
            try simp only [Act.put, List.getElem_toArray, List.getElem_cons_succ, List.getElem_cons_zero, List.setIfInBounds_toArray, List.set_cons_zero, List.set_cons_succ]
            refine wpLate_ready (rs := [4]) (by kernel_rfl) (by simp) ?_
            refine AllLate.cons (o := _) rfl (fun K hK => ?_) ?_
            · go_simp
              refine (pparse_any (Q * 2) _ _ (by omega) HLT.out).mono ?_
              rw [HPZ.out]
              rintro _ x3 ⟨v6, rfl, o6, f⟩
              unfold pbC noPb
              obtain ⟨A6, c6, rfl⟩ := own_shape o6
              dsimp only
              go_wp2_with fail
              have f3 := (f2).trans f (by simp)
              have nb3 := f.blk nb2 (by simp)
              clear f
              refine hK.out _ _ (fun _ => (blk7_facts ((f3).blk HBz.out (by simp))).1) (fun hHeld => ?_)
              replace hHeld := hHeld (by kernel_rfl)
              clear hK K
              try simp only [Act.put, List.getElem_toArray, List.getElem_cons_succ, List.getElem_cons_zero, List.setIfInBounds_toArray, List.set_cons_zero, List.set_cons_succ]
              refine wpLate_pure (i := 5) (oi := _) (v := ?_) rfl (by kernel_rfl) (by kernel_rfl) (by kernel_rfl) (by kernel_rfl) (fun _ _ _ h => h) (Gives.load (by rfl) ?_) (fun _ => hHeld) ?_
              rotate_left
              · intro w hSw
                clear hSw
                go_simp
                try with_reducible rfl
              try simp only [Act.put, List.getElem_toArray, List.getElem_cons_succ, List.getElem_cons_zero, List.setIfInBounds_toArray, List.set_cons_zero, List.set_cons_succ]
              refine wpLate_pure (i := 6) (oi := _) (v := ?_) rfl (by kernel_rfl) (by kernel_rfl) (by kernel_rfl) (by kernel_rfl) (fun _ _ _ h => h) (Gives.load (by rfl) ?_) (fun _ => hHeld) ?_
              rotate_left
              · intro w hSw
                clear hSw
                go_simp
                try with_reducible rfl
              try simp only [Act.put, List.getElem_toArray, List.getElem_cons_succ, List.getElem_cons_zero, List.setIfInBounds_toArray, List.set_cons_zero, List.set_cons_succ]
              refine wpLate_pure (i := 7) (oi := _) (v := ?_) rfl (by kernel_rfl) (by kernel_rfl) (by kernel_rfl) (by kernel_rfl) (fun _ _ _ h => h) (Gives.load (by rfl) ?_) (fun _ => hHeld) ?_
              rotate_left
              · intro w hSw
                clear hSw
                go_simp
                try with_reducible rfl
              try simp only [Act.put, List.getElem_toArray, List.getElem_cons_succ, List.getElem_cons_zero, List.setIfInBounds_toArray, List.set_cons_zero, List.set_cons_succ]
              refine wpLate_ready (rs := [9]) (by kernel_rfl) (by simp) ?_
              refine AllLate.cons (o := _) rfl (fun K hK => ?_) ?_
              · obtain ⟨⟨n0, n1, n2, n3, n4, n5, n6⟩, ⟨m0, m1, m2, m3, m4, m5, m6⟩, nl⟩ := blk7_facts nb3
                have fs := set7_fr x3 ((x0).heap.size) (.bool false) (.bool false) (.int .u8 0) (.int .u32 0) (.slice A6 0 c6) (.string ⟨#[]⟩) (.string ⟨#[]⟩)
                have hbz := blk_lt HBz.out
                go_simp
                change K _ (set7 x3 ((x0).heap.size) (.bool false) (.bool false) (.int .u8 0) (.int .u32 0) (.slice A6 0 c6) (.string ⟨#[]⟩) (.string ⟨#[]⟩))
                refine hK.out _ _ (fun _ => (blk7_facts (fs.blk ((f3).blk HBz.out (by simp)) (by have := FSZ; simp; omega))).1) (fun hHeld => ?_)
                replace hHeld := hHeld (by kernel_rfl)
                clear hK K
                try simp only [Act.put, List.getElem_toArray, List.getElem_cons_succ, List.getElem_cons_zero, List.setIfInBounds_toArray, List.set_cons_zero, List.set_cons_succ]
                refine wpLate_pure (i := 10) (oi := _) (v := ?_) rfl (by kernel_rfl) (by kernel_rfl) (by kernel_rfl) (by kernel_rfl) (fun _ _ _ h => h) (Gives.load (by rfl) ?_) (fun _ => hHeld) ?_
                rotate_left
                · intro w hSw
                  clear hSw
                  go_simp
                  try with_reducible rfl
                try simp only [Act.put, List.getElem_toArray, List.getElem_cons_succ, List.getElem_cons_zero, List.setIfInBounds_toArray, List.set_cons_zero, List.set_cons_succ]
                refine wpLate_done (by kernel_rfl) ?_ _
                go_wp2_with fail
                go_meet
                exact ⟨rfl, fr7_set (F2.out.trans (fd.trans (f3) (by simp)) (by simp)) (by have := F2.out.size; have := fd.size; have := FSZ; omega) (.bool false) (.bool false) (.int .u8 0) (.int .u32 0) (.slice A6 0 c6) (.string ⟨#[]⟩) (.string ⟨#[]⟩)⟩
              exact AllLate.nil
            exact AllLate.nil
          exact AllLate.nil
        exact AllLate.nil
      refine AllLate.cons (o := _) rfl (fun K hK => ?_) ?_
      · go_simp
        have f0 := (Fr.refl [] zd).alloc (.cells #[.bool false, .bool false, .int .u8 0, .int .u32 0, .slice none 0 0, .string ⟨#[]⟩, .string ⟨#[]⟩] 26)
        have nb0 := blk_new (zd) (.cells #[.bool false, .bool false, .int .u8 0, .int .u32 0, .slice none 0 0, .string ⟨#[]⟩, .string ⟨#[]⟩] 26)
        have FSZ : zd.heap.size ≤ (zd).heap.size := (Fr.refl [] zd).size
        refine hK.out _ _ (fun _ => (blk7_facts ((f0).blk HBz.out (by simp))).1) (fun hHeld => ?_)
        replace hHeld := hHeld (by kernel_rfl)
        clear hK K
        try simp only [Act.put, List.getElem_toArray, List.getElem_cons_succ, List.getElem_cons_zero, List.setIfInBounds_toArray, List.set_cons_zero, List.set_cons_succ]
        refine wpLate_ready (rs := [1]) (by kernel_rfl) (by simp) ?_
        refine AllLate.cons (o := _) rfl (fun K hK => ?_) ?_
        · go_simp
          refine (pflags_any ⟨false, false, Q, 0, [], lettersB (t.take 20), y.take 50⟩ (.slice none 0 0) _ (by show Q < 256; omega)).mono ?_
          rintro _ x1 ⟨rfl, f⟩
          rw [HFL.out]
          go_wp2_with fail
          have f1 := (f0).trans f (by simp)
          have nb1 := f.blk nb0 (by simp)
          clear f
          refine hK.out _ _ (fun _ => (blk7_facts ((f1).blk HBz.out (by simp))).1) (fun hHeld => ?_)
          replace hHeld := hHeld (by kernel_rfl)
          clear hK K
          try simp only [Act.put, List.getElem_toArray, List.getElem_cons_succ, List.getElem_cons_zero, List.setIfInBounds_toArray, List.set_cons_zero, List.set_cons_succ]
          refine wpLate_ready (rs := [3]) (by kernel_rfl) (by simp) ?_
          refine AllLate.cons (o := _) rfl (fun K hK => ?_) ?_
          · go_simp
            refine (ptext_any ⟨false, false, Q, 0, [], lettersB (t.take 20), y.take 50⟩ (.slice none 0 0) _ (by show Q < 256; omega) (by show (0 : Nat) < _; omega) (View.nil _) (by show (0 : Nat) ≤ 1000; omega) (by intro x hx; exact absurd hx (by show ¬ x ∈ []; simp)) (by show (lettersB (t.take 20)).length ≤ _; rw [lettersB_len]; omega) (by show (y.take 50).length ≤ _; omega)).mono ?_
            rintro _ x2 ⟨rfl, f⟩
            rw [HTX.out]
            go_wp2_with fail
            have f2 := (f1).trans f (by simp)
            have nb2 := f.blk nb1 (by simp)
            clear f
            refine hK.out _ _ (fun _ => (blk7_facts ((f2).blk HBz.out (by simp))).1) (fun hHeld => ?_)
            replace hHeld := hHeld (by kernel_rfl)
            clear hK K
            try simp only [Act.put, List.getElem_toArray, List.getElem_cons_succ, List.getElem_cons_zero, List.setIfInBounds_toArray, List.set_cons_zero, List.set_cons_succ]
            refine wpLate_ready (rs := [4]) (by kernel_rfl) (by simp) ?_
            refine AllLate.cons (o := _) rfl (fun K hK => ?_) ?_
            · go_simp
              refine (pparse_any (Q * 2) _ _ (by omega) HLT.out).mono ?_
              rw [HPZ.out]
              rintro _ x3 ⟨v6, rfl, o6, f⟩
              unfold pbC noPb
              obtain ⟨A6, c6, rfl⟩ := own_shape o6
              dsimp only
              go_wp2_with fail
              have f3 := (f2).trans f (by simp)
              have nb3 := f.blk nb2 (by simp)
              clear f
              refine hK.out _ _ (fun _ => (blk7_facts ((f3).blk HBz.out (by simp))).1) (fun hHeld => ?_)
              replace hHeld := hHeld (by kernel_rfl)
              clear hK K
              try simp only [Act.put, List.getElem_toArray, List.getElem_cons_succ, List.getElem_cons_zero, List.setIfInBounds_toArray, List.set_cons_zero, List.set_cons_succ]
              refine wpLate_pure (i := 5) (oi := _) (v := ?_) rfl (by kernel_rfl) (by kernel_rfl) (by kernel_rfl) (by kernel_rfl) (fun _ _ _ h => h) (Gives.load (by rfl) ?_) (fun _ => hHeld) ?_
              rotate_left
              · intro w hSw
                clear hSw
                go_simp
                try with_reducible rfl
              try simp only [Act.put, List.getElem_toArray, List.getElem_cons_succ, List.getElem_cons_zero, List.setIfInBounds_toArray, List.set_cons_zero, List.set_cons_succ]
              refine wpLate_pure (i := 6) (oi := _) (v := ?_) rfl (by kernel_rfl) (by kernel_rfl) (by kernel_rfl) (by kernel_rfl) (fun _ _ _ h => h) (Gives.load (by rfl) ?_) (fun _ => hHeld) ?_
              rotate_left
              · intro w hSw
                clear hSw
                go_simp
                try with_reducible rfl
              try simp only [Act.put, List.getElem_toArray, List.getElem_cons_succ, List.getElem_cons_zero, List.setIfInBounds_toArray, List.set_cons_zero, List.set_cons_succ]
              refine wpLate_pure (i := 7) (oi := _) (v := ?_) rfl (by kernel_rfl) (by kernel_rfl) (by kernel_rfl) (by kernel_rfl) (fun _ _ _ h => h) (Gives.load (by rfl) ?_) (fun _ => hHeld) ?_
              rotate_left
              · intro w hSw
                clear hSw
                go_simp
                try with_reducible rfl
              try simp only [Act.put, List.getElem_toArray, List.getElem_cons_succ, List.getElem_cons_zero, List.setIfInBounds_toArray, List.set_cons_zero, List.set_cons_succ]
              refine wpLate_ready (rs := [9]) (by kernel_rfl) (by simp) ?_
              refine AllLate.cons (o := _) rfl (fun K hK => ?_) ?_
              · obtain ⟨⟨n0, n1, n2, n3, n4, n5, n6⟩, ⟨m0, m1, m2, m3, m4, m5, m6⟩, nl⟩ := blk7_facts nb3
                have fs := set7_fr x3 ((zd).heap.size) (.bool false) (.bool false) (.int .u8 0) (.int .u32 0) (.slice A6 0 c6) (.string ⟨#[]⟩) (.string ⟨#[]⟩)
                have hbz := blk_lt HBz.out
                go_simp
                change K _ (set7 x3 ((zd).heap.size) (.bool false) (.bool false) (.int .u8 0) (.int .u32 0) (.slice A6 0 c6) (.string ⟨#[]⟩) (.string ⟨#[]⟩))
                refine hK.out _ _ (fun _ => (blk7_facts (fs.blk ((f3).blk HBz.out (by simp)) (by have := FSZ; simp; omega))).1) (fun hHeld => ?_)
                replace hHeld := hHeld (by kernel_rfl)
                clear hK K
                try simp only [Act.put, List.getElem_toArray, List.getElem_cons_succ, List.getElem_cons_zero, List.setIfInBounds_toArray, List.set_cons_zero, List.set_cons_succ]
                refine wpLate_pure (i := 10) (oi := _) (v := ?_) rfl (by kernel_rfl) (by kernel_rfl) (by kernel_rfl) (by kernel_rfl) (fun _ _ _ h => h) (Gives.load (by rfl) ?_) (fun _ => hHeld) ?_
                rotate_left
                · intro w hSw
                  clear hSw
                  go_simp
                  try with_reducible rfl
                try simp only [Act.put, List.getElem_toArray, List.getElem_cons_succ, List.getElem_cons_zero, List.setIfInBounds_toArray, List.set_cons_zero, List.set_cons_succ]
                refine wpLate_done (by kernel_rfl) ?_ _
                go_wp2_with fail
                go_meet
                exact ⟨rfl, fr7_set (F2.out.trans (fd.trans (f3) (by simp)) (by simp)) (by have := F2.out.size; have := fd.size; have := FSZ; omega) (.bool false) (.bool false) (.int .u8 0) (.int .u32 0) (.slice A6 0 c6) (.string ⟨#[]⟩) (.string ⟨#[]⟩)⟩
              exact AllLate.nil
            exact AllLate.nil
          exact AllLate.nil
        exact AllLate.nil
      exact AllLate.nil
    case rest =>
      obtain ⟨rfl, F3⟩ := hcut
      clear e0 e1 e2 e3 e4 e5 e6 F2 HB HPZ HFL HTX HLT
      go_wp2_with fail
      refine (packparse_any (k : Int) [0, 0] _ (by decide)).mono ?_
      rw [zero_ack (k : Int) (by omega) (by omega)]
      rintro _ x ⟨v6, rfl, o6, f⟩
      unfold akC noAk
      obtain ⟨A6, c6, rfl⟩ := own_shape o6
      dsimp only
      go_wp2
      go_ret
      exact ⟨rfl, (F3.trans f (by simp)).alloc _⟩
end Go.Proofs.Ytlhkgalmiajinaa
