/- The walk of the law ConnectBack. -/
import Derived.Test.YtlhkgalmiajinaaConW
import Derived.Test.YtlhkgalmiajinaaConU
import Derived.Test.YtlhkgalmiajinaaConAwake
import Derived.Test.YtlhkgalmiajinaaPlainS
import Derived.Test.YtlhkgalmiajinaaLaw
namespace Go.Proofs.Ytlhkgalmiajinaa
open Go.RowKit
set_option linter.unusedVariables false
set_option linter.unusedSimpArgs false

theorem let_le {x : List UInt8} (h : ∃ s : List UInt8, x = lettersB s ∧ s.length ≤ 20) : x.length ≤ 20 := by
  obtain ⟨s, rfl, hs⟩ := h
  rw [lettersB_len]; exact hs
theorem rt_b (x : Cn) (h : RtC x) : CnB x := by
  have hi := let_le h.i
  have ht := let_le h.t
  have hu := let_le h.u
  have hy := h.y
  have hs := h.s
  exact ⟨Nat.lt_trans h.k (by decide), Nat.lt_trans h.q (by decide), by rw [h.p]; decide, by rw [h.w]; decide, by rw [h.p]; intro y hy; simp at hy, by rw [h.w]; intro y hy; simp at hy, by omega, by omega, by omega, by omega, by omega⟩
theorem text_len (x : Cn) (h : RtC x) : 0 < (cnText x).length ∧ (cnText x).length ≤ 400000 := by
  rw [text_tail x h]
  have hi := dataB_len x.id
  have ht := dataB_len x.topic
  have hy := dataB_len x.pay
  have hu := dataB_len x.user
  have hs := dataB_len x.pass
  have key : ∀ (b : Bool) (l : List UInt8) (n : Nat), l.length ≤ n → (if b = true then l else []).length ≤ n := fun b l n hl => by
    split
    · exact hl
    · simp
  have k4 := key x.hasWill [0] 1 (by decide)
  have k5 := key x.hasWill (dataB x.topic) _ ht
  have k6 := key x.hasWill (dataB x.pay) _ hy
  have k7 := key x.hasUser (dataB x.user) _ hu
  have k8 := key x.hasPass (dataB x.pass) _ hs
  unfold tailB
  simp only [List.length_append, two_len, List.length_cons, List.length_nil]
  omega
set_option maxRecDepth 100000 in
set_option maxHeartbeats 8000000 in
theorem connectBack_walk (c : Cn) (v u : Value) (a1 : Int) (w1 : (Lit.int .i64 a1).wf = true) (w : World) (h2 : c.qos < 256) (hi : c.id.length ≤ 9223372036854775807) (ht : c.topic.length ≤ 9223372036854775807) (hp : c.pay.length ≤ 9223372036854775807) (hus : c.user.length ≤ 9223372036854775807) (hps : c.pass.length ≤ 9223372036854775807) :
    Calls Try.prog 4 #[.agg (cnC c v u).toArray, .int .i64 a1] w fun e w' => e = .returned (.bool true) ∧ Fr [] w w' := by
  obtain ⟨wa, wb⟩ := wf_i64 w1
  have hF := Lib.hid (right_any c v u (w.alloc (.cells (cnC c v u).toArray 48)) h2 hi ht hp hus hps)
  have hRT := right_rt c
  have F0 : Fr [] w (w.alloc (.cells (cnC c v u).toArray 48)) := (Fr.refl _ _).alloc _
  have hb0 := blk_new w (.cells (cnC c v u).toArray 48)
  clear h2 hi ht hp hus hps w1
  obtain ⟨C0, hC0⟩ : ∃ C0, rightC c = C0 := ⟨_, rfl⟩
  rw [hC0] at hF hRT
  clear hC0
  obtain ⟨CL, hCL⟩ : ∃ CL, cnC c v u = CL := ⟨_, rfl⟩
  have hCl : CL.length = 14 := by rw [← hCL]; rfl
  rw [hCL] at hF F0 hb0 ⊢
  clear hCL
  have HB := Lib.hid (rt_b C0 hRT)
  have hL := text_len C0 hRT
  have HBK := Lib.hid (cn_back C0 hRT)
  have HCU := Lib.hid (cn_cut C0 hRT)
  have HMO := Lib.hid (cn_more C0 hRT [120] (by decide))
  have HP := Lib.hid hRT.p
  have HW := Lib.hid hRT.w
  obtain ⟨clean, keep, props, id, hasWill, wp, topic, pay, qos, ret, hasUser, hasPass, user, pass⟩ := C0
  dsimp only at HP HW
  obtain ⟨TX, hTX⟩ : ∃ TX, cnText ⟨clean, keep, props, id, hasWill, wp, topic, pay, qos, ret, hasUser, hasPass, user, pass⟩ = TX := ⟨_, rfl⟩
  rw [hTX] at hL HBK HCU HMO
  have HTX := Lib.hid hTX
  clear hTX hRT
  obtain ⟨hL0, hL1⟩ := hL
  have HOK : Hid (∀ W, CnOk W ⟨clean, keep, props, id, hasWill, wp, topic, pay, qos, ret, hasUser, hasPass, user, pass⟩ (.slice none 0 0) (.slice none 0 0)) := Lib.hid (fun W => CnB.ok HB.out (by show View W _ props.length (props.flatMap prE); rw [HP.out]; exact View.nil _) (by show View W _ wp.length (wp.flatMap prE); rw [HW.out]; exact View.nil _))
  go_enter Try.func4, Try.ntmps4
  go_upto_region 1 with (fail)
  obtain ⟨y, hy⟩ : ∃ y, w.alloc (.cells CL.toArray 48) = y := ⟨_, rfl⟩
  rw [hy] at hF F0 hb0 ⊢
  clear hy
  refine wp_region_lit ?_
  refine wpList_load_mid rfl 48 _ rfl w.heap.size 0 (by rfl) CL _ (range_blk hb0 rfl) Try.underlying48 rfl (by rw [hCl]; kernel_rfl) ?_
  refine wpList_plain rfl fun K hK => ?_
  go_wp2_with fail
  refine hF.out.mono ?_
  rintro _ y2 ⟨rfl, g2⟩
  refine hK _ _ ?_
  clear hK K hF hb0 hCl
  have F1 := Lib.hid ((F0.trans g2 (by simp)).alloc (.cells #[.bool clean, .int .u32 (keep : Int), (.slice none 0 0), .string ⟨id.toArray⟩, .bool hasWill, (.slice none 0 0), .string ⟨topic.toArray⟩, .string ⟨pay.toArray⟩, .int .u8 (qos : Int), .bool ret, .bool hasUser, .bool hasPass, .string ⟨user.toArray⟩, .string ⟨pass.toArray⟩] 48))
  have HX := Lib.hid (blk_new y2 (.cells #[.bool clean, .int .u32 (keep : Int), (.slice none 0 0), .string ⟨id.toArray⟩, .bool hasWill, (.slice none 0 0), .string ⟨topic.toArray⟩, .string ⟨pay.toArray⟩, .int .u8 (qos : Int), .bool ret, .bool hasUser, .bool hasPass, .string ⟨user.toArray⟩, .string ⟨pass.toArray⟩] 48))
  clear F0 g2
  unfold cnC
  dsimp only
  go_upto_region 2 with (fail)
  obtain ⟨X, hX⟩ : ∃ X, y2.heap.size = X := ⟨_, rfl⟩
  obtain ⟨y3, hy3⟩ : ∃ y3, y2.alloc (.cells #[.bool clean, .int .u32 (keep : Int), (.slice none 0 0), .string ⟨id.toArray⟩, .bool hasWill, (.slice none 0 0), .string ⟨topic.toArray⟩, .string ⟨pay.toArray⟩, .int .u8 (qos : Int), .bool ret, .bool hasUser, .bool hasPass, .string ⟨user.toArray⟩, .string ⟨pass.toArray⟩] 48) = y3 := ⟨_, rfl⟩
  rw [hX] at HX ⊢
  rw [hy3] at F1 HX ⊢
  clear hX hy3
  refine wp_region_lit ?_
  refine wpList_load_mid rfl 48 _ rfl X 0 (by rfl) [.bool clean, .int .u32 (keep : Int), (.slice none 0 0), .string ⟨id.toArray⟩, .bool hasWill, (.slice none 0 0), .string ⟨topic.toArray⟩, .string ⟨pay.toArray⟩, .int .u8 (qos : Int), .bool ret, .bool hasUser, .bool hasPass, .string ⟨user.toArray⟩, .string ⟨pass.toArray⟩] _ (range_blk HX.out rfl) Try.underlying48 rfl (by kernel_rfl) ?_
  refine wpList_plain rfl fun K hK => ?_
  go_wp2_with fail
  refine (cntext_any ⟨clean, keep, props, id, hasWill, wp, topic, pay, qos, ret, hasUser, hasPass, user, pass⟩ (.slice none 0 0) (.slice none 0 0) _ (HOK.out _)).mono ?_
  rintro _ y4 ⟨rfl, g4⟩
  rw [HTX.out]
  refine hK _ _ ?_
  clear hK K
  have F2 := Lib.hid (F1.out.trans g4 (by simp))
  have HX2 := Lib.hid (g4.blk HX.out (by simp))
  clear F1 HX g4
  go_wp2_with fail
  refine (cnparse_any TX _ (by omega)).mono ?_
  rw [HBK.out]
  rintro _ y5 ⟨v5, u5, rfl, V5, U5, g5⟩
  dsimp only at V5 U5
  obtain ⟨A5, n5, rfl⟩ := view_shape V5
  obtain ⟨A6, n6, rfl⟩ := view_shape U5
  unfold cnC
  dsimp only
  have F3 := (F2.out.trans g5 (by simp)).alloc (.cells #[.bool clean, .int .u32 (keep : Int), .slice A5 props.length n5, .string ⟨id.toArray⟩, .bool hasWill, .slice A6 wp.length n6, .string ⟨topic.toArray⟩, .string ⟨pay.toArray⟩, .int .u8 (qos : Int), .bool ret, .bool hasUser, .bool hasPass, .string ⟨user.toArray⟩, .string ⟨pass.toArray⟩] 48)
  have hX3 := blk_old (g5.blk HX2.out (by simp)) (.cells #[.bool clean, .int .u32 (keep : Int), .slice A5 props.length n5, .string ⟨id.toArray⟩, .bool hasWill, .slice A6 wp.length n6, .string ⟨topic.toArray⟩, .string ⟨pay.toArray⟩, .int .u8 (qos : Int), .bool ret, .bool hasUser, .bool hasPass, .string ⟨user.toArray⟩, .string ⟨pass.toArray⟩] 48)
  have hY3 := blk_new y5 (.cells #[.bool clean, .int .u32 (keep : Int), .slice A5 props.length n5, .string ⟨id.toArray⟩, .bool hasWill, .slice A6 wp.length n6, .string ⟨topic.toArray⟩, .string ⟨pay.toArray⟩, .int .u8 (qos : Int), .bool ret, .bool hasUser, .bool hasPass, .string ⟨user.toArray⟩, .string ⟨pass.toArray⟩] 48)
  have V6 := V5.old ((Fr.refl [] y5).alloc (.cells #[.bool clean, .int .u32 (keep : Int), .slice A5 props.length n5, .string ⟨id.toArray⟩, .bool hasWill, .slice A6 wp.length n6, .string ⟨topic.toArray⟩, .string ⟨pay.toArray⟩, .int .u8 (qos : Int), .bool ret, .bool hasUser, .bool hasPass, .string ⟨user.toArray⟩, .string ⟨pass.toArray⟩] 48)) (by simp)
  have U6 := U5.old ((Fr.refl [] y5).alloc (.cells #[.bool clean, .int .u32 (keep : Int), .slice A5 props.length n5, .string ⟨id.toArray⟩, .bool hasWill, .slice A6 wp.length n6, .string ⟨topic.toArray⟩, .string ⟨pay.toArray⟩, .int .u8 (qos : Int), .bool ret, .bool hasUser, .bool hasPass, .string ⟨user.toArray⟩, .string ⟨pass.toArray⟩] 48)) (by simp)
  clear V5 U5 F2 HX2 g5
  go_upto_region 4 with (fail)
  obtain ⟨Y, hY⟩ : ∃ Y, y5.heap.size = Y := ⟨_, rfl⟩
  obtain ⟨z, hz⟩ : ∃ z, y5.alloc (.cells #[.bool clean, .int .u32 (keep : Int), .slice A5 props.length n5, .string ⟨id.toArray⟩, .bool hasWill, .slice A6 wp.length n6, .string ⟨topic.toArray⟩, .string ⟨pay.toArray⟩, .int .u8 (qos : Int), .bool ret, .bool hasUser, .bool hasPass, .string ⟨user.toArray⟩, .string ⟨pass.toArray⟩] 48) = z := ⟨_, rfl⟩
  rw [hY] at hY3 ⊢
  rw [hz] at F3 hX3 hY3 V6 U6 ⊢
  clear hY hz
  have fd := (Fr.refl [] z).drew
  obtain ⟨wd, hwd⟩ : ∃ wd, z.drew = wd := ⟨_, rfl⟩
  refine wp_region_late [] (S := fun w' => (w'.cell? ⟨Y, 0, none⟩ = some (.bool clean) ∧ w'.cell? ⟨Y, 1, none⟩ = some (.int .u32 (keep : Int)) ∧ w'.cell? ⟨Y, 2, none⟩ = some (.slice A5 props.length n5) ∧ w'.cell? ⟨Y, 3, none⟩ = some (.string ⟨id.toArray⟩) ∧ w'.cell? ⟨Y, 4, none⟩ = some (.bool hasWill) ∧ w'.cell? ⟨Y, 5, none⟩ = some (.slice A6 wp.length n6) ∧ w'.cell? ⟨Y, 6, none⟩ = some (.string ⟨topic.toArray⟩) ∧ w'.cell? ⟨Y, 7, none⟩ = some (.string ⟨pay.toArray⟩) ∧ w'.cell? ⟨Y, 8, none⟩ = some (.int .u8 (qos : Int)) ∧ w'.cell? ⟨Y, 9, none⟩ = some (.bool ret) ∧ w'.cell? ⟨Y, 10, none⟩ = some (.bool hasUser) ∧ w'.cell? ⟨Y, 11, none⟩ = some (.bool hasPass) ∧ w'.cell? ⟨Y, 12, none⟩ = some (.string ⟨user.toArray⟩) ∧ w'.cell? ⟨Y, 13, none⟩ = some (.string ⟨pass.toArray⟩)) ∧ (w'.cell? ⟨X, 0, none⟩ = some (.bool clean) ∧ w'.cell? ⟨X, 1, none⟩ = some (.int .u32 (keep : Int)) ∧ w'.cell? ⟨X, 2, none⟩ = some ((.slice none 0 0)) ∧ w'.cell? ⟨X, 3, none⟩ = some (.string ⟨id.toArray⟩) ∧ w'.cell? ⟨X, 4, none⟩ = some (.bool hasWill) ∧ w'.cell? ⟨X, 5, none⟩ = some ((.slice none 0 0)) ∧ w'.cell? ⟨X, 6, none⟩ = some (.string ⟨topic.toArray⟩) ∧ w'.cell? ⟨X, 7, none⟩ = some (.string ⟨pay.toArray⟩) ∧ w'.cell? ⟨X, 8, none⟩ = some (.int .u8 (qos : Int)) ∧ w'.cell? ⟨X, 9, none⟩ = some (.bool ret) ∧ w'.cell? ⟨X, 10, none⟩ = some (.bool hasUser) ∧ w'.cell? ⟨X, 11, none⟩ = some (.bool hasPass) ∧ w'.cell? ⟨X, 12, none⟩ = some (.string ⟨user.toArray⟩) ∧ w'.cell? ⟨X, 13, none⟩ = some (.string ⟨pass.toArray⟩))) (by kernel_rfl) ⟨(blk14n_facts hY3).1, (blk14n_facts hX3).1⟩ (fun hHeld => ?_)
  rw [hwd] at hHeld fd ⊢
  have HY := Lib.hid (fd.blk hY3 (by simp))
  have HX := Lib.hid (fd.blk hX3 (by simp))
  have HV := Lib.hid (V6.old fd (by simp))
  have HU := Lib.hid (U6.old fd (by simp))
  have FZ := Lib.hid (F3.trans fd (by simp))
  have GG := Lib.hid (Fr.refl [] wd)
  clear hwd fd hX3 hY3 F3 V6 U6
  refine wpLate_ready (rs := [0]) (by kernel_rfl) (by simp) ?_
  refine AllLate.cons (o := _) rfl (fun K hK => ?_) (by exact AllLate.nil)
  go_simp
  refine (awake6_any _).mono ?_
  rintro _ x0 ⟨rfl, f⟩
  go_wp2_with fail
  have GN := Lib.hid (GG.out.trans f (by simp))
  clear f GG
  have GG := GN
  clear GN
  refine hK.out _ _ (fun _ => ⟨(blk14n_facts (GG.out.blk HY.out (by simp))).1, (blk14n_facts (GG.out.blk HX.out (by simp))).1⟩) (fun hHeld => ?_)
  replace hHeld := hHeld (by kernel_rfl)
  clear hK K
  try simp only [Act.put, List.getElem_toArray, List.getElem_cons_succ, List.getElem_cons_zero, List.setIfInBounds_toArray, List.set_cons_zero, List.set_cons_succ]
  refine wpLate_take (i := 1) (oi := _) (v := ?_) rfl (by kernel_rfl) (by kernel_rfl) (by kernel_rfl) (by kernel_rfl) (fun _ _ _ h => h) (Gives.load (by rfl) ?_) hHeld ?_
  rotate_left
  · intro w hSw
    (try dsimp only at hSw)
    go_simp
    try with_reducible rfl
  try simp only [Act.put, List.getElem_toArray, List.getElem_cons_succ, List.getElem_cons_zero, List.setIfInBounds_toArray, List.set_cons_zero, List.set_cons_succ]
  refine wpLate_take (i := 2) (oi := _) (v := ?_) rfl (by kernel_rfl) (by kernel_rfl) (by kernel_rfl) (by kernel_rfl) (fun _ _ _ h => h) (Gives.load (by rfl) ?_) hHeld ?_
  rotate_left
  · intro w hSw
    (try dsimp only at hSw)
    go_simp
    try with_reducible rfl
  try simp only [Act.put, List.getElem_toArray, List.getElem_cons_succ, List.getElem_cons_zero, List.setIfInBounds_toArray, List.set_cons_zero, List.set_cons_succ]
  refine wpLate_take (i := 3) (oi := _) (v := ?_) rfl (by kernel_rfl) (by kernel_rfl) (by kernel_rfl) (by kernel_rfl) (fun _ _ _ h => h) (Gives.load (by rfl) ?_) hHeld ?_
  rotate_left
  · intro w hSw
    (try dsimp only at hSw)
    go_simp
    try with_reducible rfl
  try simp only [Act.put, List.getElem_toArray, List.getElem_cons_succ, List.getElem_cons_zero, List.setIfInBounds_toArray, List.set_cons_zero, List.set_cons_succ]
  refine wpLate_take (i := 4) (oi := _) (v := ?_) rfl (by kernel_rfl) (by kernel_rfl) (by kernel_rfl) (by kernel_rfl) (fun _ _ _ h => h) (Gives.load (by rfl) ?_) hHeld ?_
  rotate_left
  · intro w hSw
    (try dsimp only at hSw)
    go_simp
    try with_reducible rfl
  try simp only [Act.put, List.getElem_toArray, List.getElem_cons_succ, List.getElem_cons_zero, List.setIfInBounds_toArray, List.set_cons_zero, List.set_cons_succ]
  refine wpLate_take (i := 5) (oi := _) (v := ?_) rfl (by kernel_rfl) (by kernel_rfl) (by kernel_rfl) (by kernel_rfl) (fun _ _ _ h => h) (Gives.load (by rfl) ?_) hHeld ?_
  rotate_left
  · intro w hSw
    (try dsimp only at hSw)
    go_simp
    try with_reducible rfl
  try simp only [Act.put, List.getElem_toArray, List.getElem_cons_succ, List.getElem_cons_zero, List.setIfInBounds_toArray, List.set_cons_zero, List.set_cons_succ]
  refine wpLate_take (i := 6) (oi := _) (v := ?_) rfl (by kernel_rfl) (by kernel_rfl) (by kernel_rfl) (by kernel_rfl) (fun _ _ _ h => h) (Gives.load (by rfl) ?_) hHeld ?_
  rotate_left
  · intro w hSw
    (try dsimp only at hSw)
    go_simp
    try with_reducible rfl
  try simp only [Act.put, List.getElem_toArray, List.getElem_cons_succ, List.getElem_cons_zero, List.setIfInBounds_toArray, List.set_cons_zero, List.set_cons_succ]
  refine wpLate_take (i := 7) (oi := _) (v := ?_) rfl (by kernel_rfl) (by kernel_rfl) (by kernel_rfl) (by kernel_rfl) (fun _ _ _ h => h) (Gives.load (by rfl) ?_) hHeld ?_
  rotate_left
  · intro w hSw
    (try dsimp only at hSw)
    go_simp
    try with_reducible rfl
  try simp only [Act.put, List.getElem_toArray, List.getElem_cons_succ, List.getElem_cons_zero, List.setIfInBounds_toArray, List.set_cons_zero, List.set_cons_succ]
  refine wpLate_take (i := 9) (oi := _) (v := ?_) rfl (by kernel_rfl) (by kernel_rfl) (by kernel_rfl) (by kernel_rfl) (fun _ _ _ h => h) (Gives.load (by rfl) ?_) hHeld ?_
  rotate_left
  · intro w hSw
    (try dsimp only at hSw)
    go_simp
    try with_reducible rfl
  try simp only [Act.put, List.getElem_toArray, List.getElem_cons_succ, List.getElem_cons_zero, List.setIfInBounds_toArray, List.set_cons_zero, List.set_cons_succ]
  refine wpLate_ready (rs := [8]) (by kernel_rfl) (by simp) ?_
  refine AllLate.cons (o := _) rfl (fun K hK => ?_) (by exact AllLate.nil)
  go_simp
  refine (told6_any ⟨clean, keep, props, id, hasWill, wp, topic, pay, qos, ret, hasUser, hasPass, user, pass⟩ _ _ _ (HV.out.old GG.out (by simp)) (HU.out.old GG.out (by simp)) (Nat.le_trans HB.out.vl (by decide)) (Nat.le_trans HB.out.ul (by decide))).mono ?_
  rintro _ x1 ⟨v7, u7, rfl, V7, U7, f, _, _⟩
  dsimp only at V7 U7
  go_wp2_with fail
  have GN := Lib.hid (GG.out.trans f (by simp))
  clear f GG
  have GG := GN
  clear GN
  refine hK.out _ _ (fun _ => ⟨(blk14n_facts (GG.out.blk HY.out (by simp))).1, (blk14n_facts (GG.out.blk HX.out (by simp))).1⟩) (fun hHeld => ?_)
  replace hHeld := hHeld (by kernel_rfl)
  clear hK K
  try simp only [Act.put, List.getElem_toArray, List.getElem_cons_succ, List.getElem_cons_zero, List.setIfInBounds_toArray, List.set_cons_zero, List.set_cons_succ]
  refine wpLate_ready (rs := [10]) (by kernel_rfl) (by simp) ?_
  refine AllLate.cons (o := _) rfl (fun K hK => ?_) (by exact AllLate.nil)
  go_simp
  refine (told6_any ⟨clean, keep, props, id, hasWill, wp, topic, pay, qos, ret, hasUser, hasPass, user, pass⟩ _ _ _ (HOK.out _).v (HOK.out _).u (Nat.le_trans HB.out.vl (by decide)) (Nat.le_trans HB.out.ul (by decide))).mono ?_
  rintro _ x2 ⟨v8, u8, rfl, V8, U8, f, _, _⟩
  dsimp only at V8 U8
  have V7 := V7.old f (by simp)
  have U7 := U7.old f (by simp)
  go_wp2_with fail
  have GN := Lib.hid (GG.out.trans f (by simp))
  clear f GG
  have GG := GN
  clear GN
  refine hK.out _ _ (fun _ => ⟨(blk14n_facts (GG.out.blk HY.out (by simp))).1, (blk14n_facts (GG.out.blk HX.out (by simp))).1⟩) (fun hHeld => ?_)
  replace hHeld := hHeld (by kernel_rfl)
  clear hK K
  try simp only [Act.put, List.getElem_toArray, List.getElem_cons_succ, List.getElem_cons_zero, List.setIfInBounds_toArray, List.set_cons_zero, List.set_cons_succ]
  refine wpLate_ready (rs := [11]) (by kernel_rfl) (by simp) ?_
  refine AllLate.cons (o := _) rfl (fun K hK => ?_) (by exact AllLate.nil)
  go_simp
  refine (rsame6_any ⟨clean, keep, props, id, hasWill, wp, topic, pay, qos, ret, hasUser, hasPass, user, pass⟩ _ _ _ _ _ V7 U7 V8 U8 (Nat.le_trans HB.out.vl (by decide)) (Nat.le_trans HB.out.ul (by decide))).mono ?_
  rintro _ x3 ⟨rfl, f⟩
  go_wp2_with fail
  have GN := Lib.hid (GG.out.trans f (by simp))
  clear f GG
  have GG := GN
  clear GN
  refine hK.out _ _ (fun _ => ⟨(blk14n_facts (GG.out.blk HY.out (by simp))).1, (blk14n_facts (GG.out.blk HX.out (by simp))).1⟩) (fun hHeld => ?_)
  replace hHeld := hHeld (by kernel_rfl)
  clear hK K
  try simp only [Act.put, List.getElem_toArray, List.getElem_cons_succ, List.getElem_cons_zero, List.setIfInBounds_toArray, List.set_cons_zero, List.set_cons_succ]
  clear V7 U7 V8 U8
  refine wpLate_pure (i := 12) (oi := _) (v := ?_) rfl (by kernel_rfl) (by kernel_rfl) (by kernel_rfl) (by kernel_rfl) (fun _ _ _ h => h) (Gives.load (by rfl) ?_) (fun _ => hHeld) ?_
  rotate_left
  · intro w hSw
    clear hSw
    go_simp
    try with_reducible rfl
  try simp only [Act.put, List.getElem_toArray, List.getElem_cons_succ, List.getElem_cons_zero, List.setIfInBounds_toArray, List.set_cons_zero, List.set_cons_succ]
  refine wpLate_pure (i := 13) (oi := _) (v := ?_) rfl (by kernel_rfl) (by kernel_rfl) (by kernel_rfl) (by kernel_rfl) (fun _ _ _ h => h) (Gives.load (by rfl) ?_) (fun _ => hHeld) ?_
  rotate_left
  · intro w hSw
    clear hSw
    go_simp
    try with_reducible rfl
  try simp only [Act.put, List.getElem_toArray, List.getElem_cons_succ, List.getElem_cons_zero, List.setIfInBounds_toArray, List.set_cons_zero, List.set_cons_succ]
  refine wpLate_done (by kernel_rfl) ?_ _
  have F4 := Lib.hid (FZ.out.trans GG.out (by simp))
  clear hHeld GG FZ HV HU HX HY
  go_upto_region 6 with (fail)
  go_cut [1] (fun v1 wx => ∃ n : Nat, v1 = .int .i64 (n : Int) ∧ n < TX.length ∧ x3 = wx)
  case first =>
    go_wp2_with fail
    · go_meet
      exact ⟨TX.length - 1, by rw [show ((TX.length - 1 : Nat) : Int) = (TX.length : Int) - 1 from by omega], by omega, rfl⟩
    · go_meet
      exact ⟨0, rfl, hL0, rfl⟩
    · go_meet
      exact ⟨a1.toNat, by rw [Int.toNat_of_nonneg ‹0 ≤ a1›], by (have hq := ‹(if a1 < 0 then 0 else a1) ≤ _›; rw [if_neg (by omega)] at hq; omega), rfl⟩
  case rest =>
    obtain ⟨n, rfl, hn, hwc⟩ := hcut
    rw [← hwc]
    clear hwc
    clear wc
    have hcn := HCU.out n hn
    have hx0 : (ByteArray.mk TX.toArray).extract 0 n = ⟨(TX.take n).toArray⟩ := by
      have := ex_mid TX 0 n
      rwa [Nat.zero_add, List.drop_zero] at this
    have hap : (ByteArray.mk TX.toArray) ++ (ByteArray.mk #[120]) = ⟨(TX ++ [120]).toArray⟩ := by
      rw [show (#[120] : Array UInt8) = ([120] : List UInt8).toArray from rfl, ByteArray.mk_append_mk]
    have hmo := HMO.out
    have HX0 := Lib.hid hx0
    have HAP := Lib.hid hap
    clear HMO HCU HBK hx0 hap
    generalize hR1 : cnParse (TX.take n) = R1 at *
    generalize hR2 : cnParse (TX ++ [120]) = R2 at *
    have HR1 := Lib.hid hR1
    have HR2 := Lib.hid hR2
    clear hR1 hR2 HTX HOK HB HP HW
    obtain ⟨⟨clean, keep, props, id, hasWill, wp, topic, pay, qos, ret, hasUser, hasPass, user, pass⟩, er⟩ := R1
    dsimp only at hcn
    subst hcn
    go_wp2_with fail
    rw [HX0.out]
    refine (cnparse_any (TX.take n) _ (by rw [List.length_take]; omega)).mono ?_
    rw [HR1.out]
    rintro _ x4 ⟨v9, u9, rfl, V9, U9, g⟩
    dsimp only at V9 U9
    obtain ⟨A9, n9, rfl⟩ := view_shape V9
    obtain ⟨A8, n8, rfl⟩ := view_shape U9
    unfold cnC
    dsimp only
    have F5 := Lib.hid ((F4.out.trans g (by simp)).alloc (.cells #[.bool clean, .int .u32 (keep : Int), .slice A9 props.length n9, .string ⟨id.toArray⟩, .bool hasWill, .slice A8 wp.length n8, .string ⟨topic.toArray⟩, .string ⟨pay.toArray⟩, .int .u8 (qos : Int), .bool ret, .bool hasUser, .bool hasPass, .string ⟨user.toArray⟩, .string ⟨pass.toArray⟩] 48))
    clear V9 U9 g F4
    have hL3 : ¬ 9223372036854775807 < TX.length + 1 := by omega
    go_upto_region 8 with (fail)
    obtain ⟨z2, hz⟩ : ∃ z2, x4.alloc (.cells #[.bool clean, .int .u32 (keep : Int), .slice A9 props.length n9, .string ⟨id.toArray⟩, .bool hasWill, .slice A8 wp.length n8, .string ⟨topic.toArray⟩, .string ⟨pay.toArray⟩, .int .u8 (qos : Int), .bool ret, .bool hasUser, .bool hasPass, .string ⟨user.toArray⟩, .string ⟨pass.toArray⟩] 48) = z2 := ⟨_, rfl⟩
    rw [hz] at F5 ⊢
    clear hz
    clear HR1
    obtain ⟨⟨clean, keep, props, id, hasWill, wp, topic, pay, qos, ret, hasUser, hasPass, user, pass⟩, er⟩ := R2
    dsimp only at hmo
    subst hmo
    go_wp2_with fail
    rw [HAP.out]
    refine (cnparse_any (TX ++ [120]) _ (by rw [List.length_append]; simp; omega)).mono ?_
    rw [HR2.out]
    rintro _ x5 ⟨v9, u9, rfl, V9, U9, g⟩
    dsimp only at V9 U9
    obtain ⟨A9, n9, rfl⟩ := view_shape V9
    obtain ⟨A8, n8, rfl⟩ := view_shape U9
    unfold cnC
    dsimp only
    have F6 := Lib.hid ((F5.out.trans g (by simp)).alloc (.cells #[.bool clean, .int .u32 (keep : Int), .slice A9 props.length n9, .string ⟨id.toArray⟩, .bool hasWill, .slice A8 wp.length n8, .string ⟨topic.toArray⟩, .string ⟨pay.toArray⟩, .int .u8 (qos : Int), .bool ret, .bool hasUser, .bool hasPass, .string ⟨user.toArray⟩, .string ⟨pass.toArray⟩] 48))
    clear V9 U9 g F5
    go_wp2
    go_ret
    exact ⟨rfl, F6.out⟩
end Go.Proofs.Ytlhkgalmiajinaa
