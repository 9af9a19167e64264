/- What the reference of layer 6 writes: the same words as the program's. Conditions: numbers within their kinds, strings that may be. -/
import Derived.Test.YtlhkgalmiajinaaConA
import Derived.Test.YtlhkgalmiajinaaPubT
import Derived.Test.YtlhkgalmiajinaaDrawn
namespace Go.Proofs.Ytlhkgalmiajinaa
open Go.RowKit
set_option linter.unusedVariables false
set_option linter.unusedSimpArgs false

theorem rnum6_any (b : Bool) (n : Int) (w : World) : Calls Try.prog 71 #[.bool b, .int .i64 n] w fun e w' => e = .returned (.int .i64 (bitI b n)) ∧ w = w' := by
  have HB : Hid (bitI b n = if b = true then n else 0) := Lib.hid rfl
  go_enter Try.func71, Try.ntmps71
  cases b
  all_goals
    go_wp2
    go_ret
    rw [HB.out]
    exact ⟨rfl, rfl⟩
/-- The reference's connect stands in the block behind w. -/
structure RtS (w : World) (c : Cn) (v u : Value) (y : World) : Prop where
  c : y.heap[w.heap.size]? = some (.cells (cnC c v u).toArray 57 (0, 0))
  f : Fr [] w y
theorem RtS.go {w y y' : World} {c : Cn} {v u : Value} (h : RtS w c v u y) (g : Fr [] y y') : RtS w c v u y' := ⟨g.blk h.c (by simp), h.f.trans g (by simp)⟩
theorem RtS.facts {w y : World} {clean : Bool} {keep : Nat} {props : List Pr} {id : List UInt8} {hasWill : Bool} {wp : List Pr} {topic pay : List UInt8} {qos : Nat} {ret hasUser hasPass : Bool} {user pass : List UInt8} {v u : Value} (h : RtS w ⟨clean, keep, props, id, hasWill, wp, topic, pay, qos, ret, hasUser, hasPass, user, pass⟩ v u y) : (fun w' => w'.cell? ⟨w.heap.size, 0, none⟩ = some (.bool clean) ∧ w'.cell? ⟨w.heap.size, 1, none⟩ = some (.int .u32 (keep : Int)) ∧ w'.cell? ⟨w.heap.size, 2, none⟩ = some (v) ∧ w'.cell? ⟨w.heap.size, 3, none⟩ = some (.string ⟨id.toArray⟩) ∧ w'.cell? ⟨w.heap.size, 4, none⟩ = some (.bool hasWill) ∧ w'.cell? ⟨w.heap.size, 5, none⟩ = some (u) ∧ w'.cell? ⟨w.heap.size, 6, none⟩ = some (.string ⟨topic.toArray⟩) ∧ w'.cell? ⟨w.heap.size, 7, none⟩ = some (.string ⟨pay.toArray⟩) ∧ w'.cell? ⟨w.heap.size, 8, none⟩ = some (.int .u8 (qos : Int)) ∧ w'.cell? ⟨w.heap.size, 9, none⟩ = some (.bool ret) ∧ w'.cell? ⟨w.heap.size, 10, none⟩ = some (.bool hasUser) ∧ w'.cell? ⟨w.heap.size, 11, none⟩ = some (.bool hasPass) ∧ w'.cell? ⟨w.heap.size, 12, none⟩ = some (.string ⟨user.toArray⟩) ∧ w'.cell? ⟨w.heap.size, 13, none⟩ = some (.string ⟨pass.toArray⟩)) y := (blk14n_facts h.c).1
theorem rcn_sum : ∀ a b c d : Bool, wrap64 (wrap64 (wrap64 (bitI a 2 + bitI b 4) + bitI c 64) + bitI d 128) = ((bitN a 2 + bitN b 4 + bitN c 64 + bitN d 128 : Nat) : Int) := by decide +kernel
theorem rcn_sum2 (F0 q : Nat) (r : Bool) (h : F0 < 256) : wrap64 ((F0 : Int) + wrap64 ((q : Int) % 4 * 8 + bitI r 32)) = ((F0 + (q % 4 * 8 + bitN r 32) : Nat) : Int) := by
  cases r
  all_goals
    simp only [wrap64, bitI, bitN, Bool.false_eq_true, if_false, if_true]
    omega
set_option maxRecDepth 100000 in
set_option maxHeartbeats 4000000 in
theorem rcntext_any (c : Cn) (v u : Value) (w : World) (hc : CnOk w c v u) :
    Calls Try.prog 32 #[.agg (cnC c v u).toArray] w fun e w' => e = .returned (.string ⟨(cnText c).toArray⟩) ∧ Fr [] w w' := by
  obtain ⟨clean, keep, props, id, hasWill, wp, topic, pay, qos, ret, hasUser, hasPass, user, pass⟩ := c
  have hk := hc.k
  have hq := hc.q
  dsimp only at hk hq
  have HC := Lib.hid hc
  have T0 : RtS w ⟨clean, keep, props, id, hasWill, wp, topic, pay, qos, ret, hasUser, hasPass, user, pass⟩ v u (w.alloc (.cells (cnC ⟨clean, keep, props, id, hasWill, wp, topic, pay, qos, ret, hasUser, hasPass, user, pass⟩ v u).toArray 57)) := ⟨blk_new w _, (Fr.refl _ _).alloc _⟩
  unfold cnC at T0 ⊢
  go_enter Try.func32, Try.ntmps32
  go_upto_region 1 with (fail)
  obtain ⟨y, hy⟩ : ∃ y, w.alloc (.cells #[.bool clean, .int .u32 (keep : Int), v, .string ⟨id.toArray⟩, .bool hasWill, u, .string ⟨topic.toArray⟩, .string ⟨pay.toArray⟩, .int .u8 (qos : Int), .bool ret, .bool hasUser, .bool hasPass, .string ⟨user.toArray⟩, .string ⟨pass.toArray⟩] 57) = y := ⟨_, rfl⟩
  rw [hy] at T0 ⊢
  clear hy
  have HT := Lib.hid T0
  clear T0
  obtain ⟨e0, e1, e2, e3, e4, e5, e6, e7, e8, e9, e10, e11, e12, e13⟩ := (HT.out.facts)
  go_quiet ((go_at_call 71; exact qsame (rnum6_any _ _ _)))
  obtain ⟨z, hz⟩ : ∃ z, y.drewN nq = z := ⟨_, rfl⟩
  rw [hz]
  have HT1 := Lib.hid (show RtS w ⟨clean, keep, props, id, hasWill, wp, topic, pay, qos, ret, hasUser, hasPass, user, pass⟩ v u z by rw [← hz]; exact HT.out.go ((Fr.refl _ _).drewN nq))
  clear hz HT
  rw [rcn_sum clean hasWill hasPass hasUser]
  obtain ⟨F0, hF0⟩ : ∃ F0 : Nat, bitN clean 2 + bitN hasWill 4 + bitN hasPass 64 + bitN hasUser 128 = F0 := ⟨_, rfl⟩
  obtain ⟨FL, hFL⟩ : ∃ FL : Nat, cnFlags ⟨clean, keep, props, id, hasWill, wp, topic, pay, qos, ret, hasUser, hasPass, user, pass⟩ = FL := ⟨_, rfl⟩
  have hFl : FL < 256 := by
    rw [← hFL]
    show bitN clean 2 + bitN hasWill 4 + bitN hasPass 64 + bitN hasUser 128 + (if hasWill = true then qos % 4 * 8 + bitN ret 32 else 0) < 256
    have hm : qos % 4 < 4 := Nat.mod_lt _ (by decide)
    unfold bitN
    repeat' split
    all_goals omega
  have HFL := Lib.hid hFL
  have HF0 := Lib.hid hF0
  rw [hF0]
  obtain ⟨L4, hL4⟩ : ∃ L : List UInt8, L = dataB id ++ cnWill ⟨clean, keep, props, id, hasWill, wp, topic, pay, qos, ret, hasUser, hasPass, user, pass⟩ := ⟨_, rfl⟩
  obtain ⟨L5, hL5⟩ : ∃ L : List UInt8, L = L4 ++ cnUser ⟨clean, keep, props, id, hasWill, wp, topic, pay, qos, ret, hasUser, hasPass, user, pass⟩ := ⟨_, rfl⟩
  obtain ⟨L6, hL6⟩ : ∃ L : List UInt8, L = L5 ++ cnPass ⟨clean, keep, props, id, hasWill, wp, topic, pay, qos, ret, hasUser, hasPass, user, pass⟩ := ⟨_, rfl⟩
  have HL4 := Lib.hid hL4
  have HL5 := Lib.hid hL5
  have HL6 := Lib.hid hL6
  have HFLX := Lib.hid hFL
  have HLX := Lib.hid (show L6 = dataB id ++ cnWill ⟨clean, keep, props, id, hasWill, wp, topic, pay, qos, ret, hasUser, hasPass, user, pass⟩ ++ cnUser ⟨clean, keep, props, id, hasWill, wp, topic, pay, qos, ret, hasUser, hasPass, user, pass⟩ ++ cnPass ⟨clean, keep, props, id, hasWill, wp, topic, pay, qos, ret, hasUser, hasPass, user, pass⟩ by rw [hL6, hL5, hL4])
  have hlp := putsB_len props
  have hlw := putsB_len wp
  have hv4 := varB_len' (putsB props).length
  have hw4 := varB_len' (putsB wp).length
  have hvl := hc.vl
  have hul := hc.ul
  dsimp only at hvl hul
  have hd1 := dataB_len id
  have hd2 := dataB_len topic
  have hd3 := dataB_len pay
  have hd4 := dataB_len user
  have hd5 := dataB_len pass
  have hl4 : L4.length ≤ 140000000 := by
    rw [hL4, cnWill, List.length_append]
    dsimp only
    split
    · simp only [propsB, List.length_append]; omega
    · simp; omega
  have hl5 : L5.length ≤ 141000000 := by
    rw [hL5, cnUser, List.length_append]
    dsimp only
    split
    · omega
    · simp; omega
  have hl6 : L6.length ≤ 142000000 := by
    rw [hL6, cnPass, List.length_append]
    dsimp only
    split
    · omega
    · simp; omega
  clear hFL hF0 hL4 hL5 hL6 hc
  clear e0 e1 e2 e3 e4 e5 e6 e7 e8 e9 e10 e11 e12 e13
  obtain ⟨e0, e1, e2, e3, e4, e5, e6, e7, e8, e9, e10, e11, e12, e13⟩ := (HT1.out.facts)
  go_wp2_with fail
  refine (rdata_any id _ HC.out.id).mono ?_
  rintro _ x1 ⟨rfl, g1⟩
  have HT2 := Lib.hid (HT1.out.go g1)
  clear g1 HT1
  clear e0 e1 e2 e3 e4 e5 e6 e7 e8 e9 e10 e11 e12 e13
  obtain ⟨e0, e1, e2, e3, e4, e5, e6, e7, e8, e9, e10, e11, e12, e13⟩ := (HT2.out.facts)
  go_upto_if 24 with (fail)
  go_cut [3, 4] (fun v3 v4 wx => v3 = .int .i64 (FL : Int) ∧ v4 = .string ⟨L4.toArray⟩ ∧ RtS w ⟨clean, keep, props, id, hasWill, wp, topic, pay, qos, ret, hasUser, hasPass, user, pass⟩ v u wx)
  case first =>
    cases hasWill
    · have h1 : F0 = FL := by rw [← HFL.out, ← HF0.out]; rfl
      have h2 : dataB id = L4 := by rw [HL4.out]; simp [cnWill]
      go_wp2
      go_meet
      exact ⟨by rw [h1], by rw [h2], HT2.out⟩
    · go_upto_region 4 with (fail)
      go_quiet ((go_at_call 71; exact qsame (rnum6_any _ _ _)))
      obtain ⟨z2, hz2⟩ : ∃ z2, x1.drewN nq = z2 := ⟨_, rfl⟩
      rw [hz2]
      have HT3 := Lib.hid (show RtS w ⟨clean, keep, props, id, true, wp, topic, pay, qos, ret, hasUser, hasPass, user, pass⟩ v u z2 by rw [← hz2]; exact HT2.out.go ((Fr.refl _ _).drewN nq))
      clear hz2 HT2
      have hF0l : F0 < 256 := by
        rw [← HF0.out]
        unfold bitN
        repeat' split
        all_goals omega
      have h1 : F0 + (qos % 4 * 8 + bitN ret 32) = FL := by rw [← HFL.out, ← HF0.out]; rfl
      rw [rcn_sum2 F0 qos ret hF0l, h1]
      have h2 : dataB id ++ (propsB wp ++ dataB topic ++ dataB pay) = L4 := by rw [HL4.out]; simp [cnWill]
      have H2 := Lib.hid h2
      clear h1 h2
      clear e0 e1 e2 e3 e4 e5 e6 e7 e8 e9 e10 e11 e12 e13
      obtain ⟨e0, e1, e2, e3, e4, e5, e6, e7, e8, e9, e10, e11, e12, e13⟩ := (HT3.out.facts)
      have HT4 := Lib.hid (HT3.out.go ((Fr.refl _ _).drew))
      have m1 : ¬ 9223372036854775807 < (var (putsB wp).length).length + (putsB wp).length + (dataB topic).length := by omega
      have m2 : ¬ 9223372036854775807 < (var (putsB wp).length).length + (putsB wp).length + (dataB topic).length + (dataB pay).length := by omega
      have m3 : ¬ 9223372036854775807 < (dataB id).length + ((var (putsB wp).length).length + (putsB wp).length + (dataB topic).length + (dataB pay).length) := by omega
      clear HT3
      go_upto_region 5 with (fail)
      go_region_held3 (fun w' => w'.cell? ⟨w.heap.size, 0, none⟩ = some (.bool clean) ∧ w'.cell? ⟨w.heap.size, 1, none⟩ = some (.int .u32 (keep : Int)) ∧ w'.cell? ⟨w.heap.size, 2, none⟩ = some (v) ∧ w'.cell? ⟨w.heap.size, 3, none⟩ = some (.string ⟨id.toArray⟩) ∧ w'.cell? ⟨w.heap.size, 4, none⟩ = some (.bool true) ∧ w'.cell? ⟨w.heap.size, 5, none⟩ = some (u) ∧ w'.cell? ⟨w.heap.size, 6, none⟩ = some (.string ⟨topic.toArray⟩) ∧ w'.cell? ⟨w.heap.size, 7, none⟩ = some (.string ⟨pay.toArray⟩) ∧ w'.cell? ⟨w.heap.size, 8, none⟩ = some (.int .u8 (qos : Int)) ∧ w'.cell? ⟨w.heap.size, 9, none⟩ = some (.bool ret) ∧ w'.cell? ⟨w.heap.size, 10, none⟩ = some (.bool hasUser) ∧ w'.cell? ⟨w.heap.size, 11, none⟩ = some (.bool hasPass) ∧ w'.cell? ⟨w.heap.size, 12, none⟩ = some (.string ⟨user.toArray⟩) ∧ w'.cell? ⟨w.heap.size, 13, none⟩ = some (.string ⟨pass.toArray⟩)) (first | go_keep | exact kk) (first | (go_at_call 57; refine (rtext_pany _ wp _ (HC.out.u.old HT4.out.f (by simp)) HC.out.ul HC.out.uo).mono ?_; rintro _ x3 ⟨rfl, g3⟩; have HT5 := Lib.hid (HT4.out.go g3); have kk := HT5.out.facts) | (go_at_call 55; (with_reducible refine (rdata_any topic _ HC.out.topic).mono ?_); rintro _ x4 ⟨rfl, g4⟩; have HT6 := Lib.hid (HT5.out.go g4); have kk := HT6.out.facts) | (go_at_call 55; refine (rdata_any pay _ HC.out.pay).mono ?_; rintro _ x5 ⟨rfl, g5⟩; have HT7 := Lib.hid (HT6.out.go g5); have kk := HT7.out.facts))
      go_wp2_with fail
      go_meet
      exact ⟨rfl, by rw [← H2.out]; simp [propsB, ByteArray.mk_append_mk], HT7.out⟩
  case rest =>
    obtain ⟨rfl, rfl, hT⟩ := hcut
    have HT3 := Lib.hid hT
    clear hT HT2 HF0 HFL HL4
    clear e0 e1 e2 e3 e4 e5 e6 e7 e8 e9 e10 e11 e12 e13
    obtain ⟨e0, e1, e2, e3, e4, e5, e6, e7, e8, e9, e10, e11, e12, e13⟩ := (HT3.out.facts)
    go_upto_if 55 with (fail)
    go_cut [4] (fun v4 wx => v4 = .string ⟨L5.toArray⟩ ∧ RtS w ⟨clean, keep, props, id, hasWill, wp, topic, pay, qos, ret, hasUser, hasPass, user, pass⟩ v u wx)
    case first =>
      cases hasUser
      · have h2 : L4 = L5 := by rw [HL5.out]; simp [cnUser]
        go_wp2
        go_meet
        exact ⟨by rw [h2], HT3.out⟩
      · have H2 := Lib.hid (show L4 ++ dataB user = L5 by rw [HL5.out]; simp [cnUser])
        have m1 : ¬ 9223372036854775807 < L4.length + (dataB user).length := by omega
        go_wp2_with fail
        refine (rdata_any user _ HC.out.user).mono ?_
        rintro _ x5 ⟨rfl, g5⟩
        go_wp2_with fail
        go_meet
        exact ⟨by rw [← H2.out]; simp [ByteArray.mk_append_mk], HT3.out.go g5⟩
    case rest =>
      obtain ⟨rfl, hT⟩ := hcut
      have HT4 := Lib.hid hT
      clear hT HT3 HL5
      clear e0 e1 e2 e3 e4 e5 e6 e7 e8 e9 e10 e11 e12 e13
      obtain ⟨e0, e1, e2, e3, e4, e5, e6, e7, e8, e9, e10, e11, e12, e13⟩ := (HT4.out.facts)
      go_upto_if 62 with (fail)
      go_cut [4] (fun v4 wx => v4 = .string ⟨L6.toArray⟩ ∧ RtS w ⟨clean, keep, props, id, hasWill, wp, topic, pay, qos, ret, hasUser, hasPass, user, pass⟩ v u wx)
      case first =>
        cases hasPass
        · have h2 : L5 = L6 := by rw [HL6.out]; simp [cnPass]
          go_wp2
          go_meet
          exact ⟨by rw [h2], HT4.out⟩
        · have H2 := Lib.hid (show L5 ++ dataB pass = L6 by rw [HL6.out]; simp [cnPass])
          have m1 : ¬ 9223372036854775807 < L5.length + (dataB pass).length := by omega
          go_wp2_with fail
          refine (rdata_any pass _ HC.out.pass).mono ?_
          rintro _ x5 ⟨rfl, g5⟩
          go_wp2_with fail
          go_meet
          exact ⟨by rw [← H2.out]; simp [ByteArray.mk_append_mk], HT4.out.go g5⟩
      case rest =>
        obtain ⟨rfl, hT⟩ := hcut
        have HT5 := Lib.hid hT
        clear hT HT4 HL6
        clear e0 e1 e2 e3 e4 e5 e6 e7 e8 e9 e10 e11 e12 e13
        obtain ⟨e0, e1, e2, e3, e4, e5, e6, e7, e8, e9, e10, e11, e12, e13⟩ := (HT5.out.facts)
        generalize wc = z5 at *
        have hwr : IntKind.u8.wrap (FL : Int) = FL := by rw [IntKind.wrap_u8]; omega
        have h2l : (two keep).length = 2 := rfl
        have n3 : ¬ 9223372036854775807 < 10 + ((var (putsB props).length).length + (putsB props).length) := by omega
        have n4 : ¬ 9223372036854775807 < 10 + ((var (putsB props).length).length + (putsB props).length) + L6.length := by omega
        have HTX := Lib.hid (show cnText ⟨clean, keep, props, id, hasWill, wp, topic, pay, qos, ret, hasUser, hasPass, user, pass⟩ = [0, 4, 77, 81, 84, 84, 5] ++ ([b8 FL] ++ (two keep ++ (propsB props ++ L6))) by rw [cnText, HFLX.out, HLX.out]; simp)
        clear e0 e3 e4 e5 e6 e7 e8 e9 e10 e11 e12 e13
        go_upto_region 10 with (fail)
        refine wp_region_late [] (S := fun w' => w'.cell? ⟨w.heap.size, 1, none⟩ = some (.int .u32 (keep : Int)) ∧ w'.cell? ⟨w.heap.size, 2, none⟩ = some v) (by kernel_rfl) ⟨e1, e2⟩ (fun hHeld => ?_)
        have fd := (Fr.refl [] z5).drew
        obtain ⟨wd, hwd⟩ : ∃ wd, z5.drew = wd := ⟨_, rfl⟩
        rw [hwd] at hHeld fd ⊢
        clear hwd e1 e2
        have e1 := hHeld.1
        have e2 := hHeld.2
        refine wpLate_take (i := 0) (oi := _) (v := ?_) rfl (by kernel_rfl) (by kernel_rfl) (by kernel_rfl) (by kernel_rfl) (fun _ _ _ h => h) (Gives.load (by rfl) ?_) hHeld ?_
        rotate_left
        · intro w hSw
          (try dsimp only at hSw)
          go_simp
          try with_reducible rfl
        try simp only [Act.put, List.getElem_toArray, List.getElem_cons_succ, List.getElem_cons_zero, List.setIfInBounds_toArray, List.set_cons_zero, List.set_cons_succ]
        refine wpLate_take (i := 1) (oi := _) (v := ?_) rfl (by kernel_rfl) (by kernel_rfl) (by kernel_rfl) (by kernel_rfl) (fun _ _ _ h => h) (Gives.load (by rfl) ?_) hHeld ?_
        rotate_left
        · intro w hSw
          (try dsimp only at hSw)
          go_simp
          try with_reducible rfl
        try simp only [Act.put, List.getElem_toArray, List.getElem_cons_succ, List.getElem_cons_zero, List.setIfInBounds_toArray, List.set_cons_zero, List.set_cons_succ]
        try rw [hwr]
        refine wpLate_take (i := 5) (oi := _) (v := ?_) rfl (by kernel_rfl) (by kernel_rfl) (by kernel_rfl) (by kernel_rfl) (fun _ _ _ h => h) (Gives.load (by rfl) ?_) hHeld ?_
        rotate_left
        · intro w hSw
          (try dsimp only at hSw)
          go_simp
          try with_reducible rfl
        try simp only [Act.put, List.getElem_toArray, List.getElem_cons_succ, List.getElem_cons_zero, List.setIfInBounds_toArray, List.set_cons_zero, List.set_cons_succ]
        refine wpLate_take (i := 6) (oi := _) (v := ?_) rfl (by kernel_rfl) (by kernel_rfl) (by kernel_rfl) (by kernel_rfl) (fun _ _ _ h => h) (Gives.load (by rfl) ?_) hHeld ?_
        rotate_left
        · intro w hSw
          (try dsimp only at hSw)
          go_simp
          try with_reducible rfl
        try simp only [Act.put, List.getElem_toArray, List.getElem_cons_succ, List.getElem_cons_zero, List.setIfInBounds_toArray, List.set_cons_zero, List.set_cons_succ]
        refine wpLate_take (i := 9) (oi := _) (v := ?_) rfl (by kernel_rfl) (by kernel_rfl) (by kernel_rfl) (by kernel_rfl) (fun _ _ _ h => h) (Gives.load (by rfl) ?_) hHeld ?_
        rotate_left
        · intro w hSw
          (try dsimp only at hSw)
          go_simp
          try with_reducible rfl
        try simp only [Act.put, List.getElem_toArray, List.getElem_cons_succ, List.getElem_cons_zero, List.setIfInBounds_toArray, List.set_cons_zero, List.set_cons_succ]
        refine wpLate_take (i := 10) (oi := _) (v := ?_) rfl (by kernel_rfl) (by kernel_rfl) (by kernel_rfl) (by kernel_rfl) (fun _ _ _ h => h) (Gives.load (by rfl) ?_) hHeld ?_
        rotate_left
        · intro w hSw
          (try dsimp only at hSw)
          go_simp
          try with_reducible rfl
        try simp only [Act.put, List.getElem_toArray, List.getElem_cons_succ, List.getElem_cons_zero, List.setIfInBounds_toArray, List.set_cons_zero, List.set_cons_succ]
        refine wpLate_take (i := 13) (oi := _) (v := ?_) rfl (by kernel_rfl) (by kernel_rfl) (by kernel_rfl) (by kernel_rfl) (fun _ _ _ h => h) (Gives.load (by rfl) ?_) hHeld ?_
        rotate_left
        · intro w hSw
          (try dsimp only at hSw)
          go_simp
          try with_reducible rfl
        try simp only [Act.put, List.getElem_toArray, List.getElem_cons_succ, List.getElem_cons_zero, List.setIfInBounds_toArray, List.set_cons_zero, List.set_cons_succ]
        refine wpLate_ready (rs := [2, 7]) (by kernel_rfl) (by simp) ?_
        refine AllLate.cons (o := _) rfl (fun K hK => ?_) ?_
        · go_simp
          have f1 := (Fr.refl [] wd).alloc (.cells #[.int .u8 (FL : Int)] 5)
          have hs1 := blk_new wd (.cells #[.int .u8 (FL : Int)] 5)
          refine hK.out _ _ (fun _ => ⟨(f1).cell e1 (by simp), (f1).cell e2 (by simp)⟩) (fun hHeld => ?_)
          replace hHeld := hHeld (by kernel_rfl)
          clear hK K
          try simp only [Act.put, List.getElem_toArray, List.getElem_cons_succ, List.getElem_cons_zero, List.setIfInBounds_toArray, List.set_cons_zero, List.set_cons_succ]
          obtain ⟨B1, hB⟩ : ∃ B, wd.heap.size = B := ⟨_, rfl⟩
          obtain ⟨X1, hX⟩ : ∃ X, wd.alloc (.cells #[.int .u8 (FL : Int)] 5) = X := ⟨_, rfl⟩
          rw [hB] at hs1 ⊢
          rw [hX] at hHeld f1 hs1 ⊢
          clear hX hB
          refine wpLate_ready (rs := [3, 7]) (by kernel_rfl) (by simp) ?_
          refine AllLate.cons (o := _) rfl (fun K hK => ?_) ?_
          · have hcv := conv_byte hFl hs1
            go_simp
            refine hK.out _ _ (fun _ => hHeld) (fun hHeld => ?_)
            replace hHeld := hHeld (by kernel_rfl)
            clear hK K
            try simp only [Act.put, List.getElem_toArray, List.getElem_cons_succ, List.getElem_cons_zero, List.setIfInBounds_toArray, List.set_cons_zero, List.set_cons_succ]
            clear hcv
            refine wpLate_pure (i := 4) (oi := _) (v := ?_) rfl (by kernel_rfl) (by kernel_rfl) (by kernel_rfl) (by kernel_rfl) (fun _ _ _ h => h) (Gives.load (by rfl) ?_) (fun _ => hHeld) ?_
            rotate_left
            · intro w hSw
              clear hSw
              go_simp
              try with_reducible rfl
            try simp only [Act.put, List.getElem_toArray, List.getElem_cons_succ, List.getElem_cons_zero, List.setIfInBounds_toArray, List.set_cons_zero, List.set_cons_succ]
            refine wpLate_ready (rs := [7]) (by kernel_rfl) (by simp) ?_
            refine AllLate.cons (o := _) rfl (fun K hK => ?_) ?_
            · go_simp
              refine (rtwo_any keep _ (by omega) (by omega)).mono ?_
              rintro _ x3 ⟨rfl, f⟩
              rw [Int.toNat_natCast]
              go_wp2_with fail
              have f3 := (f1).trans f (by simp)
              have hs3 := f.blk hs1 (by simp)
              clear f
              refine hK.out _ _ (fun _ => ⟨(f3).cell e1 (by simp), (f3).cell e2 (by simp)⟩) (fun hHeld => ?_)
              replace hHeld := hHeld (by kernel_rfl)
              clear hK K
              try simp only [Act.put, List.getElem_toArray, List.getElem_cons_succ, List.getElem_cons_zero, List.setIfInBounds_toArray, List.set_cons_zero, List.set_cons_succ]
              refine wpLate_pure (i := 8) (oi := _) (v := ?_) rfl (by kernel_rfl) (by kernel_rfl) (by kernel_rfl) (by kernel_rfl) (fun _ _ _ h => h) (Gives.load (by rfl) ?_) (fun _ => hHeld) ?_
              rotate_left
              · intro w hSw
                clear hSw
                go_simp
                try with_reducible rfl
              try simp only [Act.put, List.getElem_toArray, List.getElem_cons_succ, List.getElem_cons_zero, List.setIfInBounds_toArray, List.set_cons_zero, List.set_cons_succ]
              refine wpLate_ready (rs := [11]) (by kernel_rfl) (by simp) ?_
              refine AllLate.cons (o := _) rfl (fun K hK => ?_) ?_
              · go_simp
                refine (rtext_pany v props _ (HC.out.v.old ((HT5.out.f.trans fd (by simp)).trans (f3) (by simp)) (by simp)) HC.out.vl HC.out.vo).mono ?_
                rintro _ x4 ⟨rfl, f⟩
                go_wp2_with fail
                have f4 := (f3).trans f (by simp)
                have hs4 := f.blk hs3 (by simp)
                clear f
                refine hK.out _ _ (fun _ => ⟨(f4).cell e1 (by simp), (f4).cell e2 (by simp)⟩) (fun hHeld => ?_)
                replace hHeld := hHeld (by kernel_rfl)
                clear hK K
                try simp only [Act.put, List.getElem_toArray, List.getElem_cons_succ, List.getElem_cons_zero, List.setIfInBounds_toArray, List.set_cons_zero, List.set_cons_succ]
                refine wpLate_pure (i := 12) (oi := _) (v := ?_) rfl (by kernel_rfl) (by kernel_rfl) (by kernel_rfl) (by kernel_rfl) (fun _ _ _ h => h) (Gives.load (by rfl) ?_) (fun _ => hHeld) ?_
                rotate_left
                · intro w hSw
                  clear hSw
                  go_simp
                  try with_reducible rfl
                try simp only [Act.put, List.getElem_toArray, List.getElem_cons_succ, List.getElem_cons_zero, List.setIfInBounds_toArray, List.set_cons_zero, List.set_cons_succ]
                refine wpLate_pure (i := 14) (oi := _) (v := ?_) rfl (by kernel_rfl) (by kernel_rfl) (by kernel_rfl) (by kernel_rfl) (fun _ _ _ h => h) (Gives.load (by rfl) ?_) (fun _ => hHeld) ?_
                rotate_left
                · intro w hSw
                  clear hSw
                  go_simp
                  try with_reducible rfl
                try simp only [Act.put, List.getElem_toArray, List.getElem_cons_succ, List.getElem_cons_zero, List.setIfInBounds_toArray, List.set_cons_zero, List.set_cons_succ]
                refine wpLate_pure (i := 15) (oi := _) (v := ?_) rfl (by kernel_rfl) (by kernel_rfl) (by kernel_rfl) (by kernel_rfl) (fun _ _ _ h => h) (Gives.load (by rfl) ?_) (fun _ => hHeld) ?_
                rotate_left
                · intro w hSw
                  clear hSw
                  go_simp
                  try with_reducible rfl
                try simp only [Act.put, List.getElem_toArray, List.getElem_cons_succ, List.getElem_cons_zero, List.setIfInBounds_toArray, List.set_cons_zero, List.set_cons_succ]
                refine wpLate_done (by kernel_rfl) ?_ _
                go_wp2
                go_ret
                rw [HTX.out]
                exact ⟨ret_str (by simp [propsB]), (HT5.out.f.trans fd (by simp)).trans (f4) (by simp)⟩
              exact AllLate.nil
            exact AllLate.nil
          refine AllLate.cons (o := _) rfl (fun K hK => ?_) ?_
          · go_simp
            refine (rtwo_any keep _ (by omega) (by omega)).mono ?_
            rintro _ x5 ⟨rfl, f⟩
            rw [Int.toNat_natCast]
            go_wp2_with fail
            have f5 := (f1).trans f (by simp)
            have hs5 := f.blk hs1 (by simp)
            clear f
            refine hK.out _ _ (fun _ => ⟨(f5).cell e1 (by simp), (f5).cell e2 (by simp)⟩) (fun hHeld => ?_)
            replace hHeld := hHeld (by kernel_rfl)
            clear hK K
            try simp only [Act.put, List.getElem_toArray, List.getElem_cons_succ, List.getElem_cons_zero, List.setIfInBounds_toArray, List.set_cons_zero, List.set_cons_succ]
            refine wpLate_ready (rs := [3, 11]) (by kernel_rfl) (by simp) ?_
            refine AllLate.cons (o := _) rfl (fun K hK => ?_) ?_
            · have hcv := conv_byte hFl hs5
              go_simp
              refine hK.out _ _ (fun _ => hHeld) (fun hHeld => ?_)
              replace hHeld := hHeld (by kernel_rfl)
              clear hK K
              try simp only [Act.put, List.getElem_toArray, List.getElem_cons_succ, List.getElem_cons_zero, List.setIfInBounds_toArray, List.set_cons_zero, List.set_cons_succ]
              clear hcv
              refine wpLate_pure (i := 4) (oi := _) (v := ?_) rfl (by kernel_rfl) (by kernel_rfl) (by kernel_rfl) (by kernel_rfl) (fun _ _ _ h => h) (Gives.load (by rfl) ?_) (fun _ => hHeld) ?_
              rotate_left
              · intro w hSw
                clear hSw
                go_simp
                try with_reducible rfl
              try simp only [Act.put, List.getElem_toArray, List.getElem_cons_succ, List.getElem_cons_zero, List.setIfInBounds_toArray, List.set_cons_zero, List.set_cons_succ]
              refine wpLate_pure (i := 8) (oi := _) (v := ?_) rfl (by kernel_rfl) (by kernel_rfl) (by kernel_rfl) (by kernel_rfl) (fun _ _ _ h => h) (Gives.load (by rfl) ?_) (fun _ => hHeld) ?_
              rotate_left
              · intro w hSw
                clear hSw
                go_simp
                try with_reducible rfl
              try simp only [Act.put, List.getElem_toArray, List.getElem_cons_succ, List.getElem_cons_zero, List.setIfInBounds_toArray, List.set_cons_zero, List.set_cons_succ]
              refine wpLate_ready (rs := [11]) (by kernel_rfl) (by simp) ?_
              refine AllLate.cons (o := _) rfl (fun K hK => ?_) ?_
              · go_simp
                refine (rtext_pany v props _ (HC.out.v.old ((HT5.out.f.trans fd (by simp)).trans (f5) (by simp)) (by simp)) HC.out.vl HC.out.vo).mono ?_
                rintro _ x7 ⟨rfl, f⟩
                go_wp2_with fail
                have f7 := (f5).trans f (by simp)
                have hs7 := f.blk hs5 (by simp)
                clear f
                refine hK.out _ _ (fun _ => ⟨(f7).cell e1 (by simp), (f7).cell e2 (by simp)⟩) (fun hHeld => ?_)
                replace hHeld := hHeld (by kernel_rfl)
                clear hK K
                try simp only [Act.put, List.getElem_toArray, List.getElem_cons_succ, List.getElem_cons_zero, List.setIfInBounds_toArray, List.set_cons_zero, List.set_cons_succ]
                refine wpLate_pure (i := 12) (oi := _) (v := ?_) rfl (by kernel_rfl) (by kernel_rfl) (by kernel_rfl) (by kernel_rfl) (fun _ _ _ h => h) (Gives.load (by rfl) ?_) (fun _ => hHeld) ?_
                rotate_left
                · intro w hSw
                  clear hSw
                  go_simp
                  try with_reducible rfl
                try simp only [Act.put, List.getElem_toArray, List.getElem_cons_succ, List.getElem_cons_zero, List.setIfInBounds_toArray, List.set_cons_zero, List.set_cons_succ]
                refine wpLate_pure (i := 14) (oi := _) (v := ?_) rfl (by kernel_rfl) (by kernel_rfl) (by kernel_rfl) (by kernel_rfl) (fun _ _ _ h => h) (Gives.load (by rfl) ?_) (fun _ => hHeld) ?_
                rotate_left
                · intro w hSw
                  clear hSw
                  go_simp
                  try with_reducible rfl
                try simp only [Act.put, List.getElem_toArray, List.getElem_cons_succ, List.getElem_cons_zero, List.setIfInBounds_toArray, List.set_cons_zero, List.set_cons_succ]
                refine wpLate_pure (i := 15) (oi := _) (v := ?_) rfl (by kernel_rfl) (by kernel_rfl) (by kernel_rfl) (by kernel_rfl) (fun _ _ _ h => h) (Gives.load (by rfl) ?_) (fun _ => hHeld) ?_
                rotate_left
                · intro w hSw
                  clear hSw
                  go_simp
                  try with_reducible rfl
                try simp only [Act.put, List.getElem_toArray, List.getElem_cons_succ, List.getElem_cons_zero, List.setIfInBounds_toArray, List.set_cons_zero, List.set_cons_succ]
                refine wpLate_done (by kernel_rfl) ?_ _
                go_wp2
                go_ret
                rw [HTX.out]
                exact ⟨ret_str (by simp [propsB]), (HT5.out.f.trans fd (by simp)).trans (f7) (by simp)⟩
              exact AllLate.nil
            refine AllLate.cons (o := _) rfl (fun K hK => ?_) ?_
            · go_simp
              refine (rtext_pany v props _ (HC.out.v.old ((HT5.out.f.trans fd (by simp)).trans (f5) (by simp)) (by simp)) HC.out.vl HC.out.vo).mono ?_
              rintro _ x8 ⟨rfl, f⟩
              go_wp2_with fail
              have f8 := (f5).trans f (by simp)
              have hs8 := f.blk hs5 (by simp)
              clear f
              refine hK.out _ _ (fun _ => ⟨(f8).cell e1 (by simp), (f8).cell e2 (by simp)⟩) (fun hHeld => ?_)
              replace hHeld := hHeld (by kernel_rfl)
              clear hK K
              try simp only [Act.put, List.getElem_toArray, List.getElem_cons_succ, List.getElem_cons_zero, List.setIfInBounds_toArray, List.set_cons_zero, List.set_cons_succ]
              refine wpLate_ready (rs := [3]) (by kernel_rfl) (by simp) ?_
              refine AllLate.cons (o := _) rfl (fun K hK => ?_) ?_
              · have hcv := conv_byte hFl hs8
                go_simp
                refine hK.out _ _ (fun _ => hHeld) (fun hHeld => ?_)
                replace hHeld := hHeld (by kernel_rfl)
                clear hK K
                try simp only [Act.put, List.getElem_toArray, List.getElem_cons_succ, List.getElem_cons_zero, List.setIfInBounds_toArray, List.set_cons_zero, List.set_cons_succ]
                clear hcv
                refine wpLate_pure (i := 4) (oi := _) (v := ?_) rfl (by kernel_rfl) (by kernel_rfl) (by kernel_rfl) (by kernel_rfl) (fun _ _ _ h => h) (Gives.load (by rfl) ?_) (fun _ => hHeld) ?_
                rotate_left
                · intro w hSw
                  clear hSw
                  go_simp
                  try with_reducible rfl
                try simp only [Act.put, List.getElem_toArray, List.getElem_cons_succ, List.getElem_cons_zero, List.setIfInBounds_toArray, List.set_cons_zero, List.set_cons_succ]
                refine wpLate_pure (i := 8) (oi := _) (v := ?_) rfl (by kernel_rfl) (by kernel_rfl) (by kernel_rfl) (by kernel_rfl) (fun _ _ _ h => h) (Gives.load (by rfl) ?_) (fun _ => hHeld) ?_
                rotate_left
                · intro w hSw
                  clear hSw
                  go_simp
                  try with_reducible rfl
                try simp only [Act.put, List.getElem_toArray, List.getElem_cons_succ, List.getElem_cons_zero, List.setIfInBounds_toArray, List.set_cons_zero, List.set_cons_succ]
                refine wpLate_pure (i := 12) (oi := _) (v := ?_) rfl (by kernel_rfl) (by kernel_rfl) (by kernel_rfl) (by kernel_rfl) (fun _ _ _ h => h) (Gives.load (by rfl) ?_) (fun _ => hHeld) ?_
                rotate_left
                · intro w hSw
                  clear hSw
                  go_simp
                  try with_reducible rfl
                try simp only [Act.put, List.getElem_toArray, List.getElem_cons_succ, List.getElem_cons_zero, List.setIfInBounds_toArray, List.set_cons_zero, List.set_cons_succ]
                refine wpLate_pure (i := 14) (oi := _) (v := ?_) rfl (by kernel_rfl) (by kernel_rfl) (by kernel_rfl) (by kernel_rfl) (fun _ _ _ h => h) (Gives.load (by rfl) ?_) (fun _ => hHeld) ?_
                rotate_left
                · intro w hSw
                  clear hSw
                  go_simp
                  try with_reducible rfl
                try simp only [Act.put, List.getElem_toArray, List.getElem_cons_succ, List.getElem_cons_zero, List.setIfInBounds_toArray, List.set_cons_zero, List.set_cons_succ]
                refine wpLate_pure (i := 15) (oi := _) (v := ?_) rfl (by kernel_rfl) (by kernel_rfl) (by kernel_rfl) (by kernel_rfl) (fun _ _ _ h => h) (Gives.load (by rfl) ?_) (fun _ => hHeld) ?_
                rotate_left
                · intro w hSw
                  clear hSw
                  go_simp
                  try with_reducible rfl
                try simp only [Act.put, List.getElem_toArray, List.getElem_cons_succ, List.getElem_cons_zero, List.setIfInBounds_toArray, List.set_cons_zero, List.set_cons_succ]
                refine wpLate_done (by kernel_rfl) ?_ _
                go_wp2
                go_ret
                rw [HTX.out]
                exact ⟨ret_str (by simp [propsB]), (HT5.out.f.trans fd (by simp)).trans (f8) (by simp)⟩
              exact AllLate.nil
            exact AllLate.nil
          exact AllLate.nil
        refine AllLate.cons (o := _) rfl (fun K hK => ?_) ?_
        · go_simp
          refine (rtwo_any keep _ (by omega) (by omega)).mono ?_
          rintro _ x10 ⟨rfl, f⟩
          rw [Int.toNat_natCast]
          go_wp2_with fail
          have f10 := (Fr.refl [] wd).trans f (by simp)
          clear f
          refine hK.out _ _ (fun _ => ⟨(f10).cell e1 (by simp), (f10).cell e2 (by simp)⟩) (fun hHeld => ?_)
          replace hHeld := hHeld (by kernel_rfl)
          clear hK K
          try simp only [Act.put, List.getElem_toArray, List.getElem_cons_succ, List.getElem_cons_zero, List.setIfInBounds_toArray, List.set_cons_zero, List.set_cons_succ]
          refine wpLate_ready (rs := [2, 11]) (by kernel_rfl) (by simp) ?_
          refine AllLate.cons (o := _) rfl (fun K hK => ?_) ?_
          · go_simp
            have f11 := (f10).alloc (.cells #[.int .u8 (FL : Int)] 5)
            have hs11 := blk_new x10 (.cells #[.int .u8 (FL : Int)] 5)
            refine hK.out _ _ (fun _ => ⟨(f11).cell e1 (by simp), (f11).cell e2 (by simp)⟩) (fun hHeld => ?_)
            replace hHeld := hHeld (by kernel_rfl)
            clear hK K
            try simp only [Act.put, List.getElem_toArray, List.getElem_cons_succ, List.getElem_cons_zero, List.setIfInBounds_toArray, List.set_cons_zero, List.set_cons_succ]
            obtain ⟨B11, hB⟩ : ∃ B, x10.heap.size = B := ⟨_, rfl⟩
            obtain ⟨X11, hX⟩ : ∃ X, x10.alloc (.cells #[.int .u8 (FL : Int)] 5) = X := ⟨_, rfl⟩
            rw [hB] at hs11 ⊢
            rw [hX] at hHeld f11 hs11 ⊢
            clear hX hB
            refine wpLate_ready (rs := [3, 11]) (by kernel_rfl) (by simp) ?_
            refine AllLate.cons (o := _) rfl (fun K hK => ?_) ?_
            · have hcv := conv_byte hFl hs11
              go_simp
              refine hK.out _ _ (fun _ => hHeld) (fun hHeld => ?_)
              replace hHeld := hHeld (by kernel_rfl)
              clear hK K
              try simp only [Act.put, List.getElem_toArray, List.getElem_cons_succ, List.getElem_cons_zero, List.setIfInBounds_toArray, List.set_cons_zero, List.set_cons_succ]
              clear hcv
              refine wpLate_pure (i := 4) (oi := _) (v := ?_) rfl (by kernel_rfl) (by kernel_rfl) (by kernel_rfl) (by kernel_rfl) (fun _ _ _ h => h) (Gives.load (by rfl) ?_) (fun _ => hHeld) ?_
              rotate_left
              · intro w hSw
                clear hSw
                go_simp
                try with_reducible rfl
              try simp only [Act.put, List.getElem_toArray, List.getElem_cons_succ, List.getElem_cons_zero, List.setIfInBounds_toArray, List.set_cons_zero, List.set_cons_succ]
              refine wpLate_pure (i := 8) (oi := _) (v := ?_) rfl (by kernel_rfl) (by kernel_rfl) (by kernel_rfl) (by kernel_rfl) (fun _ _ _ h => h) (Gives.load (by rfl) ?_) (fun _ => hHeld) ?_
              rotate_left
              · intro w hSw
                clear hSw
                go_simp
                try with_reducible rfl
              try simp only [Act.put, List.getElem_toArray, List.getElem_cons_succ, List.getElem_cons_zero, List.setIfInBounds_toArray, List.set_cons_zero, List.set_cons_succ]
              refine wpLate_ready (rs := [11]) (by kernel_rfl) (by simp) ?_
              refine AllLate.cons (o := _) rfl (fun K hK => ?_) ?_
              · go_simp
                refine (rtext_pany v props _ (HC.out.v.old ((HT5.out.f.trans fd (by simp)).trans (f11) (by simp)) (by simp)) HC.out.vl HC.out.vo).mono ?_
                rintro _ x13 ⟨rfl, f⟩
                go_wp2_with fail
                have f13 := (f11).trans f (by simp)
                have hs13 := f.blk hs11 (by simp)
                clear f
                refine hK.out _ _ (fun _ => ⟨(f13).cell e1 (by simp), (f13).cell e2 (by simp)⟩) (fun hHeld => ?_)
                replace hHeld := hHeld (by kernel_rfl)
                clear hK K
                try simp only [Act.put, List.getElem_toArray, List.getElem_cons_succ, List.getElem_cons_zero, List.setIfInBounds_toArray, List.set_cons_zero, List.set_cons_succ]
                refine wpLate_pure (i := 12) (oi := _) (v := ?_) rfl (by kernel_rfl) (by kernel_rfl) (by kernel_rfl) (by kernel_rfl) (fun _ _ _ h => h) (Gives.load (by rfl) ?_) (fun _ => hHeld) ?_
                rotate_left
                · intro w hSw
                  clear hSw
                  go_simp
                  try with_reducible rfl
                try simp only [Act.put, List.getElem_toArray, List.getElem_cons_succ, List.getElem_cons_zero, List.setIfInBounds_toArray, List.set_cons_zero, List.set_cons_succ]
                refine wpLate_pure (i := 14) (oi := _) (v := ?_) rfl (by kernel_rfl) (by kernel_rfl) (by kernel_rfl) (by kernel_rfl) (fun _ _ _ h => h) (Gives.load (by rfl) ?_) (fun _ => hHeld) ?_
                rotate_left
                · intro w hSw
                  clear hSw
                  go_simp
                  try with_reducible rfl
                try simp only [Act.put, List.getElem_toArray, List.getElem_cons_succ, List.getElem_cons_zero, List.setIfInBounds_toArray, List.set_cons_zero, List.set_cons_succ]
                refine wpLate_pure (i := 15) (oi := _) (v := ?_) rfl (by kernel_rfl) (by kernel_rfl) (by kernel_rfl) (by kernel_rfl) (fun _ _ _ h => h) (Gives.load (by rfl) ?_) (fun _ => hHeld) ?_
                rotate_left
                · intro w hSw
                  clear hSw
                  go_simp
                  try with_reducible rfl
                try simp only [Act.put, List.getElem_toArray, List.getElem_cons_succ, List.getElem_cons_zero, List.setIfInBounds_toArray, List.set_cons_zero, List.set_cons_succ]
                refine wpLate_done (by kernel_rfl) ?_ _
                go_wp2
                go_ret
                rw [HTX.out]
                exact ⟨ret_str (by simp [propsB]), (HT5.out.f.trans fd (by simp)).trans (f13) (by simp)⟩
              exact AllLate.nil
            refine AllLate.cons (o := _) rfl (fun K hK => ?_) ?_
            · go_simp
              refine (rtext_pany v props _ (HC.out.v.old ((HT5.out.f.trans fd (by simp)).trans (f11) (by simp)) (by simp)) HC.out.vl HC.out.vo).mono ?_
              rintro _ x14 ⟨rfl, f⟩
              go_wp2_with fail
              have f14 := (f11).trans f (by simp)
              have hs14 := f.blk hs11 (by simp)
              clear f
              refine hK.out _ _ (fun _ => ⟨(f14).cell e1 (by simp), (f14).cell e2 (by simp)⟩) (fun hHeld => ?_)
              replace hHeld := hHeld (by kernel_rfl)
              clear hK K
              try simp only [Act.put, List.getElem_toArray, List.getElem_cons_succ, List.getElem_cons_zero, List.setIfInBounds_toArray, List.set_cons_zero, List.set_cons_succ]
              refine wpLate_ready (rs := [3]) (by kernel_rfl) (by simp) ?_
              refine AllLate.cons (o := _) rfl (fun K hK => ?_) ?_
              · have hcv := conv_byte hFl hs14
                go_simp
                refine hK.out _ _ (fun _ => hHeld) (fun hHeld => ?_)
                replace hHeld := hHeld (by kernel_rfl)
                clear hK K
                try simp only [Act.put, List.getElem_toArray, List.getElem_cons_succ, List.getElem_cons_zero, List.setIfInBounds_toArray, List.set_cons_zero, List.set_cons_succ]
                clear hcv
                refine wpLate_pure (i := 4) (oi := _) (v := ?_) rfl (by kernel_rfl) (by kernel_rfl) (by kernel_rfl) (by kernel_rfl) (fun _ _ _ h => h) (Gives.load (by rfl) ?_) (fun _ => hHeld) ?_
                rotate_left
                · intro w hSw
                  clear hSw
                  go_simp
                  try with_reducible rfl
                try simp only [Act.put, List.getElem_toArray, List.getElem_cons_succ, List.getElem_cons_zero, List.setIfInBounds_toArray, List.set_cons_zero, List.set_cons_succ]
                refine wpLate_pure (i := 8) (oi := _) (v := ?_) rfl (by kernel_rfl) (by kernel_rfl) (by kernel_rfl) (by kernel_rfl) (fun _ _ _ h => h) (Gives.load (by rfl) ?_) (fun _ => hHeld) ?_
                rotate_left
                · intro w hSw
                  clear hSw
                  go_simp
                  try with_reducible rfl
                try simp only [Act.put, List.getElem_toArray, List.getElem_cons_succ, List.getElem_cons_zero, List.setIfInBounds_toArray, List.set_cons_zero, List.set_cons_succ]
                refine wpLate_pure (i := 12) (oi := _) (v := ?_) rfl (by kernel_rfl) (by kernel_rfl) (by kernel_rfl) (by kernel_rfl) (fun _ _ _ h => h) (Gives.load (by rfl) ?_) (fun _ => hHeld) ?_
                rotate_left
                · intro w hSw
                  clear hSw
                  go_simp
                  try with_reducible rfl
                try simp only [Act.put, List.getElem_toArray, List.getElem_cons_succ, List.getElem_cons_zero, List.setIfInBounds_toArray, List.set_cons_zero, List.set_cons_succ]
                refine wpLate_pure (i := 14) (oi := _) (v := ?_) rfl (by kernel_rfl) (by kernel_rfl) (by kernel_rfl) (by kernel_rfl) (fun _ _ _ h => h) (Gives.load (by rfl) ?_) (fun _ => hHeld) ?_
                rotate_left
                · intro w hSw
                  clear hSw
                  go_simp
                  try with_reducible rfl
                try simp only [Act.put, List.getElem_toArray, List.getElem_cons_succ, List.getElem_cons_zero, List.setIfInBounds_toArray, List.set_cons_zero, List.set_cons_succ]
                refine wpLate_pure (i := 15) (oi := _) (v := ?_) rfl (by kernel_rfl) (by kernel_rfl) (by kernel_rfl) (by kernel_rfl) (fun _ _ _ h => h) (Gives.load (by rfl) ?_) (fun _ => hHeld) ?_
                rotate_left
                · intro w hSw
                  clear hSw
                  go_simp
                  try with_reducible rfl
                try simp only [Act.put, List.getElem_toArray, List.getElem_cons_succ, List.getElem_cons_zero, List.setIfInBounds_toArray, List.set_cons_zero, List.set_cons_succ]
                refine wpLate_done (by kernel_rfl) ?_ _
                go_wp2
                go_ret
                rw [HTX.out]
                exact ⟨ret_str (by simp [propsB]), (HT5.out.f.trans fd (by simp)).trans (f14) (by simp)⟩
              exact AllLate.nil
            exact AllLate.nil
          refine AllLate.cons (o := _) rfl (fun K hK => ?_) ?_
          · go_simp
            refine (rtext_pany v props _ (HC.out.v.old ((HT5.out.f.trans fd (by simp)).trans (f10) (by simp)) (by simp)) HC.out.vl HC.out.vo).mono ?_
            rintro _ x16 ⟨rfl, f⟩
            go_wp2_with fail
            have f16 := (f10).trans f (by simp)
            clear f
            refine hK.out _ _ (fun _ => ⟨(f16).cell e1 (by simp), (f16).cell e2 (by simp)⟩) (fun hHeld => ?_)
            replace hHeld := hHeld (by kernel_rfl)
            clear hK K
            try simp only [Act.put, List.getElem_toArray, List.getElem_cons_succ, List.getElem_cons_zero, List.setIfInBounds_toArray, List.set_cons_zero, List.set_cons_succ]
            refine wpLate_ready (rs := [2]) (by kernel_rfl) (by simp) ?_
            refine AllLate.cons (o := _) rfl (fun K hK => ?_) ?_
            · go_simp
              have f17 := (f16).alloc (.cells #[.int .u8 (FL : Int)] 5)
              have hs17 := blk_new x16 (.cells #[.int .u8 (FL : Int)] 5)
              refine hK.out _ _ (fun _ => ⟨(f17).cell e1 (by simp), (f17).cell e2 (by simp)⟩) (fun hHeld => ?_)
              replace hHeld := hHeld (by kernel_rfl)
              clear hK K
              try simp only [Act.put, List.getElem_toArray, List.getElem_cons_succ, List.getElem_cons_zero, List.setIfInBounds_toArray, List.set_cons_zero, List.set_cons_succ]
              obtain ⟨B17, hB⟩ : ∃ B, x16.heap.size = B := ⟨_, rfl⟩
              obtain ⟨X17, hX⟩ : ∃ X, x16.alloc (.cells #[.int .u8 (FL : Int)] 5) = X := ⟨_, rfl⟩
              rw [hB] at hs17 ⊢
              rw [hX] at hHeld f17 hs17 ⊢
              clear hX hB
              refine wpLate_ready (rs := [3]) (by kernel_rfl) (by simp) ?_
              refine AllLate.cons (o := _) rfl (fun K hK => ?_) ?_
              · have hcv := conv_byte hFl hs17
                go_simp
                refine hK.out _ _ (fun _ => hHeld) (fun hHeld => ?_)
                replace hHeld := hHeld (by kernel_rfl)
                clear hK K
                try simp only [Act.put, List.getElem_toArray, List.getElem_cons_succ, List.getElem_cons_zero, List.setIfInBounds_toArray, List.set_cons_zero, List.set_cons_succ]
                clear hcv
                refine wpLate_pure (i := 4) (oi := _) (v := ?_) rfl (by kernel_rfl) (by kernel_rfl) (by kernel_rfl) (by kernel_rfl) (fun _ _ _ h => h) (Gives.load (by rfl) ?_) (fun _ => hHeld) ?_
                rotate_left
                · intro w hSw
                  clear hSw
                  go_simp
                  try with_reducible rfl
                try simp only [Act.put, List.getElem_toArray, List.getElem_cons_succ, List.getElem_cons_zero, List.setIfInBounds_toArray, List.set_cons_zero, List.set_cons_succ]
                refine wpLate_pure (i := 8) (oi := _) (v := ?_) rfl (by kernel_rfl) (by kernel_rfl) (by kernel_rfl) (by kernel_rfl) (fun _ _ _ h => h) (Gives.load (by rfl) ?_) (fun _ => hHeld) ?_
                rotate_left
                · intro w hSw
                  clear hSw
                  go_simp
                  try with_reducible rfl
                try simp only [Act.put, List.getElem_toArray, List.getElem_cons_succ, List.getElem_cons_zero, List.setIfInBounds_toArray, List.set_cons_zero, List.set_cons_succ]
                refine wpLate_pure (i := 12) (oi := _) (v := ?_) rfl (by kernel_rfl) (by kernel_rfl) (by kernel_rfl) (by kernel_rfl) (fun _ _ _ h => h) (Gives.load (by rfl) ?_) (fun _ => hHeld) ?_
                rotate_left
                · intro w hSw
                  clear hSw
                  go_simp
                  try with_reducible rfl
                try simp only [Act.put, List.getElem_toArray, List.getElem_cons_succ, List.getElem_cons_zero, List.setIfInBounds_toArray, List.set_cons_zero, List.set_cons_succ]
                refine wpLate_pure (i := 14) (oi := _) (v := ?_) rfl (by kernel_rfl) (by kernel_rfl) (by kernel_rfl) (by kernel_rfl) (fun _ _ _ h => h) (Gives.load (by rfl) ?_) (fun _ => hHeld) ?_
                rotate_left
                · intro w hSw
                  clear hSw
                  go_simp
                  try with_reducible rfl
                try simp only [Act.put, List.getElem_toArray, List.getElem_cons_succ, List.getElem_cons_zero, List.setIfInBounds_toArray, List.set_cons_zero, List.set_cons_succ]
                refine wpLate_pure (i := 15) (oi := _) (v := ?_) rfl (by kernel_rfl) (by kernel_rfl) (by kernel_rfl) (by kernel_rfl) (fun _ _ _ h => h) (Gives.load (by rfl) ?_) (fun _ => hHeld) ?_
                rotate_left
                · intro w hSw
                  clear hSw
                  go_simp
                  try with_reducible rfl
                try simp only [Act.put, List.getElem_toArray, List.getElem_cons_succ, List.getElem_cons_zero, List.setIfInBounds_toArray, List.set_cons_zero, List.set_cons_succ]
                refine wpLate_done (by kernel_rfl) ?_ _
                go_wp2
                go_ret
                rw [HTX.out]
                exact ⟨ret_str (by simp [propsB]), (HT5.out.f.trans fd (by simp)).trans (f17) (by simp)⟩
              exact AllLate.nil
            exact AllLate.nil
          exact AllLate.nil
        exact AllLate.nil
set_option maxRecDepth 100000 in
set_option maxHeartbeats 4000000 in
theorem rcktext_any (a : Ck) (v : Value) (w : World) (hc : a.code < 256) (hv : View w v a.props.length (a.props.flatMap prE)) (hl : a.props.length ≤ 1000) (hok : ∀ x ∈ a.props, x.n < 4294967296 ∧ x.s.length ≤ 9223372036854775807 ∧ x.t.length ≤ 9223372036854775807) :
    Calls Try.prog 34 #[.agg (ckC a v).toArray] w fun e w' => e = .returned (.string ⟨(ckText a).toArray⟩) ∧ Fr [] w w' := by
  obtain ⟨p, c, l⟩ := a
  dsimp only at hc hv hl hok
  have HV := Lib.hid hv
  obtain ⟨PB, hPB⟩ : ∃ PB : Nat, bitN p 1 = PB := ⟨_, rfl⟩
  have hPl : PB < 256 := by rw [← hPB]; unfold bitN; split <;> decide
  have hwr : IntKind.u8.wrap (bitI p 1) = (PB : Int) := by rw [← hPB]; cases p <;> decide
  have HT : Hid (ckText ⟨p, c, l⟩ = [b8 PB, b8 c] ++ propsB l) := Lib.hid (by rw [← hPB]; rfl)
  have hb0 := blk_new w (.cells (ckC ⟨p, c, l⟩ v).toArray 69)
  have F0 : Fr [] w (w.alloc (.cells (ckC ⟨p, c, l⟩ v).toArray 69)) := (Fr.refl _ _).alloc _
  unfold ckC at hb0 F0 ⊢
  clear hPB
  have hlp := putsB_len l
  have hv4 := varB_len' (putsB l).length
  have n3 : ¬ 9223372036854775807 < 2 + ((var (putsB l).length).length + (putsB l).length) := by omega
  go_enter Try.func34, Try.ntmps34
  go_upto_region 1 with (fail)
  obtain ⟨y, hy⟩ : ∃ y, w.alloc (.cells #[.bool p, .int .u8 (c : Int), v] 69) = y := ⟨_, rfl⟩
  rw [hy] at hb0 F0 ⊢
  clear hy
  obtain ⟨⟨e0, e1, e2⟩, _, hcl⟩ := blk3_facts hb0
  refine wp_region_late [] (S := fun w' => w'.cell? ⟨w.heap.size, 0, none⟩ = some (.bool p) ∧ w'.cell? ⟨w.heap.size, 1, none⟩ = some (.int .u8 (c : Int)) ∧ w'.cell? ⟨w.heap.size, 2, none⟩ = some v) (by kernel_rfl) ⟨e0, e1, e2⟩ (fun hHeld => ?_)
  have fd := (Fr.refl [] y).drew
  obtain ⟨wd, hwd⟩ : ∃ wd, y.drew = wd := ⟨_, rfl⟩
  rw [hwd] at hHeld fd ⊢
  clear hwd e0 e1 e2
  have e0 := hHeld.1
  have e1 := hHeld.2.1
  have e2 := hHeld.2.2
  have HF := Lib.hid (F0.trans fd (by simp))
  refine wpLate_take (i := 0) (oi := _) (v := ?_) rfl (by kernel_rfl) (by kernel_rfl) (by kernel_rfl) (by kernel_rfl) (fun _ _ _ h => h) (Gives.load (by rfl) ?_) hHeld ?_
  rotate_left
  · intro w hSw
    (try dsimp only at hSw)
    go_simp
    try with_reducible rfl
  try simp only [Act.put, List.getElem_toArray, List.getElem_cons_succ, List.getElem_cons_zero, List.setIfInBounds_toArray, List.set_cons_zero, List.set_cons_succ]
  refine wpLate_take (i := 1) (oi := _) (v := ?_) rfl (by kernel_rfl) (by kernel_rfl) (by kernel_rfl) (by kernel_rfl) (fun _ _ _ h => h) (Gives.load (by rfl) ?_) hHeld ?_
  rotate_left
  · intro w hSw
    (try dsimp only at hSw)
    go_simp
    try with_reducible rfl
  try simp only [Act.put, List.getElem_toArray, List.getElem_cons_succ, List.getElem_cons_zero, List.setIfInBounds_toArray, List.set_cons_zero, List.set_cons_succ]
  refine wpLate_pure (i := 2) (oi := _) (v := .int .i64 (bitI p 1)) rfl (by kernel_rfl) (by kernel_rfl) (by kernel_rfl) (by kernel_rfl) (fun _ _ _ h => h) (Gives.quiet 71 #[.bool p, .int .i64 1] (by rfl) ?_ (fun w => rnum6_any p 1 w)) (fun _ => hHeld) ?_
  · intro w
    go_simp
  try simp only [Act.put, List.getElem_toArray, List.getElem_cons_succ, List.getElem_cons_zero, List.setIfInBounds_toArray, List.set_cons_zero, List.set_cons_succ]
  refine wpLate_take (i := 3) (oi := _) (v := ?_) rfl (by kernel_rfl) (by kernel_rfl) (by kernel_rfl) (by kernel_rfl) (fun _ _ _ h => h) (Gives.load (by rfl) ?_) hHeld ?_
  rotate_left
  · intro w hSw
    (try dsimp only at hSw)
    go_simp
    try with_reducible rfl
  try simp only [Act.put, List.getElem_toArray, List.getElem_cons_succ, List.getElem_cons_zero, List.setIfInBounds_toArray, List.set_cons_zero, List.set_cons_succ]
  try rw [hwr]
  refine wpLate_take (i := 4) (oi := _) (v := ?_) rfl (by kernel_rfl) (by kernel_rfl) (by kernel_rfl) (by kernel_rfl) (fun _ _ _ h => h) (Gives.load (by rfl) ?_) hHeld ?_
  rotate_left
  · intro w hSw
    (try dsimp only at hSw)
    go_simp
    try with_reducible rfl
  try simp only [Act.put, List.getElem_toArray, List.getElem_cons_succ, List.getElem_cons_zero, List.setIfInBounds_toArray, List.set_cons_zero, List.set_cons_succ]
  refine wpLate_take (i := 5) (oi := _) (v := ?_) rfl (by kernel_rfl) (by kernel_rfl) (by kernel_rfl) (by kernel_rfl) (fun _ _ _ h => h) (Gives.load (by rfl) ?_) hHeld ?_
  rotate_left
  · intro w hSw
    (try dsimp only at hSw)
    go_simp
    try with_reducible rfl
  try simp only [Act.put, List.getElem_toArray, List.getElem_cons_succ, List.getElem_cons_zero, List.setIfInBounds_toArray, List.set_cons_zero, List.set_cons_succ]
  refine wpLate_take (i := 8) (oi := _) (v := ?_) rfl (by kernel_rfl) (by kernel_rfl) (by kernel_rfl) (by kernel_rfl) (fun _ _ _ h => h) (Gives.load (by rfl) ?_) hHeld ?_
  rotate_left
  · intro w hSw
    (try dsimp only at hSw)
    go_simp
    try with_reducible rfl
  try simp only [Act.put, List.getElem_toArray, List.getElem_cons_succ, List.getElem_cons_zero, List.setIfInBounds_toArray, List.set_cons_zero, List.set_cons_succ]
  refine wpLate_take (i := 9) (oi := _) (v := ?_) rfl (by kernel_rfl) (by kernel_rfl) (by kernel_rfl) (by kernel_rfl) (fun _ _ _ h => h) (Gives.load (by rfl) ?_) hHeld ?_
  rotate_left
  · intro w hSw
    (try dsimp only at hSw)
    go_simp
    try with_reducible rfl
  try simp only [Act.put, List.getElem_toArray, List.getElem_cons_succ, List.getElem_cons_zero, List.setIfInBounds_toArray, List.set_cons_zero, List.set_cons_succ]
  refine wpLate_ready (rs := [6, 10]) (by kernel_rfl) (by simp) ?_
  refine AllLate.cons (o := _) rfl (fun K hK => ?_) ?_
  · go_simp
    have f19 := (Fr.refl [] wd).alloc (.cells #[.int .u8 (PB : Int), .int .u8 (c : Int)] 5)
    have hs19 := blk_new wd (.cells #[.int .u8 (PB : Int), .int .u8 (c : Int)] 5)
    refine hK.out _ _ (fun _ => ⟨(f19).cell e0 (by simp), (f19).cell e1 (by simp), (f19).cell e2 (by simp)⟩) (fun hHeld => ?_)
    replace hHeld := hHeld (by kernel_rfl)
    clear hK K
    try simp only [Act.put, List.getElem_toArray, List.getElem_cons_succ, List.getElem_cons_zero, List.setIfInBounds_toArray, List.set_cons_zero, List.set_cons_succ]
    obtain ⟨B19, hB⟩ : ∃ B, wd.heap.size = B := ⟨_, rfl⟩
    obtain ⟨X19, hX⟩ : ∃ X, wd.alloc (.cells #[.int .u8 (PB : Int), .int .u8 (c : Int)] 5) = X := ⟨_, rfl⟩
    rw [hB] at hs19 ⊢
    rw [hX] at hHeld f19 hs19 ⊢
    clear hX hB
    refine wpLate_ready (rs := [7, 10]) (by kernel_rfl) (by simp) ?_
    refine AllLate.cons (o := _) rfl (fun K hK => ?_) ?_
    · have hcv := conv_bytes [b8 PB, b8 c] (by simp) hs19 (by simp [bytesV, b8_toNat, Nat.mod_eq_of_lt hPl, Nat.mod_eq_of_lt hc]) 2 rfl
      go_simp
      refine hK.out _ _ (fun _ => hHeld) (fun hHeld => ?_)
      replace hHeld := hHeld (by kernel_rfl)
      clear hK K
      try simp only [Act.put, List.getElem_toArray, List.getElem_cons_succ, List.getElem_cons_zero, List.setIfInBounds_toArray, List.set_cons_zero, List.set_cons_succ]
      clear hcv
      refine wpLate_ready (rs := [10]) (by kernel_rfl) (by simp) ?_
      refine AllLate.cons (o := _) rfl (fun K hK => ?_) ?_
      · go_simp
        refine (rtext_pany v l _ (HV.out.old (HF.out.trans (f19) (by simp)) (by simp)) hl hok).mono ?_
        rintro _ x21 ⟨rfl, f⟩
        go_wp2_with fail
        have f21 := (f19).trans f (by simp)
        have hs21 := f.blk hs19 (by simp)
        clear f
        refine hK.out _ _ (fun _ => ⟨(f21).cell e0 (by simp), (f21).cell e1 (by simp), (f21).cell e2 (by simp)⟩) (fun hHeld => ?_)
        replace hHeld := hHeld (by kernel_rfl)
        clear hK K
        try simp only [Act.put, List.getElem_toArray, List.getElem_cons_succ, List.getElem_cons_zero, List.setIfInBounds_toArray, List.set_cons_zero, List.set_cons_succ]
        refine wpLate_pure (i := 11) (oi := _) (v := ?_) rfl (by kernel_rfl) (by kernel_rfl) (by kernel_rfl) (by kernel_rfl) (fun _ _ _ h => h) (Gives.load (by rfl) ?_) (fun _ => hHeld) ?_
        rotate_left
        · intro w hSw
          clear hSw
          go_simp
          try with_reducible rfl
        try simp only [Act.put, List.getElem_toArray, List.getElem_cons_succ, List.getElem_cons_zero, List.setIfInBounds_toArray, List.set_cons_zero, List.set_cons_succ]
        refine wpLate_pure (i := 12) (oi := _) (v := ?_) rfl (by kernel_rfl) (by kernel_rfl) (by kernel_rfl) (by kernel_rfl) (fun _ _ _ h => h) (Gives.load (by rfl) ?_) (fun _ => hHeld) ?_
        rotate_left
        · intro w hSw
          clear hSw
          go_simp
          try with_reducible rfl
        try simp only [Act.put, List.getElem_toArray, List.getElem_cons_succ, List.getElem_cons_zero, List.setIfInBounds_toArray, List.set_cons_zero, List.set_cons_succ]
        refine wpLate_done (by kernel_rfl) ?_ _
        go_wp2
        go_ret
        rw [HT.out]
        exact ⟨ret_str (by simp [propsB]), HF.out.trans (f21) (by simp)⟩
      exact AllLate.nil
    refine AllLate.cons (o := _) rfl (fun K hK => ?_) ?_
    · go_simp
      refine (rtext_pany v l _ (HV.out.old (HF.out.trans (f19) (by simp)) (by simp)) hl hok).mono ?_
      rintro _ x22 ⟨rfl, f⟩
      go_wp2_with fail
      have f22 := (f19).trans f (by simp)
      have hs22 := f.blk hs19 (by simp)
      clear f
      refine hK.out _ _ (fun _ => ⟨(f22).cell e0 (by simp), (f22).cell e1 (by simp), (f22).cell e2 (by simp)⟩) (fun hHeld => ?_)
      replace hHeld := hHeld (by kernel_rfl)
      clear hK K
      try simp only [Act.put, List.getElem_toArray, List.getElem_cons_succ, List.getElem_cons_zero, List.setIfInBounds_toArray, List.set_cons_zero, List.set_cons_succ]
      refine wpLate_ready (rs := [7]) (by kernel_rfl) (by simp) ?_
      refine AllLate.cons (o := _) rfl (fun K hK => ?_) ?_
      · have hcv := conv_bytes [b8 PB, b8 c] (by simp) hs22 (by simp [bytesV, b8_toNat, Nat.mod_eq_of_lt hPl, Nat.mod_eq_of_lt hc]) 2 rfl
        go_simp
        refine hK.out _ _ (fun _ => hHeld) (fun hHeld => ?_)
        replace hHeld := hHeld (by kernel_rfl)
        clear hK K
        try simp only [Act.put, List.getElem_toArray, List.getElem_cons_succ, List.getElem_cons_zero, List.setIfInBounds_toArray, List.set_cons_zero, List.set_cons_succ]
        clear hcv
        refine wpLate_pure (i := 11) (oi := _) (v := ?_) rfl (by kernel_rfl) (by kernel_rfl) (by kernel_rfl) (by kernel_rfl) (fun _ _ _ h => h) (Gives.load (by rfl) ?_) (fun _ => hHeld) ?_
        rotate_left
        · intro w hSw
          clear hSw
          go_simp
          try with_reducible rfl
        try simp only [Act.put, List.getElem_toArray, List.getElem_cons_succ, List.getElem_cons_zero, List.setIfInBounds_toArray, List.set_cons_zero, List.set_cons_succ]
        refine wpLate_pure (i := 12) (oi := _) (v := ?_) rfl (by kernel_rfl) (by kernel_rfl) (by kernel_rfl) (by kernel_rfl) (fun _ _ _ h => h) (Gives.load (by rfl) ?_) (fun _ => hHeld) ?_
        rotate_left
        · intro w hSw
          clear hSw
          go_simp
          try with_reducible rfl
        try simp only [Act.put, List.getElem_toArray, List.getElem_cons_succ, List.getElem_cons_zero, List.setIfInBounds_toArray, List.set_cons_zero, List.set_cons_succ]
        refine wpLate_done (by kernel_rfl) ?_ _
        go_wp2
        go_ret
        rw [HT.out]
        exact ⟨ret_str (by simp [propsB]), HF.out.trans (f22) (by simp)⟩
      exact AllLate.nil
    exact AllLate.nil
  refine AllLate.cons (o := _) rfl (fun K hK => ?_) ?_
  · go_simp
    refine (rtext_pany v l _ (HV.out.old (HF.out.trans (Fr.refl [] wd) (by simp)) (by simp)) hl hok).mono ?_
    rintro _ x24 ⟨rfl, f⟩
    go_wp2_with fail
    have f24 := (Fr.refl [] wd).trans f (by simp)
    clear f
    refine hK.out _ _ (fun _ => ⟨(f24).cell e0 (by simp), (f24).cell e1 (by simp), (f24).cell e2 (by simp)⟩) (fun hHeld => ?_)
    replace hHeld := hHeld (by kernel_rfl)
    clear hK K
    try simp only [Act.put, List.getElem_toArray, List.getElem_cons_succ, List.getElem_cons_zero, List.setIfInBounds_toArray, List.set_cons_zero, List.set_cons_succ]
    refine wpLate_ready (rs := [6]) (by kernel_rfl) (by simp) ?_
    refine AllLate.cons (o := _) rfl (fun K hK => ?_) ?_
    · go_simp
      have f25 := (f24).alloc (.cells #[.int .u8 (PB : Int), .int .u8 (c : Int)] 5)
      have hs25 := blk_new x24 (.cells #[.int .u8 (PB : Int), .int .u8 (c : Int)] 5)
      refine hK.out _ _ (fun _ => ⟨(f25).cell e0 (by simp), (f25).cell e1 (by simp), (f25).cell e2 (by simp)⟩) (fun hHeld => ?_)
      replace hHeld := hHeld (by kernel_rfl)
      clear hK K
      try simp only [Act.put, List.getElem_toArray, List.getElem_cons_succ, List.getElem_cons_zero, List.setIfInBounds_toArray, List.set_cons_zero, List.set_cons_succ]
      obtain ⟨B25, hB⟩ : ∃ B, x24.heap.size = B := ⟨_, rfl⟩
      obtain ⟨X25, hX⟩ : ∃ X, x24.alloc (.cells #[.int .u8 (PB : Int), .int .u8 (c : Int)] 5) = X := ⟨_, rfl⟩
      rw [hB] at hs25 ⊢
      rw [hX] at hHeld f25 hs25 ⊢
      clear hX hB
      refine wpLate_ready (rs := [7]) (by kernel_rfl) (by simp) ?_
      refine AllLate.cons (o := _) rfl (fun K hK => ?_) ?_
      · have hcv := conv_bytes [b8 PB, b8 c] (by simp) hs25 (by simp [bytesV, b8_toNat, Nat.mod_eq_of_lt hPl, Nat.mod_eq_of_lt hc]) 2 rfl
        go_simp
        refine hK.out _ _ (fun _ => hHeld) (fun hHeld => ?_)
        replace hHeld := hHeld (by kernel_rfl)
        clear hK K
        try simp only [Act.put, List.getElem_toArray, List.getElem_cons_succ, List.getElem_cons_zero, List.setIfInBounds_toArray, List.set_cons_zero, List.set_cons_succ]
        clear hcv
        refine wpLate_pure (i := 11) (oi := _) (v := ?_) rfl (by kernel_rfl) (by kernel_rfl) (by kernel_rfl) (by kernel_rfl) (fun _ _ _ h => h) (Gives.load (by rfl) ?_) (fun _ => hHeld) ?_
        rotate_left
        · intro w hSw
          clear hSw
          go_simp
          try with_reducible rfl
        try simp only [Act.put, List.getElem_toArray, List.getElem_cons_succ, List.getElem_cons_zero, List.setIfInBounds_toArray, List.set_cons_zero, List.set_cons_succ]
        refine wpLate_pure (i := 12) (oi := _) (v := ?_) rfl (by kernel_rfl) (by kernel_rfl) (by kernel_rfl) (by kernel_rfl) (fun _ _ _ h => h) (Gives.load (by rfl) ?_) (fun _ => hHeld) ?_
        rotate_left
        · intro w hSw
          clear hSw
          go_simp
          try with_reducible rfl
        try simp only [Act.put, List.getElem_toArray, List.getElem_cons_succ, List.getElem_cons_zero, List.setIfInBounds_toArray, List.set_cons_zero, List.set_cons_succ]
        refine wpLate_done (by kernel_rfl) ?_ _
        go_wp2
        go_ret
        rw [HT.out]
        exact ⟨ret_str (by simp [propsB]), HF.out.trans (f25) (by simp)⟩
      exact AllLate.nil
    exact AllLate.nil
  exact AllLate.nil
end Go.Proofs.Ytlhkgalmiajinaa
