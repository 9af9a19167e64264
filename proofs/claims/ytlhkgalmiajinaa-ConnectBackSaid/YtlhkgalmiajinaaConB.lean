/- What package connect writes: a connect's body; a connack's. Conditions: numbers within their kinds, strings that may be. -/
import Derived.Test.YtlhkgalmiajinaaConA
namespace Go.Proofs.Ytlhkgalmiajinaa
open Go.RowKit
set_option linter.unusedVariables false
set_option linter.unusedSimpArgs false

theorem TxS.facts {w y : World} {clean : Bool} {keep : Nat} {props : List Pr} {id : List UInt8} {hasWill : Bool} {wp : List Pr} {topic pay : List UInt8} {qos : Nat} {ret hasUser hasPass : Bool} {user pass : List UInt8} {v u : Value} {l : List UInt8} (h : TxS w ⟨clean, keep, props, id, hasWill, wp, topic, pay, qos, ret, hasUser, hasPass, user, pass⟩ v u y l) : (fun w' => w'.cell? ⟨w.heap.size, 0, none⟩ = some (.bool clean) ∧ w'.cell? ⟨w.heap.size, 1, none⟩ = some (.int .u32 (keep : Int)) ∧ w'.cell? ⟨w.heap.size, 2, none⟩ = some (v) ∧ w'.cell? ⟨w.heap.size, 3, none⟩ = some (.string ⟨id.toArray⟩) ∧ w'.cell? ⟨w.heap.size, 4, none⟩ = some (.bool hasWill) ∧ w'.cell? ⟨w.heap.size, 5, none⟩ = some (u) ∧ w'.cell? ⟨w.heap.size, 6, none⟩ = some (.string ⟨topic.toArray⟩) ∧ w'.cell? ⟨w.heap.size, 7, none⟩ = some (.string ⟨pay.toArray⟩) ∧ w'.cell? ⟨w.heap.size, 8, none⟩ = some (.int .u8 (qos : Int)) ∧ w'.cell? ⟨w.heap.size, 9, none⟩ = some (.bool ret) ∧ w'.cell? ⟨w.heap.size, 10, none⟩ = some (.bool hasUser) ∧ w'.cell? ⟨w.heap.size, 11, none⟩ = some (.bool hasPass) ∧ w'.cell? ⟨w.heap.size, 12, none⟩ = some (.string ⟨user.toArray⟩) ∧ w'.cell? ⟨w.heap.size, 13, none⟩ = some (.string ⟨pass.toArray⟩)) y := (blk14n_facts h.c).1
set_option maxRecDepth 100000 in
set_option maxHeartbeats 4000000 in
theorem cntext_any (c : Cn) (v u : Value) (w : World) (hc : CnOk w c v u) :
    Calls Try.prog 26 #[.agg (cnC c v u).toArray] w fun e w' => e = .returned (.string ⟨(cnText c).toArray⟩) ∧ Fr [] w w' := by
  obtain ⟨clean, keep, props, id, hasWill, wp, topic, pay, qos, ret, hasUser, hasPass, user, pass⟩ := c
  have hk := hc.k
  have hq := hc.q
  have HC := Lib.hid hc
  have HT : Hid (cnText ⟨clean, keep, props, id, hasWill, wp, topic, pay, qos, ret, hasUser, hasPass, user, pass⟩ = [0, 4, 77, 81, 84, 84, 5] ++ ([b8 (cnFlags ⟨clean, keep, props, id, hasWill, wp, topic, pay, qos, ret, hasUser, hasPass, user, pass⟩)] ++ (two keep ++ (propsB props ++ (dataB id ++ ((if hasWill = true then propsB wp ++ (dataB topic ++ dataB pay) else []) ++ ((if hasUser = true then dataB user else []) ++ (if hasPass = true then dataB pass else [])))))))) := Lib.hid rfl
  have T0 : TxS w ⟨clean, keep, props, id, hasWill, wp, topic, pay, qos, ret, hasUser, hasPass, user, pass⟩ v u ((w.alloc (.cells (cnC ⟨clean, keep, props, id, hasWill, wp, topic, pay, qos, ret, hasUser, hasPass, user, pass⟩ v u).toArray 48)).alloc (.cells #[.slice none 0 0] 101)) [] := by
    have hno := OutAt.new (w.alloc (.cells (cnC ⟨clean, keep, props, id, hasWill, wp, topic, pay, qos, ret, hasUser, hasPass, user, pass⟩ v u).toArray 48))
    rw [World.size_alloc] at hno
    exact ⟨⟨_, hno, Nat.le_refl _⟩, blk_old (blk_new w _) _, ((Fr.refl _ _).alloc _).alloc _⟩
  have hlp := putsB_len props
  have hlw := putsB_len wp
  have hv4 := varB_len' (putsB props).length
  have hw4 := varB_len' (putsB wp).length
  have hpl : (propsB props).length ≤ 131079000 := by rw [propsB, List.length_append]; have := hc.vl; dsimp only at this; omega
  have hwl : (propsB wp).length ≤ 131079000 := by rw [propsB, List.length_append]; have := hc.ul; dsimp only at this; omega
  have hil := dataB_len id
  have htl := dataB_len topic
  have hyl := dataB_len pay
  have hul := dataB_len user
  have hsl := dataB_len pass
  clear hlp hlw hv4 hw4 hc
  have hfl : ((cnFlags ⟨clean, keep, props, id, hasWill, wp, topic, pay, qos, ret, hasUser, hasPass, user, pass⟩ : Nat) : Int) < 256 := by
    show (((bitN clean 2 + bitN hasWill 4 + bitN hasPass 64 + bitN hasUser 128 + (if hasWill = true then qos % 4 * 8 + bitN ret 32 else 0) : Nat) : Nat) : Int) < 256
    have hm : qos % 4 < 4 := Nat.mod_lt _ (by decide)
    unfold bitN
    repeat' split
    all_goals omega
  unfold cnC at T0 ⊢
  have hmq : [] ++ dataB mqtt = [0, 4, 77, 81, 84, 84] := by kernel_rfl
  go_enter Try.func26, Try.ntmps26
  go_upto_region 2 with (fail)
  obtain ⟨y, hy⟩ : ∃ y, (w.alloc (.cells #[.bool clean, .int .u32 (keep : Int), v, .string ⟨id.toArray⟩, .bool hasWill, u, .string ⟨topic.toArray⟩, .string ⟨pay.toArray⟩, .int .u8 (qos : Int), .bool ret, .bool hasUser, .bool hasPass, .string ⟨user.toArray⟩, .string ⟨pass.toArray⟩] 48)).alloc (.cells #[.slice none 0 0] 101) = y := ⟨_, rfl⟩
  rw [hy] at T0 ⊢
  clear hy
  have HT0 : Hid (TxS w ⟨clean, keep, props, id, hasWill, wp, topic, pay, qos, ret, hasUser, hasPass, user, pass⟩ v u y.drew []) := Lib.hid (T0.still ((Fr.refl _ _).drew))
  obtain ⟨e0, e1, e2, e3, e4, e5, e6, e7, e8, e9, e10, e11, e12, e13⟩ := (T0.facts)
  clear T0
  go_region_held3 (fun w' => w'.cell? ⟨w.heap.size, 0, none⟩ = some (.bool clean) ∧ w'.cell? ⟨w.heap.size, 1, none⟩ = some (.int .u32 (keep : Int)) ∧ w'.cell? ⟨w.heap.size, 2, none⟩ = some (v) ∧ w'.cell? ⟨w.heap.size, 3, none⟩ = some (.string ⟨id.toArray⟩) ∧ w'.cell? ⟨w.heap.size, 4, none⟩ = some (.bool hasWill) ∧ w'.cell? ⟨w.heap.size, 5, none⟩ = some (u) ∧ w'.cell? ⟨w.heap.size, 6, none⟩ = some (.string ⟨topic.toArray⟩) ∧ w'.cell? ⟨w.heap.size, 7, none⟩ = some (.string ⟨pay.toArray⟩) ∧ w'.cell? ⟨w.heap.size, 8, none⟩ = some (.int .u8 (qos : Int)) ∧ w'.cell? ⟨w.heap.size, 9, none⟩ = some (.bool ret) ∧ w'.cell? ⟨w.heap.size, 10, none⟩ = some (.bool hasUser) ∧ w'.cell? ⟨w.heap.size, 11, none⟩ = some (.bool hasPass) ∧ w'.cell? ⟨w.heap.size, 12, none⟩ = some (.string ⟨user.toArray⟩) ∧ w'.cell? ⟨w.heap.size, 13, none⟩ = some (.string ⟨pass.toArray⟩)) (first | go_keep | exact kk) (first | (go_at_call 50; refine (HT0.out.data mqtt (by decide) (by simp)).mono ?_; rintro _ x1 ⟨rfl, h1⟩; rw [hmq] at h1; have HT0 := Lib.hid h1; have kk := h1.facts; clear h1) | (go_at_call 58; refine (HT0.out.byte _ (by first | decide | omega) (by first | decide | exact hfl) (by simp)).mono ?_; rintro _ x1 ⟨rfl, h1⟩; have HT0 := Lib.hid h1; have kk := h1.facts; clear h1) | (go_at_call 60; refine (HT0.out.flags hq).mono ?_; rintro _ x1 ⟨rfl, h1⟩; have HT0 := Lib.hid h1; have kk := h1.facts; clear h1) | (go_at_call 51; refine (HT0.out.two keep hk (by simp)).mono ?_; rintro _ x1 ⟨rfl, h1⟩; have HT0 := Lib.hid h1; have kk := h1.facts; clear h1))
  clear e0 e1 e2 e3 e4 e5 e6 e7 e8 e9 e10 e11 e12 e13
  obtain ⟨e0, e1, e2, e3, e4, e5, e6, e7, e8, e9, e10, e11, e12, e13⟩ := (kk)
  go_wp2_with fail
  refine (HT0.out.puts props v HC.out.v HC.out.vl HC.out.vo (by simp [two_len])).mono ?_
  rintro _ x2 ⟨rfl, h2⟩
  clear e0 e1 e2 e3 e4 e5 e6 e7 e8 e9 e10 e11 e12 e13
  obtain ⟨e0, e1, e2, e3, e4, e5, e6, e7, e8, e9, e10, e11, e12, e13⟩ := (h2.facts)
  go_wp2_with fail
  refine (h2.data id HC.out.id (by simp [two_len]; omega)).mono ?_
  rintro _ x3 ⟨rfl, h3⟩
  clear e0 e1 e2 e3 e4 e5 e6 e7 e8 e9 e10 e11 e12 e13
  obtain ⟨e0, e1, e2, e3, e4, e5, e6, e7, e8, e9, e10, e11, e12, e13⟩ := (h3.facts)
  clear h2
  generalize hL3 : _ ++ dataB id = L3 at h3
  have HL3 := Lib.hid hL3
  have hl3 : L3.length ≤ 131200000 := by rw [← hL3]; simp [two_len]; omega
  have H3 := Lib.hid h3
  clear hL3 h3
  go_upto_if 19 with (fail)
  go_cut [] (fun wx => TxS w ⟨clean, keep, props, id, hasWill, wp, topic, pay, qos, ret, hasUser, hasPass, user, pass⟩ v u wx (L3 ++ if hasWill = true then propsB wp ++ (dataB topic ++ dataB pay) else []))
  case first =>
    cases hasWill
    · go_wp2
      go_meet
      simpa using H3.out
    · go_wp2_with fail
      refine (H3.out.puts wp u HC.out.u HC.out.ul HC.out.uo (by omega)).mono ?_
      rintro _ x4 ⟨rfl, h4⟩
      clear e0 e1 e2 e3 e4 e5 e6 e7 e8 e9 e10 e11 e12 e13
      obtain ⟨e0, e1, e2, e3, e4, e5, e6, e7, e8, e9, e10, e11, e12, e13⟩ := (h4.facts)
      have HT1 := Lib.hid (show TxS w ⟨clean, keep, props, id, true, wp, topic, pay, qos, ret, hasUser, hasPass, user, pass⟩ v u x4.drew (L3 ++ propsB wp) from h4.still ((Fr.refl _ _).drew))
      clear h4 H3
      go_upto_region 7 with (fail)
      go_region_held3 (fun w' => w'.cell? ⟨w.heap.size, 0, none⟩ = some (.bool clean) ∧ w'.cell? ⟨w.heap.size, 1, none⟩ = some (.int .u32 (keep : Int)) ∧ w'.cell? ⟨w.heap.size, 2, none⟩ = some (v) ∧ w'.cell? ⟨w.heap.size, 3, none⟩ = some (.string ⟨id.toArray⟩) ∧ w'.cell? ⟨w.heap.size, 4, none⟩ = some (.bool true) ∧ w'.cell? ⟨w.heap.size, 5, none⟩ = some (u) ∧ w'.cell? ⟨w.heap.size, 6, none⟩ = some (.string ⟨topic.toArray⟩) ∧ w'.cell? ⟨w.heap.size, 7, none⟩ = some (.string ⟨pay.toArray⟩) ∧ w'.cell? ⟨w.heap.size, 8, none⟩ = some (.int .u8 (qos : Int)) ∧ w'.cell? ⟨w.heap.size, 9, none⟩ = some (.bool ret) ∧ w'.cell? ⟨w.heap.size, 10, none⟩ = some (.bool hasUser) ∧ w'.cell? ⟨w.heap.size, 11, none⟩ = some (.bool hasPass) ∧ w'.cell? ⟨w.heap.size, 12, none⟩ = some (.string ⟨user.toArray⟩) ∧ w'.cell? ⟨w.heap.size, 13, none⟩ = some (.string ⟨pass.toArray⟩)) (first | go_keep | exact kk) (first | (go_at_call 50; (with_reducible refine (HT1.out.data topic HC.out.topic (by simp; omega)).mono ?_); rintro _ x1 ⟨rfl, h1⟩; have HT2 := Lib.hid h1; have kk := h1.facts; clear h1) | (go_at_call 50; refine (HT2.out.data pay HC.out.pay (by simp; omega)).mono ?_; rintro _ x1 ⟨rfl, h1⟩; have HT3 := Lib.hid h1; have kk := h1.facts; clear h1))
      go_wp2_with fail
      go_meet
      have := HT3.out
      simpa using this
  case rest =>
    have hlw3 : (L3 ++ if hasWill = true then propsB wp ++ (dataB topic ++ dataB pay) else []).length ≤ 262500000 := by
      rw [List.length_append]
      split
      · simp only [List.length_append]; omega
      · simp; omega
    generalize hL4 : (L3 ++ if hasWill = true then propsB wp ++ (dataB topic ++ dataB pay) else []) = L4 at *
    have HL4 := Lib.hid hL4
    have H4 := Lib.hid hcut
    clear hL4 H3
    clear e0 e1 e2 e3 e4 e5 e6 e7 e8 e9 e10 e11 e12 e13
    obtain ⟨e0, e1, e2, e3, e4, e5, e6, e7, e8, e9, e10, e11, e12, e13⟩ := (hcut.facts)
    clear hcut
    go_upto_if 33 with (fail)
    go_cut [] (fun wx => TxS w ⟨clean, keep, props, id, hasWill, wp, topic, pay, qos, ret, hasUser, hasPass, user, pass⟩ v u wx (L4 ++ if hasUser = true then dataB user else []))
    case first =>
      cases hasUser
      · go_wp2
        go_meet
        simpa using H4.out
      · go_wp2_with fail
        refine (H4.out.data user HC.out.user (by omega)).mono ?_
        rintro _ x4 ⟨rfl, h4⟩
        go_wp2_with fail
        go_meet
        exact h4
    case rest =>
      have hlw4 : (L4 ++ if hasUser = true then dataB user else []).length ≤ 262600000 := by
        rw [List.length_append]
        split
        · omega
        · simp; omega
      generalize hL5 : (L4 ++ if hasUser = true then dataB user else []) = L5 at *
      have HL5 := Lib.hid hL5
      have H5 := Lib.hid hcut
      clear hL5 H4
      clear e0 e1 e2 e3 e4 e5 e6 e7 e8 e9 e10 e11 e12 e13
      obtain ⟨e0, e1, e2, e3, e4, e5, e6, e7, e8, e9, e10, e11, e12, e13⟩ := (hcut.facts)
      clear hcut
      go_upto_if 38 with (fail)
      go_cut [] (fun wx => TxS w ⟨clean, keep, props, id, hasWill, wp, topic, pay, qos, ret, hasUser, hasPass, user, pass⟩ v u wx (L5 ++ if hasPass = true then dataB pass else []))
      case first =>
        cases hasPass
        · go_wp2
          go_meet
          simpa using H5.out
        · go_wp2_with fail
          refine (H5.out.data pass HC.out.pass (by omega)).mono ?_
          rintro _ x4 ⟨rfl, h4⟩
          go_wp2_with fail
          go_meet
          exact h4
      case rest =>
        generalize hL6 : (L5 ++ if hasPass = true then dataB pass else []) = L6 at *
        have HL6 := Lib.hid hL6
        clear hL6
        obtain ⟨⟨o, ho, _⟩, _, hff⟩ := hcut
        clear e0 e1 e2 e3 e4 e5 e6 e7 e8 e9 e10 e11 e12 e13
        go_wp2_with fail
        refine (outtext_any _ _ _ _ ho).mono ?_
        rintro _ _ ⟨rfl, rfl⟩
        go_wp2
        go_ret
        rw [HT.out, ← HL6.out, ← HL5.out, ← HL4.out, ← HL3.out]
        exact ⟨ret_str (by simp [show b8 5 = 5 from rfl]), hff⟩
set_option maxRecDepth 100000 in
set_option maxHeartbeats 4000000 in
theorem cktext_any (a : Ck) (v : Value) (w : World) (hc : a.code < 256) (hv : View w v a.props.length (a.props.flatMap prE)) (hl : a.props.length ≤ 1000) (hok : ∀ x ∈ a.props, x.n < 4294967296 ∧ x.s.length ≤ 9223372036854775807 ∧ x.t.length ≤ 9223372036854775807) :
    Calls Try.prog 33 #[.agg (ckC a v).toArray] w fun e w' => e = .returned (.string ⟨(ckText a).toArray⟩) ∧ Fr [] w w' := by
  obtain ⟨p, c, l⟩ := a
  dsimp only at hc hv hl hok
  have HV := Lib.hid hv
  have HT : Hid (ckText ⟨p, c, l⟩ = [b8 (bitN p 1), b8 c] ++ propsB l) := Lib.hid rfl
  have hno := OutAt.new (w.alloc (.cells (ckC ⟨p, c, l⟩ v).toArray 64))
  have hb0 := blk_old (blk_new w (.cells (ckC ⟨p, c, l⟩ v).toArray 64)) (.cells #[.slice none 0 0] 101)
  have F0 : Fr [] w ((w.alloc (.cells (ckC ⟨p, c, l⟩ v).toArray 64)).alloc (.cells #[.slice none 0 0] 101)) := ((Fr.refl _ _).alloc _).alloc _
  unfold ckC at hno hb0 F0 ⊢
  rw [World.size_alloc] at hno
  go_enter Try.func33, Try.ntmps33
  go_upto_region 2 with (fail)
  obtain ⟨y, hy⟩ : ∃ y, (w.alloc (.cells #[.bool p, .int .u8 (c : Int), v] 64)).alloc (.cells #[.slice none 0 0] 101) = y := ⟨_, rfl⟩
  rw [hy] at hno hb0 F0 ⊢
  clear hy
  obtain ⟨⟨e0, e1, e2⟩, _, hsz⟩ := blk3_facts hb0
  have HO : Hid (∃ o, OutAt y.drew (w.heap.size + 1) o [] ∧ w.heap.size + 1 ≤ o) := Lib.hid ⟨_, hno, Nat.le_refl _⟩
  have HB : Hid (y.drew.heap[w.heap.size]? = some (.cells #[.bool p, .int .u8 (c : Int), v] 64 (0, 0))) := Lib.hid hb0
  have HF : Hid (Fr [] w y.drew) := Lib.hid F0.drew
  clear hno hb0 F0
  have hbi : ∀ b : Bool, 0 ≤ bitI b 1 ∧ bitI b 1 < 256 ∧ (bitI b 1).toNat = bitN b 1 := by decide
  have HI := Lib.hid (hbi p)
  clear hbi
  go_region_held3 (fun w' => w'.cell? ⟨w.heap.size, 0, none⟩ = some (.bool p) ∧ w'.cell? ⟨w.heap.size, 1, none⟩ = some (.int .u8 (c : Int)) ∧ w'.cell? ⟨w.heap.size, 2, none⟩ = some v) (first | go_keep | exact kk) (first | (go_at_call 72; refine (bit_any _ _ _).mono ?_; rintro _ x0 ⟨rfl, h0⟩; rw [h0] at HO HB HF; have kk := (blk3_facts HB.out).1; clear h0) | (go_at_call 58; obtain ⟨o, ho, hbo⟩ := HO.out; (with_reducible refine (outbyte_any _ o [] (bitI p 1) _ ho HI.out.1 HI.out.2.1 (by decide)).mono ?_); rintro _ x1 ⟨rfl, o1, h1, ho1, g1⟩; have hz0 := blk_lt HB.out; have HF := Lib.hid (HF.out.trans g1 (by intro x hx e; simp at e; omega)); have HB := Lib.hid (g1.blk HB.out (by simp; omega)); have hbo1 : w.heap.size + 1 ≤ o1 := (by omega); have kk := (blk3_facts HB.out).1) | (go_at_call 58; refine (outbyte_any _ _ _ c _ h1 (by omega) (by omega) (by simp)).mono ?_; rintro _ x1 ⟨rfl, o1, h1, ho1, g1⟩; have hz0 := blk_lt HB.out; have HF := Lib.hid (HF.out.trans g1 (by intro x hx e; simp at e; omega)); have HB := Lib.hid (g1.blk HB.out (by simp; omega)); have hbo1 : w.heap.size + 1 ≤ o1 := (by omega); have kk := (blk3_facts HB.out).1))
  clear e0 e1 e2
  obtain ⟨e0, e1, e2⟩ := kk
  go_wp2_with fail
  refine (puts_any _ _ _ v l _ h1 (HV.out.old HF.out (by simp)) hl hok (by simp)).mono ?_
  rintro _ x5 ⟨rfl, o5, h5, ho5, g5⟩
  go_wp2_with fail
  refine (outtext_any _ _ _ _ h5).mono ?_
  rintro _ _ ⟨rfl, rfl⟩
  go_wp2
  go_ret
  rw [HT.out]
  exact ⟨ret_str (by simp [propsB, HI.out.2.2]), HF.out.trans g5 (by intro x hx e; simp at e; omega)⟩
end Go.Proofs.Ytlhkgalmiajinaa
