/- What right of the law package of layer 3 comes to. Conditions: strings that may be. -/
import Derived.Test.YtlnlolhihodgoaaPropR
import Derived.Test.YtlnlolhihodgoaaPropPuts
namespace Go.Proofs.Ytlnlolhihodgoaa
open Go.RowKit

/-- What holds at the head of the loop of right: the row made so far, the row read. -/
structure RInv (t : TypeId) (w wr : World) (vL v : Value) (L R : List Pr) : Prop where
  own : wr.ownsRow w.heap.size t 4 v R.length (R.flatMap prE)
  src : wr.ownsRow w.heap.size t 4 vL L.length (L.flatMap prE)
  ne : vL.ownBlock = none ∨ vL.ownBlock ≠ v.ownBlock
  fr : Fr [] w wr
theorem RInv.go {t : TypeId} {w wr w2 : World} {vL v : Value} {L R : List Pr} (h : RInv t w wr vL v L R) (g : Fr [] wr w2) : RInv t w w2 vL v L R :=
  ⟨own_fr g h.own (by simp), own_fr g h.src (by simp), h.ne, h.fr.trans g (by simp)⟩
theorem RInv.app {t : TypeId} {w wr w2 : World} {vL v v' : Value} {L R : List Pr} (h : RInv t w wr vL v L R) (x : Pr) (ho : w2.ownsRow w.heap.size t 4 v' (R.length + 1) (R.flatMap prE ++ prE x)) (hg : wr.grownBy w2 v.ownBlock) (hf : Fresh wr v v') : RInv t w w2 vL v' L (R ++ [x]) := by
  refine ⟨by rw [flat_snoc, List.length_append]; exact ho, grown_own hg h.src h.ne, ?_, h.fr.app h.own (Nat.le_refl _) hg⟩
  rcases h.ne with hn | hn
  · exact Or.inl hn
  · rcases hf with hf | ⟨g, hf, hl⟩
    · rw [hf]; exact Or.inr hn
    · rw [hf]
      cases hv : vL.ownBlock with
      | none => exact Or.inl rfl
      | some k => right; have := (h.src.lt k hv).2; simp; omega
theorem right_cells (xi : Int) (xn : Nat) (xs xt : List UInt8) (K : Int) (hK : (ruleOf xi).kind = K) (N : Int) (S T : List UInt8) (hN : (rightN K xn : Int) = N) (hS : rightS K xs = S) (hT : rightT K xt = T) : prE (rightP ⟨xi, xn, xs, xt⟩) = [.int .i64 xi, .int .u32 N, .string ⟨S.toArray⟩, .string ⟨T.toArray⟩] := by
  unfold rightP prE
  dsimp only
  rw [hK, hN, hS, hT]
set_option maxRecDepth 100000 in
set_option maxHeartbeats 4000000 in
theorem right_any (v : Value) (l : List Pr) (kind : Int) (isWill : Bool) (w : World) (hv : View w v l.length (l.flatMap prE)) (hl : l.length ≤ 9223372036854775807) (hok : ∀ x ∈ l, x.n < 4294967296 ∧ x.s.length ≤ 9223372036854775807 ∧ x.t.length ≤ 9223372036854775807) :
    Calls Try.prog 35 #[v, .int .i64 kind, .bool isWill] w (ToldTo 68 (rightGo kind isWill (fewR l)) w) := by
  obtain ⟨i0, hi, hz0, hz1, hz2⟩ := info_parts Try.infoPr
  obtain ⟨hl8, hok8⟩ := fewR_ok l hok
  have HO8 := Lib.hid hok8
  have hok2 : ∀ x ∈ l, x.s.length ≤ 9223372036854775807 ∧ x.t.length ≤ 9223372036854775807 := fun x hx => (hok x hx).2
  have HO2 := Lib.hid hok2
  have ho := own_emp w 68 4 w.heap.size (Nat.le_refl _)
  have hf0 : Fr [] w (w.alloc (.cells #[] 68)) := (Fr.refl _ _).alloc _
  have HV := Lib.hid (hv.fr hf0 (by simp))
  clear hv hok hok2 hok8
  go_enter Try.func35, Try.ntmps35
  go_wp2_with fail
  refine (few_any v l _ HV.out hl HO2.out).mono ?_
  rintro _ w1 ⟨vL, rfl, ownL, g1⟩
  have HI : Hid (RInv 68 w w1 vL (.slice (some ⟨w.heap.size, 0, none⟩) 0 0) (fewR l) []) := Lib.hid ⟨own_fr g1 ho (by simp), own_base ownL (fun k hk => by have := (ownL.lt k hk).1; simp at this; omega), by
    cases hk : vL.ownBlock with
    | none => exact Or.inl rfl
    | some k => right; have := (ownL.lt k hk).1; simp [Value.ownBlock] at this ⊢; omega, hf0.trans g1 (by simp)⟩
  have hR0 : rightGo kind isWill ((fewR l).take 0) = [] := rfl
  rw [← hR0] at HI
  have HSn := Lib.hid (rightGo_snoc kind isWill (fewR l))
  obtain ⟨AL, cL, rfl⟩ := own_shape ownL
  clear ho hf0 HV HO2 ownL g1 hR0
  generalize fewR l = L at *
  go_wp2
  go_loopw [7, 17] (fun v i wr => ∃ k : Nat, i = .int .i64 k ∧ k ≤ L.length ∧ Hid (RInv 68 w wr (.slice AL L.length cL) v L (rightGo kind isWill (L.take k)))) (fun _ i _ => L.length - (intOf i).toNat)
  case atStart => exact ⟨0, rfl, by omega, HI⟩
  case round =>
    clear HI
    obtain ⟨k, rfl, hk, HI⟩ := hrel
    obtain ⟨A', cp', rfl⟩ := own_shape HI.out.own
    by_cases hlt : k < L.length
    · obtain ⟨bb, off, c', hsl, hbb, hc⟩ := (own_view HI.out.src).at prE_len (by decide) (by omega)
      cases hsl
      have hcell := hc k hlt
      have hsn := Lib.hid (HSn.out k hlt)
      have hx8 := Lib.hid (HO8.out L[k] (List.getElem_mem hlt))
      have HRl : Hid ((rightGo kind isWill (L.take k)).length ≤ 8) := Lib.hid (by have := rightGo_len kind isWill (L.take k); have := List.length_take_le' k L; omega)
      generalize hR : rightGo kind isWill (L.take k) = R at *
      generalize L[k] = x at *
      obtain ⟨xi, xn, xs, xt⟩ := x
      have c0 : wr.cell? ⟨bb, off + k * 4, none⟩ = some (.int .i64 xi) := hcell 0 _ rfl
      have c1 : wr.cell? ⟨bb, off + k * 4 + 1, none⟩ = some (.int .u32 xn) := hcell 1 _ rfl
      have c2 : wr.cell? ⟨bb, off + k * 4 + 2, none⟩ = some (.string ⟨xs.toArray⟩) := hcell 2 _ rfl
      have c3 : wr.cell? ⟨bb, off + k * 4 + 3, none⟩ = some (.string ⟨xt.toArray⟩) := hcell 3 _ rfl
      have hbP := Lib.hid (blk_new wr (.cells #[.int .i64 xi, .int .u32 xn, .string ⟨xs.toArray⟩, .string ⟨xt.toArray⟩] 68))
      have HI1 := Lib.hid (HI.out.go ((Fr.refl [] wr).alloc (.cells #[.int .i64 xi, .int .u32 xn, .string ⟨xs.toArray⟩, .string ⟨xt.toArray⟩] 68)))
      clear hcell hc hR
      go_wp2_with fail
      refine (rmay_any _ _ _ _).mono ?_
      rintro _ _ ⟨rfl, rfl⟩
      rw [(may_eq xi kind isWill).1]
      cases hm : mayB xi kind isWill
      · have HS : Hid (rightGo kind isWill (L.take (k + 1)) = R) := Lib.hid (by rw [hsn.out, if_neg (by simp [keepB, hm])])
        go_wp2
        go_roundw
        case rel => exact ⟨k + 1, by go_num, by omega, by rw [HS.out]; exact HI1⟩
        case measure => simp [intOf]; omega
      · have hk1 := may_kind xi kind isWill hm
        have hrl : R.length ≤ 8 := HRl.out
        go_wp2_with fail
        refine (get_any _ R xi _ (own_view HI1.out.own) (by omega)).mono ?_
        rintro _ w2 ⟨rfl, g2⟩
        obtain ⟨⟨⟨Gi, Gn, Gs, Gt⟩, gb⟩, hG⟩ : ∃ x, getR R xi = x := ⟨_, rfl⟩
        have HKp : Hid (keepB kind isWill R ⟨xi, xn, xs, xt⟩ = !(gb && decide (xi ≠ 38))) := Lib.hid (by rw [keepB]; dsimp only; rw [hm, hG]; rfl)
        rw [hG]
        dsimp only
        have hP2 := g2.blk hbP.out (by simp)
        obtain ⟨⟨p0, p1, p2, p3⟩, ⟨q0, q1, q2, q3⟩, hpl⟩ := blk4_facts hP2
        have HI2 := Lib.hid ((HI1.out.go g2).go ((Fr.refl [] w2).alloc (.cells #[.int .i64 Gi, .int .u32 Gn, .string ⟨Gs.toArray⟩, .string ⟨Gt.toArray⟩] 68)))
        clear hG g2 hP2 HI HI1 c0 c1 c2 c3
        cases gb
        · have HS : Hid (rightGo kind isWill (L.take (k + 1)) = R ++ [rightP ⟨xi, xn, xs, xt⟩]) := Lib.hid (by rw [hsn.out, if_pos (by rw [HKp.out]; rfl)])
          go_wp2_with fail
          refine (rkind_any _ _).mono ?_
          rintro _ _ ⟨rfl, rfl⟩
          have hk7 : (ruleOf xi).kind = 1 ∨ (ruleOf xi).kind = 2 ∨ (ruleOf xi).kind = 3 ∨ (ruleOf xi).kind = 4 ∨ (ruleOf xi).kind = 5 ∨ (ruleOf xi).kind = 6 ∨ (ruleOf xi).kind = 7 := by have := (ruleOf_cases xi).2.2.1; omega
          rcases hk7 with hK | hK | hK | hK | hK | hK | hK
          all_goals rw [hK]
          · skip
            have HE := Lib.hid (right_cells xi xn xs xt _ hK (bits .and .u32 (xn : Int) 1) ([] : List UInt8) ([] : List UInt8) (by first | rfl | (rw [and_u32 1 _ 1 (by decide) (by decide) (by omega) (by have := hx8.out.1; omega)]; simp [rightN]) | (simp [rightN]; done)) (by first | rfl | simp [rightS]) (by first | rfl | simp [rightT]))
            try (go_wp2_with fail; refine (letters_any xs (by have := hx8.out; omega) _).mono ?_; rintro _ _ ⟨rfl, rfl⟩)
            go_wp2_with fail
            refine (rkind_any _ _).mono ?_
            rintro _ _ ⟨rfl, rfl⟩
            rw [hK]
            try (go_wp2_with fail; refine (letters_any xt (by have := hx8.out; omega) _).mono ?_; rintro _ _ ⟨rfl, rfl⟩)
            have HI3 := Lib.hid ((HI2.out.go ((Fr.refl [] _).alloc (.cells #[.int .i64 xi, .int .u32 ((bits .and .u32 (xn : Int) 1)), .string ⟨(([] : List UInt8)).toArray⟩, .string ⟨(([] : List UInt8)).toArray⟩] 68))).go ((Fr.refl [] _).alloc (.cells #[.int .i64 xi, .int .u32 ((bits .and .u32 (xn : Int) 1)), .string ⟨(([] : List UInt8)).toArray⟩, .string ⟨(([] : List UInt8)).toArray⟩] 68)))
            go_wp2_with (at_builtin; refine wpl_app _ rfl (.tmp 84) (.tmp 86) 56 rfl w.heap.size 68 i0 (.agg #[.int .i64 0, .int .u32 0, .string ⟨#[]⟩, .string ⟨#[]⟩]) 4 48 Try.underlying56 hi hz0 hz1 hz2 rfl (by decide) _ R.length (R.flatMap prE) rfl HI3.out.own ⟨w2.heap.size + 2, 0, none⟩ 1 1 [.int .i64 xi, .int .u32 ((bits .and .u32 (xn : Int) 1)), .string ⟨(([] : List UInt8)).toArray⟩, .string ⟨(([] : List UInt8)).toArray⟩] rfl rfl ?c1 ?c2 ?c3 ?c4 ?c5 ?_)
            try (case c1 => exact news_at _ _ (by simp) _ _)
            try (case c2 => first | exact ⟨rfl, rfl, rfl, rfl⟩ | (intro u hu; simp at hu; rcases hu with rfl | rfl | rfl | rfl <;> rfl))
            try (case c3 => unfold maxLen; omega)
            try (case c4 => omega)
            try (case c5 => have := HI3.out.fr.size; exact this)
            intro v' w3 hown3 hg hfr
            have HI4 := Lib.hid (HI3.out.app _ (by rw [HE.out]; exact hown3) hg hfr)
            obtain ⟨A4, cp4, rfl⟩ := own_shape hown3
            clear hown3 hg hfr
            go_wp2
            go_roundw
            case rel => exact ⟨k + 1, by go_num, by omega, by rw [HS.out]; exact HI4⟩
            case measure => simp [intOf]; omega
          · skip
            have HE := Lib.hid (right_cells xi xn xs xt _ hK (1 + (xn : Int) % 65535) ([] : List UInt8) ([] : List UInt8) (by first | rfl | (rw [and_u32 1 _ 1 (by decide) (by decide) (by omega) (by have := hx8.out.1; omega)]; simp [rightN]) | (simp [rightN]; done)) (by first | rfl | simp [rightS]) (by first | rfl | simp [rightT]))
            try (go_wp2_with fail; refine (letters_any xs (by have := hx8.out; omega) _).mono ?_; rintro _ _ ⟨rfl, rfl⟩)
            go_wp2_with fail
            refine (rkind_any _ _).mono ?_
            rintro _ _ ⟨rfl, rfl⟩
            rw [hK]
            try (go_wp2_with fail; refine (letters_any xt (by have := hx8.out; omega) _).mono ?_; rintro _ _ ⟨rfl, rfl⟩)
            have HI3 := Lib.hid ((HI2.out.go ((Fr.refl [] _).alloc (.cells #[.int .i64 xi, .int .u32 ((1 + (xn : Int) % 65535)), .string ⟨(([] : List UInt8)).toArray⟩, .string ⟨(([] : List UInt8)).toArray⟩] 68))).go ((Fr.refl [] _).alloc (.cells #[.int .i64 xi, .int .u32 ((1 + (xn : Int) % 65535)), .string ⟨(([] : List UInt8)).toArray⟩, .string ⟨(([] : List UInt8)).toArray⟩] 68)))
            go_wp2_with (at_builtin; refine wpl_app _ rfl (.tmp 84) (.tmp 86) 56 rfl w.heap.size 68 i0 (.agg #[.int .i64 0, .int .u32 0, .string ⟨#[]⟩, .string ⟨#[]⟩]) 4 48 Try.underlying56 hi hz0 hz1 hz2 rfl (by decide) _ R.length (R.flatMap prE) rfl HI3.out.own ⟨w2.heap.size + 2, 0, none⟩ 1 1 [.int .i64 xi, .int .u32 ((1 + (xn : Int) % 65535)), .string ⟨(([] : List UInt8)).toArray⟩, .string ⟨(([] : List UInt8)).toArray⟩] rfl rfl ?c1 ?c2 ?c3 ?c4 ?c5 ?_)
            try (case c1 => exact news_at _ _ (by simp) _ _)
            try (case c2 => first | exact ⟨rfl, rfl, rfl, rfl⟩ | (intro u hu; simp at hu; rcases hu with rfl | rfl | rfl | rfl <;> rfl))
            try (case c3 => unfold maxLen; omega)
            try (case c4 => omega)
            try (case c5 => have := HI3.out.fr.size; exact this)
            intro v' w3 hown3 hg hfr
            have HI4 := Lib.hid (HI3.out.app _ (by rw [HE.out]; exact hown3) hg hfr)
            obtain ⟨A4, cp4, rfl⟩ := own_shape hown3
            clear hown3 hg hfr
            go_wp2
            go_roundw
            case rel => exact ⟨k + 1, by go_num, by omega, by rw [HS.out]; exact HI4⟩
            case measure => simp [intOf]; omega
          · skip
            have HE := Lib.hid (right_cells xi xn xs xt _ hK (1 + (xn : Int) % 100000000) ([] : List UInt8) ([] : List UInt8) (by first | rfl | (rw [and_u32 1 _ 1 (by decide) (by decide) (by omega) (by have := hx8.out.1; omega)]; simp [rightN]) | (simp [rightN]; done)) (by first | rfl | simp [rightS]) (by first | rfl | simp [rightT]))
            try (go_wp2_with fail; refine (letters_any xs (by have := hx8.out; omega) _).mono ?_; rintro _ _ ⟨rfl, rfl⟩)
            go_wp2_with fail
            refine (rkind_any _ _).mono ?_
            rintro _ _ ⟨rfl, rfl⟩
            rw [hK]
            try (go_wp2_with fail; refine (letters_any xt (by have := hx8.out; omega) _).mono ?_; rintro _ _ ⟨rfl, rfl⟩)
            have HI3 := Lib.hid ((HI2.out.go ((Fr.refl [] _).alloc (.cells #[.int .i64 xi, .int .u32 ((1 + (xn : Int) % 100000000)), .string ⟨(([] : List UInt8)).toArray⟩, .string ⟨(([] : List UInt8)).toArray⟩] 68))).go ((Fr.refl [] _).alloc (.cells #[.int .i64 xi, .int .u32 ((1 + (xn : Int) % 100000000)), .string ⟨(([] : List UInt8)).toArray⟩, .string ⟨(([] : List UInt8)).toArray⟩] 68)))
            go_wp2_with (at_builtin; refine wpl_app _ rfl (.tmp 84) (.tmp 86) 56 rfl w.heap.size 68 i0 (.agg #[.int .i64 0, .int .u32 0, .string ⟨#[]⟩, .string ⟨#[]⟩]) 4 48 Try.underlying56 hi hz0 hz1 hz2 rfl (by decide) _ R.length (R.flatMap prE) rfl HI3.out.own ⟨w2.heap.size + 2, 0, none⟩ 1 1 [.int .i64 xi, .int .u32 ((1 + (xn : Int) % 100000000)), .string ⟨(([] : List UInt8)).toArray⟩, .string ⟨(([] : List UInt8)).toArray⟩] rfl rfl ?c1 ?c2 ?c3 ?c4 ?c5 ?_)
            try (case c1 => exact news_at _ _ (by simp) _ _)
            try (case c2 => first | exact ⟨rfl, rfl, rfl, rfl⟩ | (intro u hu; simp at hu; rcases hu with rfl | rfl | rfl | rfl <;> rfl))
            try (case c3 => unfold maxLen; omega)
            try (case c4 => omega)
            try (case c5 => have := HI3.out.fr.size; exact this)
            intro v' w3 hown3 hg hfr
            have HI4 := Lib.hid (HI3.out.app _ (by rw [HE.out]; exact hown3) hg hfr)
            obtain ⟨A4, cp4, rfl⟩ := own_shape hown3
            clear hown3 hg hfr
            go_wp2
            go_roundw
            case rel => exact ⟨k + 1, by go_num, by omega, by rw [HS.out]; exact HI4⟩
            case measure => simp [intOf]; omega
          · skip
            have HE := Lib.hid (right_cells xi xn xs xt _ hK (1 + (xn : Int) % 100000000) ([] : List UInt8) ([] : List UInt8) (by first | rfl | (rw [and_u32 1 _ 1 (by decide) (by decide) (by omega) (by have := hx8.out.1; omega)]; simp [rightN]) | (simp [rightN]; done)) (by first | rfl | simp [rightS]) (by first | rfl | simp [rightT]))
            try (go_wp2_with fail; refine (letters_any xs (by have := hx8.out; omega) _).mono ?_; rintro _ _ ⟨rfl, rfl⟩)
            go_wp2_with fail
            refine (rkind_any _ _).mono ?_
            rintro _ _ ⟨rfl, rfl⟩
            rw [hK]
            try (go_wp2_with fail; refine (letters_any xt (by have := hx8.out; omega) _).mono ?_; rintro _ _ ⟨rfl, rfl⟩)
            have HI3 := Lib.hid ((HI2.out.go ((Fr.refl [] _).alloc (.cells #[.int .i64 xi, .int .u32 ((1 + (xn : Int) % 100000000)), .string ⟨(([] : List UInt8)).toArray⟩, .string ⟨(([] : List UInt8)).toArray⟩] 68))).go ((Fr.refl [] _).alloc (.cells #[.int .i64 xi, .int .u32 ((1 + (xn : Int) % 100000000)), .string ⟨(([] : List UInt8)).toArray⟩, .string ⟨(([] : List UInt8)).toArray⟩] 68)))
            go_wp2_with (at_builtin; refine wpl_app _ rfl (.tmp 84) (.tmp 86) 56 rfl w.heap.size 68 i0 (.agg #[.int .i64 0, .int .u32 0, .string ⟨#[]⟩, .string ⟨#[]⟩]) 4 48 Try.underlying56 hi hz0 hz1 hz2 rfl (by decide) _ R.length (R.flatMap prE) rfl HI3.out.own ⟨w2.heap.size + 2, 0, none⟩ 1 1 [.int .i64 xi, .int .u32 ((1 + (xn : Int) % 100000000)), .string ⟨(([] : List UInt8)).toArray⟩, .string ⟨(([] : List UInt8)).toArray⟩] rfl rfl ?c1 ?c2 ?c3 ?c4 ?c5 ?_)
            try (case c1 => exact news_at _ _ (by simp) _ _)
            try (case c2 => first | exact ⟨rfl, rfl, rfl, rfl⟩ | (intro u hu; simp at hu; rcases hu with rfl | rfl | rfl | rfl <;> rfl))
            try (case c3 => unfold maxLen; omega)
            try (case c4 => omega)
            try (case c5 => have := HI3.out.fr.size; exact this)
            intro v' w3 hown3 hg hfr
            have HI4 := Lib.hid (HI3.out.app _ (by rw [HE.out]; exact hown3) hg hfr)
            obtain ⟨A4, cp4, rfl⟩ := own_shape hown3
            clear hown3 hg hfr
            go_wp2
            go_roundw
            case rel => exact ⟨k + 1, by go_num, by omega, by rw [HS.out]; exact HI4⟩
            case measure => simp [intOf]; omega
          · skip
            have HE := Lib.hid (right_cells xi xn xs xt _ hK 0 (lettersB xs) ([] : List UInt8) (by first | rfl | (rw [and_u32 1 _ 1 (by decide) (by decide) (by omega) (by have := hx8.out.1; omega)]; simp [rightN]) | (simp [rightN]; done)) (by first | rfl | simp [rightS]) (by first | rfl | simp [rightT]))
            try (go_wp2_with fail; refine (letters_any xs (by have := hx8.out; omega) _).mono ?_; rintro _ _ ⟨rfl, rfl⟩)
            go_wp2_with fail
            refine (rkind_any _ _).mono ?_
            rintro _ _ ⟨rfl, rfl⟩
            rw [hK]
            try (go_wp2_with fail; refine (letters_any xt (by have := hx8.out; omega) _).mono ?_; rintro _ _ ⟨rfl, rfl⟩)
            have HI3 := Lib.hid ((HI2.out.go ((Fr.refl [] _).alloc (.cells #[.int .i64 xi, .int .u32 (0), .string ⟨((lettersB xs)).toArray⟩, .string ⟨(([] : List UInt8)).toArray⟩] 68))).go ((Fr.refl [] _).alloc (.cells #[.int .i64 xi, .int .u32 (0), .string ⟨((lettersB xs)).toArray⟩, .string ⟨(([] : List UInt8)).toArray⟩] 68)))
            go_wp2_with (at_builtin; refine wpl_app _ rfl (.tmp 84) (.tmp 86) 56 rfl w.heap.size 68 i0 (.agg #[.int .i64 0, .int .u32 0, .string ⟨#[]⟩, .string ⟨#[]⟩]) 4 48 Try.underlying56 hi hz0 hz1 hz2 rfl (by decide) _ R.length (R.flatMap prE) rfl HI3.out.own ⟨w2.heap.size + 2, 0, none⟩ 1 1 [.int .i64 xi, .int .u32 (0), .string ⟨((lettersB xs)).toArray⟩, .string ⟨(([] : List UInt8)).toArray⟩] rfl rfl ?c1 ?c2 ?c3 ?c4 ?c5 ?_)
            try (case c1 => exact news_at _ _ (by simp) _ _)
            try (case c2 => first | exact ⟨rfl, rfl, rfl, rfl⟩ | (intro u hu; simp at hu; rcases hu with rfl | rfl | rfl | rfl <;> rfl))
            try (case c3 => unfold maxLen; omega)
            try (case c4 => omega)
            try (case c5 => have := HI3.out.fr.size; exact this)
            intro v' w3 hown3 hg hfr
            have HI4 := Lib.hid (HI3.out.app _ (by rw [HE.out]; exact hown3) hg hfr)
            obtain ⟨A4, cp4, rfl⟩ := own_shape hown3
            clear hown3 hg hfr
            go_wp2
            go_roundw
            case rel => exact ⟨k + 1, by go_num, by omega, by rw [HS.out]; exact HI4⟩
            case measure => simp [intOf]; omega
          · skip
            have HE := Lib.hid (right_cells xi xn xs xt _ hK 0 xs ([] : List UInt8) (by first | rfl | (rw [and_u32 1 _ 1 (by decide) (by decide) (by omega) (by have := hx8.out.1; omega)]; simp [rightN]) | (simp [rightN]; done)) (by first | rfl | simp [rightS]) (by first | rfl | simp [rightT]))
            try (go_wp2_with fail; refine (letters_any xs (by have := hx8.out; omega) _).mono ?_; rintro _ _ ⟨rfl, rfl⟩)
            go_wp2_with fail
            refine (rkind_any _ _).mono ?_
            rintro _ _ ⟨rfl, rfl⟩
            rw [hK]
            try (go_wp2_with fail; refine (letters_any xt (by have := hx8.out; omega) _).mono ?_; rintro _ _ ⟨rfl, rfl⟩)
            have HI3 := Lib.hid ((HI2.out.go ((Fr.refl [] _).alloc (.cells #[.int .i64 xi, .int .u32 (0), .string ⟨(xs).toArray⟩, .string ⟨(([] : List UInt8)).toArray⟩] 68))).go ((Fr.refl [] _).alloc (.cells #[.int .i64 xi, .int .u32 (0), .string ⟨(xs).toArray⟩, .string ⟨(([] : List UInt8)).toArray⟩] 68)))
            go_wp2_with (at_builtin; refine wpl_app _ rfl (.tmp 84) (.tmp 86) 56 rfl w.heap.size 68 i0 (.agg #[.int .i64 0, .int .u32 0, .string ⟨#[]⟩, .string ⟨#[]⟩]) 4 48 Try.underlying56 hi hz0 hz1 hz2 rfl (by decide) _ R.length (R.flatMap prE) rfl HI3.out.own ⟨w2.heap.size + 2, 0, none⟩ 1 1 [.int .i64 xi, .int .u32 (0), .string ⟨(xs).toArray⟩, .string ⟨(([] : List UInt8)).toArray⟩] rfl rfl ?c1 ?c2 ?c3 ?c4 ?c5 ?_)
            try (case c1 => exact news_at _ _ (by simp) _ _)
            try (case c2 => first | exact ⟨rfl, rfl, rfl, rfl⟩ | (intro u hu; simp at hu; rcases hu with rfl | rfl | rfl | rfl <;> rfl))
            try (case c3 => unfold maxLen; omega)
            try (case c4 => omega)
            try (case c5 => have := HI3.out.fr.size; exact this)
            intro v' w3 hown3 hg hfr
            have HI4 := Lib.hid (HI3.out.app _ (by rw [HE.out]; exact hown3) hg hfr)
            obtain ⟨A4, cp4, rfl⟩ := own_shape hown3
            clear hown3 hg hfr
            go_wp2
            go_roundw
            case rel => exact ⟨k + 1, by go_num, by omega, by rw [HS.out]; exact HI4⟩
            case measure => simp [intOf]; omega
          · skip
            have HE := Lib.hid (right_cells xi xn xs xt _ hK 0 (lettersB xs) (lettersB xt) (by first | rfl | (rw [and_u32 1 _ 1 (by decide) (by decide) (by omega) (by have := hx8.out.1; omega)]; simp [rightN]) | (simp [rightN]; done)) (by first | rfl | simp [rightS]) (by first | rfl | simp [rightT]))
            try (go_wp2_with fail; refine (letters_any xs (by have := hx8.out; omega) _).mono ?_; rintro _ _ ⟨rfl, rfl⟩)
            go_wp2_with fail
            refine (rkind_any _ _).mono ?_
            rintro _ _ ⟨rfl, rfl⟩
            rw [hK]
            try (go_wp2_with fail; refine (letters_any xt (by have := hx8.out; omega) _).mono ?_; rintro _ _ ⟨rfl, rfl⟩)
            have HI3 := Lib.hid ((HI2.out.go ((Fr.refl [] _).alloc (.cells #[.int .i64 xi, .int .u32 (0), .string ⟨((lettersB xs)).toArray⟩, .string ⟨((lettersB xt)).toArray⟩] 68))).go ((Fr.refl [] _).alloc (.cells #[.int .i64 xi, .int .u32 (0), .string ⟨((lettersB xs)).toArray⟩, .string ⟨((lettersB xt)).toArray⟩] 68)))
            go_wp2_with (at_builtin; refine wpl_app _ rfl (.tmp 84) (.tmp 86) 56 rfl w.heap.size 68 i0 (.agg #[.int .i64 0, .int .u32 0, .string ⟨#[]⟩, .string ⟨#[]⟩]) 4 48 Try.underlying56 hi hz0 hz1 hz2 rfl (by decide) _ R.length (R.flatMap prE) rfl HI3.out.own ⟨w2.heap.size + 2, 0, none⟩ 1 1 [.int .i64 xi, .int .u32 (0), .string ⟨((lettersB xs)).toArray⟩, .string ⟨((lettersB xt)).toArray⟩] rfl rfl ?c1 ?c2 ?c3 ?c4 ?c5 ?_)
            try (case c1 => exact news_at _ _ (by simp) _ _)
            try (case c2 => first | exact ⟨rfl, rfl, rfl, rfl⟩ | (intro u hu; simp at hu; rcases hu with rfl | rfl | rfl | rfl <;> rfl))
            try (case c3 => unfold maxLen; omega)
            try (case c4 => omega)
            try (case c5 => have := HI3.out.fr.size; exact this)
            intro v' w3 hown3 hg hfr
            have HI4 := Lib.hid (HI3.out.app _ (by rw [HE.out]; exact hown3) hg hfr)
            obtain ⟨A4, cp4, rfl⟩ := own_shape hown3
            clear hown3 hg hfr
            go_wp2
            go_roundw
            case rel => exact ⟨k + 1, by go_num, by omega, by rw [HS.out]; exact HI4⟩
            case measure => simp [intOf]; omega
        · by_cases h38 : xi = 38
          · have hK : (ruleOf xi).kind = 7 := by subst h38; decide
            have HS : Hid (rightGo kind isWill (L.take (k + 1)) = R ++ [rightP ⟨xi, xn, xs, xt⟩]) := Lib.hid (by rw [hsn.out, if_pos (by rw [HKp.out]; simp [h38])])
            have e38 : (xi != 38) = false := by simpa using h38
            clear h38
            go_wp2_with fail
            refine (rkind_any _ _).mono ?_
            rintro _ _ ⟨rfl, rfl⟩
            rw [hK]
            skip
            have HE := Lib.hid (right_cells xi xn xs xt _ hK 0 (lettersB xs) (lettersB xt) (by first | rfl | (rw [and_u32 1 _ 1 (by decide) (by decide) (by omega) (by have := hx8.out.1; omega)]; simp [rightN]) | (simp [rightN]; done)) (by first | rfl | simp [rightS]) (by first | rfl | simp [rightT]))
            try (go_wp2_with fail; refine (letters_any xs (by have := hx8.out; omega) _).mono ?_; rintro _ _ ⟨rfl, rfl⟩)
            go_wp2_with fail
            refine (rkind_any _ _).mono ?_
            rintro _ _ ⟨rfl, rfl⟩
            rw [hK]
            try (go_wp2_with fail; refine (letters_any xt (by have := hx8.out; omega) _).mono ?_; rintro _ _ ⟨rfl, rfl⟩)
            have HI3 := Lib.hid ((HI2.out.go ((Fr.refl [] _).alloc (.cells #[.int .i64 xi, .int .u32 (0), .string ⟨((lettersB xs)).toArray⟩, .string ⟨((lettersB xt)).toArray⟩] 68))).go ((Fr.refl [] _).alloc (.cells #[.int .i64 xi, .int .u32 (0), .string ⟨((lettersB xs)).toArray⟩, .string ⟨((lettersB xt)).toArray⟩] 68)))
            go_wp2_with (at_builtin; refine wpl_app _ rfl (.tmp 84) (.tmp 86) 56 rfl w.heap.size 68 i0 (.agg #[.int .i64 0, .int .u32 0, .string ⟨#[]⟩, .string ⟨#[]⟩]) 4 48 Try.underlying56 hi hz0 hz1 hz2 rfl (by decide) _ R.length (R.flatMap prE) rfl HI3.out.own ⟨w2.heap.size + 2, 0, none⟩ 1 1 [.int .i64 xi, .int .u32 (0), .string ⟨((lettersB xs)).toArray⟩, .string ⟨((lettersB xt)).toArray⟩] rfl rfl ?c1 ?c2 ?c3 ?c4 ?c5 ?_)
            try (case c1 => exact news_at _ _ (by simp) _ _)
            try (case c2 => first | exact ⟨rfl, rfl, rfl, rfl⟩ | (intro u hu; simp at hu; rcases hu with rfl | rfl | rfl | rfl <;> rfl))
            try (case c3 => unfold maxLen; omega)
            try (case c4 => omega)
            try (case c5 => have := HI3.out.fr.size; exact this)
            intro v' w3 hown3 hg hfr
            have HI4 := Lib.hid (HI3.out.app _ (by rw [HE.out]; exact hown3) hg hfr)
            obtain ⟨A4, cp4, rfl⟩ := own_shape hown3
            clear hown3 hg hfr
            go_wp2
            go_roundw
            case rel => exact ⟨k + 1, by go_num, by omega, by rw [HS.out]; exact HI4⟩
            case measure => simp [intOf]; omega
          · have e38 : (xi != 38) = true := by simpa using h38
            have HS : Hid (rightGo kind isWill (L.take (k + 1)) = R) := Lib.hid (by rw [hsn.out, if_neg (by rw [HKp.out]; simp [h38])])
            clear h38
            go_wp2
            go_roundw
            case rel => exact ⟨k + 1, by go_num, by omega, by rw [HS.out]; exact HI2⟩
            case measure => simp [intOf]; omega
    · obtain rfl : k = L.length := by omega
      rw [List.take_length] at HI
      go_wp2
      go_ret
      exact ⟨.slice A' (rightGo kind isWill (L.take L.length)).length cp', rfl, by rw [List.take_length]; exact HI.out.own, HI.out.fr⟩
end Go.Proofs.Ytlnlolhihodgoaa
