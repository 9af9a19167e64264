/- The walk of the law PropPuts. -/
import Derived.Test.YtlnlolhihodgoaaPropC
import Derived.Test.YtlnlolhihodgoaaPropN
import Derived.Test.YtlnlolhihodgoaaPropP
import Derived.Test.YtlnlolhihodgoaaPropQ
import Derived.Test.YtlnlolhihodgoaaPropJ
import Derived.Test.YtlnlolhihodgoaaOpen
namespace Go.Proofs.Ytlnlolhihodgoaa
open Go.RowKit

section
open Go.ChangeShapes Go.WideShapes Go.Deep
/-- A slice of properties, handed in, as a list. -/
theorem open_Prop {H : Type} {enc : TypeId × Value → H} {w : World} {base : Nat} {spare : Nat → Bool} {held : Bool} {a : Option Addr} {n c : Nat} {d : DataW H} {ps : List MemPlace} (h : DataW.Trod enc Try.prog w base spare held 55 (.slice a n c) d ps) :
    ∃ (A : Option Addr) (n' c' : Nat) (f : List Pr), Value.slice a n c = .slice A n' c' ∧ n' = f.length ∧ n' ≤ 9223372036854775807 ∧ View w (.slice A n' c') f.length (f.flatMap prE) ∧ ∀ x ∈ f, x.n < 4294967296 ∧ x.s.length ≤ 9223372036854775807 ∧ x.t.length ≤ 9223372036854775807 := by
  obtain ⟨fuel, hf⟩ := h
  obtain ⟨A, n', c', V, hv, ⟨hc, hcm⟩, hA, hV⟩ := open_flat (v := .slice a n c) Try.underlying55 Try.underlying68 (by kernel_rfl) (by kernel_rfl) (by decide) (by simpa [Value.cells] using hf)
  have hch : ∀ i, i < n' → ∃ x : Pr, (V i 0 = .int .i64 x.id ∧ V i 1 = .int .u32 x.n ∧ V i 2 = .string ⟨x.s.toArray⟩ ∧ V i 3 = .string ⟨x.t.toArray⟩) ∧ x.n < 4294967296 ∧ x.s.length ≤ 9223372036854775807 ∧ x.t.length ≤ 9223372036854775807 := by
    intro i hi
    obtain ⟨m0, y0, h0⟩ := hV i hi 0 _ rfl
    obtain ⟨m1, y1, h1⟩ := hV i hi 1 _ rfl
    obtain ⟨m2, y2, h2⟩ := hV i hi 2 _ rfl
    obtain ⟨m3, y3, h3⟩ := hV i hi 3 _ rfl
    obtain ⟨k, e0, _, _⟩ := DataW.trod_int Try.underlying3 h0
    obtain ⟨n, e1, _, wn⟩ := DataW.trod_int Try.underlying66 h1
    obtain ⟨s, e2, _, hs⟩ := DataW.trod_string Try.underlying9 h2
    obtain ⟨u, e3, _, hu⟩ := DataW.trod_string Try.underlying9 h3
    obtain ⟨l, rfl, hl⟩ := str_list s
    obtain ⟨m, rfl, hm⟩ := str_list u
    obtain ⟨g0, g1⟩ := wf_u32 wn
    obtain ⟨N, rfl⟩ := Int.eq_ofNat_of_zero_le g0
    simp only [List.cons.injEq, and_true] at e0 e1 e2 e3
    unfold maxLen at hs hu
    exact ⟨⟨k, N, l, m⟩, ⟨e0, e1, e2, e3⟩, by show N < _; omega, by show l.length ≤ _; omega, by show m.length ≤ _; omega⟩
  obtain ⟨f, hf⟩ := choose_lt hch
  unfold maxLen at hcm
  have hlen : ((List.range n').map f).length = n' := by simp
  refine ⟨A, n', c', (List.range n').map f, hv, hlen.symm, by omega, ?_, fun x hx => ?_⟩
  · rw [hlen]
    refine ⟨A, c', rfl, ?_⟩
    rcases hA with rfl | ⟨b, off, hAe, hcell⟩
    · exact Or.inl rfl
    · refine Or.inr ⟨b, off, hAe, fun j u hj => ?_⟩
      have hjl : j < n' * 4 := by
        have := (List.getElem?_eq_some_iff.1 hj).1
        rw [flat_len 4 prE prE_len, hlen] at this; exact this
      have hi : j / 4 < n' := by omega
      have hm : j % 4 < 4 := by omega
      have hj2 : (prE (f (j / 4)))[j % 4]? = some u := by
        rw [show j = j / 4 * 4 + j % 4 from by omega, flat_at 4 prE prE_len _ (j / 4) (by rw [hlen]; exact hi) (j % 4) hm] at hj
        simpa using hj
      obtain ⟨⟨e0, e1, e2, e3⟩, _⟩ := hf (j / 4) hi
      have hc4 : w.cell? ⟨b, off + (j / 4 * 4 + j % 4), none⟩ = some (V (j / 4) (j % 4)) := hcell (j / 4) hi (j % 4) hm
      rw [show off + (j / 4 * 4 + j % 4) = off + j from by omega] at hc4
      rw [hc4]
      have h4 : j % 4 = 0 ∨ j % 4 = 1 ∨ j % 4 = 2 ∨ j % 4 = 3 := by omega
      rcases h4 with h4 | h4 | h4 | h4
      all_goals
        rw [h4] at hj2 ⊢
        simp [prE] at hj2
        first | rw [e0, hj2] | rw [e1, hj2] | rw [e2, hj2] | rw [e3, hj2]
  · obtain ⟨i, hi, rfl⟩ := List.mem_map.1 hx
    exact (hf i (List.mem_range.1 hi)).2
end
theorem getR_snoc (l : List Pr) (k : Nat) (h : k < l.length) (id : Int) : getR (l.take (k + 1)) id = if (getR (l.take k) id).2 = true then getR (l.take k) id else if l[k].id = id then (l[k], true) else (⟨0, 0, [], []⟩, false) := by
  rw [List.take_succ_eq_append_getElem h]
  unfold getR
  rw [List.find?_append]
  cases hf : (l.take k).find? (fun x => x.id == id) with
  | some p => simp
  | none =>
    by_cases he : l[k].id = id
    · simp [he]
    · simp [he]
theorem getR_zero (l : List Pr) (id : Int) (h : (getR l id).2 = false) : (getR l id).1 = ⟨0, 0, [], []⟩ := by
  unfold getR at h ⊢
  cases hf : l.find? (fun x => x.id == id) with
  | some p => rw [hf] at h; cases h
  | none => rfl
theorem fewR_ok (l : List Pr) (h : ∀ x ∈ l, x.n < 4294967296 ∧ x.s.length ≤ 9223372036854775807 ∧ x.t.length ≤ 9223372036854775807) : (fewR l).length ≤ 8 ∧ ∀ x ∈ fewR l, x.n < 4294967296 ∧ x.s.length ≤ 20 ∧ x.t.length ≤ 20 := by
  refine ⟨by rw [fewR, List.length_map]; exact List.length_take_le _ _, fun x hx => ?_⟩
  obtain ⟨y, hy, rfl⟩ := List.mem_map.1 hx
  exact ⟨(h y (List.mem_of_mem_take hy)).1, List.length_take_le _ _, List.length_take_le _ _⟩
theorem eqPr_same (i n : Int) (s t : ByteArray) (w : World) : (Op.equalIn 10000 68 (.agg #[.int .i64 i, .int .u32 n, .string s, .string t]) (.agg #[.int .i64 i, .int .u32 n, .string s, .string t])).run Try.prog w = .ok true w := by
  have u3 := Try.underlying3
  have a3 := Try.isAgg3
  have z3 := Try.sizeOf3
  have u4 := Try.underlying66
  have a4 := Try.isAgg66
  have z4 := Try.sizeOf66
  have u9 := Try.underlying9
  have a9 := Try.isAgg9
  have z9 := Try.sizeOf9
  have hS : Try.prog.underlying 68 = some (.struct (Try.prog.fieldsOf 68)) := by kernel_rfl
  have hp : Try.prog.stoodInHeld 68 = false := by kernel_rfl
  rw [show (10000 : Nat) = 9999 + 1 from rfl, run_equalIn_agg w 9999 68 _ _ hS hp]
  simp only [Program.fieldsOf, Try.underlying68]
  go_simp
theorem eqlPr_same (i n : Int) (s t : ByteArray) (w : World) : (binOp .eql 68 (.agg #[.int .i64 i, .int .u32 n, .string s, .string t]) (.agg #[.int .i64 i, .int .u32 n, .string s, .string t])).run Try.prog w = .ok (.bool true) w := by
  rw [run_eql_struct, eqPr_same]; rfl
set_option maxRecDepth 100000 in
set_option maxHeartbeats 4000000 in
theorem propPuts_walk (A : Option Addr) (n cc : Nat) (l0 : List Pr) (id kind : Int) (isWill : Bool) (wi : (Lit.int .i64 id).wf = true) (wk : (Lit.int .i64 kind).wf = true) (w : World) (hH : n = l0.length ∧ n ≤ 9223372036854775807 ∧ View w (.slice A n cc) l0.length (l0.flatMap prE) ∧ ∀ x ∈ l0, x.n < 4294967296 ∧ x.s.length ≤ 9223372036854775807 ∧ x.t.length ≤ 9223372036854775807) :
    Calls Try.prog 11 #[.slice A n cc, .int .i64 id, .int .i64 kind, .bool isWill] w fun e w' => e = .returned (.bool true) ∧ Fr [] w w' := by
  obtain ⟨rfl, hn, hv, hok⟩ := hH
  obtain ⟨hl8, hok8⟩ := fewR_ok l0 hok
  have hok2 : ∀ x ∈ l0, x.s.length ≤ 9223372036854775807 ∧ x.t.length ≤ 9223372036854775807 := fun x hx => (hok x hx).2
  have hok9 : ∀ x ∈ fewR l0, x.n < 4294967296 ∧ x.s.length ≤ 9223372036854775807 ∧ x.t.length ≤ 9223372036854775807 := fun x hx => by obtain ⟨a, b, c⟩ := hok8 x hx; exact ⟨a, by omega, by omega⟩
  have HV := Lib.hid hv
  have HO2 := Lib.hid hok2
  have HO9 := Lib.hid hok9
  have _ := wi
  have _ := wk
  clear hv hok hok2 hok8 hok9
  go_enter Try.func11, Try.ntmps11
  go_wp2_with fail
  refine (few_any _ l0 _ HV.out hn HO2.out).mono ?_
  rintro _ w1 ⟨v, rfl, own1, g1⟩
  generalize fewR l0 = l at *
  obtain ⟨A1, cp1, rfl⟩ := own_shape own1
  have hno := OutAt.new w1
  have own2 := own1.alloc (.cells #[.slice none 0 0] 73)
  have hf2 : Fr [] w (w1.alloc (.cells #[.slice none 0 0] 73)) := g1.alloc _
  have z1 := g1.size
  clear own1 g1
  go_wp2_with fail
  refine (awake3_any _).mono ?_
  rintro _ w2 ⟨rfl, g2⟩
  have own3 := own_fr g2 own2 (by simp)
  have hn3 := hno.fr g2 (by simp) (by simp)
  have hf3 := hf2.trans g2 (by simp)
  have z2 := g2.size
  rw [World.size_alloc] at z2
  clear own2 hno hf2 g2
  go_wp2_with fail
  refine (puts_any w1.heap.size w1.heap.size [] _ l _ hn3 (own_view own3) (by omega) HO9.out (by simp)).mono ?_
  rintro _ w3 ⟨rfl, o3, q3, ho3, g3⟩
  rw [List.nil_append] at q3
  have own4 := own_fr g3 own3 (by
    intro g hg h
    simp at h
    subst h
    have := own_ne own3 hn3.choose_spec.1 (by decide)
    exact this hg)
  have hf4 := hf3.trans g3 (by intro x hx h; simp at h; omega)
  have z3 := g3.size
  have hql := q3.lt
  clear own3 hn3 hf3 g3
  have V4 := Lib.hid (own_view own4)
  have HC : Hid (0 < l.length → ∃ bb off c, Value.slice A1 l.length cp1 = .slice (some ⟨bb, off, none⟩) l.length c ∧ bb < w3.heap.size ∧ ∀ (i : Nat) (hi : i < l.length) j u, (prE l[i])[j]? = some u → w3.cell? ⟨bb, off + i * 4 + j, none⟩ = some u) := Lib.hid (fun hl => V4.out.at prE_len (by decide) hl)
  have hq4 := Lib.hid q3
  have hfb := blk_new w3 (.cells #[.int .i64 0, .int .u32 0, .string ⟨#[]⟩, .string ⟨#[]⟩] 68)
  have hf5 : Fr [] w3 (w3.alloc (.cells #[.int .i64 0, .int .u32 0, .string ⟨#[]⟩, .string ⟨#[]⟩] 68)) := (Fr.refl _ _).alloc _
  clear own4 q3
  go_wp2
  go_loopw [12, 28] (fun th i wr => ∃ k : Nat, i = .int .i64 k ∧ k ≤ l.length ∧ th = .bool (getR (l.take k) id).2 ∧ Hid (PrAt wr w3.heap.size (getR (l.take k) id).1) ∧ Hid (Fr [] w3 wr)) (fun _ i _ => l.length - (intOf i).toNat)
  case atStart => exact ⟨0, rfl, by omega, rfl, Lib.hid hfb, Lib.hid hf5⟩
  case round =>
    clear hfb hf5
    obtain ⟨k, rfl, hk, rfl, HP, HF⟩ := hrel
    have hwl : w3.heap.size < wr.heap.size := blk_lt HP.out
    by_cases hlt : k < l.length
    · obtain ⟨bb, off, c', hsl, hbb, hc⟩ := HC.out (by omega)
      cases hsl
      have hcell := hc k hlt
      have hsn := getR_snoc l k hlt id
      replace hsn := Lib.hid hsn
      generalize l[k] = x at *
      obtain ⟨xi, xn, xs, xt⟩ := x
      have c0 : wr.cell? ⟨bb, off + k * 4, none⟩ = some (.int .i64 xi) := HF.out.cell (hcell 0 _ rfl) (by simp)
      have c1 : wr.cell? ⟨bb, off + k * 4 + 1, none⟩ = some (.int .u32 xn) := HF.out.cell (hcell 1 _ rfl) (by simp)
      have c2 : wr.cell? ⟨bb, off + k * 4 + 2, none⟩ = some (.string ⟨xs.toArray⟩) := HF.out.cell (hcell 2 _ rfl) (by simp)
      have c3 : wr.cell? ⟨bb, off + k * 4 + 3, none⟩ = some (.string ⟨xt.toArray⟩) := HF.out.cell (hcell 3 _ rfl) (by simp)
      clear hcell hc
      dsimp only at hsn
      obtain ⟨⟨F, th⟩, hG⟩ : ∃ x, getR (l.take k) id = x := ⟨_, rfl⟩
      have hz : th = false → F = ⟨0, 0, [], []⟩ := fun h => by
        have := getR_zero (l.take k) id (by rw [hG]; exact h)
        rw [hG] at this; exact this
      rw [hG] at HP hsn ⊢
      dsimp only at HP hsn ⊢
      clear hG
      have HPn := Lib.hid (show PrAt (wr.alloc (.cells #[.int .i64 xi, .int .u32 xn, .string ⟨xs.toArray⟩, .string ⟨xt.toArray⟩] 68)) w3.heap.size F from blk_old HP.out _)
      have HFn := Lib.hid (HF.out.alloc (.cells #[.int .i64 xi, .int .u32 xn, .string ⟨xs.toArray⟩, .string ⟨xt.toArray⟩] 68))
      by_cases he : xi = id
      · subst he
        cases th
        · have HS := Lib.hid (show getR (l.take (k + 1)) xi = (⟨xi, xn, xs, xt⟩, true) from by rw [hsn.out, if_neg (by simp), if_pos rfl])
          obtain ⟨Fi, Fn, Fs, Ft⟩ := F
          obtain ⟨⟨r0, r1, r2, r3⟩, ⟨y0, y1, y2, y3⟩, _⟩ := blk4_facts HP.out
          have HB := Lib.hid (blk_old (blk4_set HP.out (.int .i64 xi) (.int .u32 xn) (.string ⟨xs.toArray⟩) (.string ⟨xt.toArray⟩)) (.cells #[.int .i64 xi, .int .u32 xn, .string ⟨xs.toArray⟩, .string ⟨xt.toArray⟩] 68))
          have HB2 := Lib.hid ((fr4_set HF.out (Nat.le_refl w3.heap.size) (.int .i64 xi) (.int .u32 xn) (.string ⟨xs.toArray⟩) (.string ⟨xt.toArray⟩)).alloc (.cells #[.int .i64 xi, .int .u32 xn, .string ⟨xs.toArray⟩, .string ⟨xt.toArray⟩] 68))
          go_wp2
          go_roundw
          case rel => exact ⟨k + 1, by go_num, by omega, by rw [HS.out], by rw [HS.out]; exact Lib.hid HB.out, Lib.hid HB2.out⟩
          case measure => simp [intOf]; omega
        · have HS := Lib.hid (show getR (l.take (k + 1)) xi = (F, true) from by rw [hsn.out, if_pos rfl])
          go_wp2
          go_roundw
          case rel => exact ⟨k + 1, by go_num, by omega, by rw [HS.out], by rw [HS.out]; exact HPn, HFn⟩
          case measure => simp [intOf]; omega
      · have he1 : (xi == id) = false := by simpa using he
        cases th
        · have hF := hz rfl
          have HS := Lib.hid (show getR (l.take (k + 1)) id = (F, false) from by rw [hsn.out, if_neg (by simp), if_neg he, hF])
          clear hF
          go_wp2
          go_roundw
          case rel => exact ⟨k + 1, by go_num, by omega, by rw [HS.out], by rw [HS.out]; exact HPn, HFn⟩
          case measure => simp [intOf]; omega
        · have HS := Lib.hid (show getR (l.take (k + 1)) id = (F, true) from by rw [hsn.out, if_pos rfl])
          go_wp2
          go_roundw
          case rel => exact ⟨k + 1, by go_num, by omega, by rw [HS.out], by rw [HS.out]; exact HPn, HFn⟩
          case measure => simp [intOf]; omega
    · obtain rfl : k = l.length := by omega
      rw [List.take_length] at HP ⊢
      have VR : Hid (View wr (.slice A1 l.length cp1) l.length (l.flatMap prE)) := Lib.hid (View.fr V4.out HF.out (by simp))
      have QR := Lib.hid (OutAt.fr hq4.out HF.out (by simp) (by simp))
      have hfw := Lib.hid (hf4.trans HF.out (by simp))
      clear HC hq4 V4 HF
      go_wp2_with fail
      refine (get_any _ l id _ VR.out (by omega)).mono ?_
      rintro _ w5 ⟨rfl, g5⟩
      obtain ⟨⟨F, th⟩, hG⟩ : ∃ x, getR l id = x := ⟨_, rfl⟩
      have hnR := Lib.hid (show ∀ m, numR l id m = if th = true then F.n else m from fun m => by rw [numR, hG])
      rw [hG] at HP ⊢
      dsimp only at HP ⊢
      clear hG
      obtain ⟨Fi, Fn, Fs, Ft⟩ := F
      have P5 := Lib.hid (blk_old (g5.blk HP.out (by simp)) (.cells #[.int .i64 Fi, .int .u32 Fn, .string ⟨Fs.toArray⟩, .string ⟨Ft.toArray⟩] 68))
      have N5 := Lib.hid (blk_new w5 (.cells #[.int .i64 Fi, .int .u32 Fn, .string ⟨Fs.toArray⟩, .string ⟨Ft.toArray⟩] 68))
      have gA := g5.alloc (.cells #[.int .i64 Fi, .int .u32 Fn, .string ⟨Fs.toArray⟩, .string ⟨Ft.toArray⟩] 68)
      have V5 := Lib.hid (View.fr VR.out gA (by simp))
      have Q5 := Lib.hid (OutAt.fr QR.out gA (by simp) (by simp))
      have F5 := Lib.hid (hfw.out.trans gA (by simp))
      have z5 := g5.size
      clear VR QR hfw gA g5 HP
      go_wp2_with fail
      obtain ⟨m, hm⟩ := Int.eq_ofNat_of_zero_le (show 0 ≤ kind % 4294967296 by omega)
      rw [hm]
      clear hm
      refine (num_pany _ l id m _ V5.out (by omega)).mono ?_
      rintro _ w6 ⟨rfl, g6⟩
      rw [hnR.out]
      have hnR2 : (if th = true then Fn else m) = bif th then Fn else m := by cases th <;> rfl
      dsimp only
      rw [hnR2]
      clear hnR2
      have V6 := Lib.hid (View.fr V5.out g6 (by simp))
      have Q6 := OutAt.fr Q5.out g6 (by simp) (by simp)
      have F6 := F5.out.trans g6 (by simp)
      have P6 := Lib.hid (g6.blk P5.out (by simp))
      have N6 := Lib.hid (g6.blk N5.out (by simp))
      have z6 := g6.size
      clear V5 Q5 F5 P5 N5 g6 hnR
      go_wp2_with fail
      refine (outtext_any _ _ _ _ Q6).mono ?_
      rintro _ _ ⟨rfl, rfl⟩
      go_wp2_with fail
      refine (told_any _ l _ V6.out (by omega)).mono ?_
      rintro _ w7 ⟨v7, rfl, own7, g7⟩
      go_wp2_with fail
      refine (rtext_pany _ l _ (own_view own7) (by omega) HO9.out).mono ?_
      rintro _ w8 ⟨rfl, g8⟩
      have g78 := g7.trans g8 (by simp)
      have F8 := Lib.hid (F6.trans g78 (by simp))
      obtain ⟨⟨c0, c1, c2, c3⟩, _, _⟩ := blk4_facts (g78.blk P6.out (by simp))
      obtain ⟨⟨d0, d1, d2, d3⟩, _, _⟩ := blk4_facts (g78.blk N6.out (by simp))
      clear V6 Q6 F6 P6 N6 g7 g8 g78 own7 HO2 HO9
      have hme := Lib.hid (may_eq id kind isWill).1
      have heq := eqlPr_same
      cases th
      all_goals simp only [cond_true, cond_false]
      all_goals
        go_wp2_with fail
        refine (pkind_any _ _).mono ?_
        rintro _ w9 ⟨rfl, g9⟩
        go_wp2_with fail
        refine (rkind_any _ _).mono ?_
        rintro _ _ ⟨rfl, rfl⟩
        go_wp2_with fail
        refine (pmay_any _ _ _ _).mono ?_
        rintro _ w10 ⟨rfl, g10⟩
        go_wp2_with fail
        refine (rmay_any _ _ _ _).mono ?_
        rintro _ _ ⟨rfl, rfl⟩
        rw [hme.out]
        go_wp2
        go_ret
        exact ⟨rfl, (F8.out.trans g9 (by simp)).trans g10 (by simp)⟩
end Go.Proofs.Ytlnlolhihodgoaa
