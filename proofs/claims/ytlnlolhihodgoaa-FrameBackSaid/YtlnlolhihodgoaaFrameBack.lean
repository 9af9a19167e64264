/- The walk of the law FrameBack. -/
import Derived.Test.YtlnlolhihodgoaaFrameAwake
import Derived.Test.YtlnlolhihodgoaaFrameRText
import Derived.Test.YtlnlolhihodgoaaPlainF
import Derived.Test.YtlnlolhihodgoaaLawA
import Derived.Test.YtlnlolhihodgoaaOpen
namespace Go.Proofs.Ytlnlolhihodgoaa
open Go.RowKit
attribute [local go_sem ↓] Go.wp_at_zero Go.wp_at_succ

def okF (x : Fm) : Prop := chk x.k x.f = true ∧ x.b.length ≤ 150
def frB (x : Fm) : List UInt8 := frameB x.k.toNat x.f.toNat x.b
def catB (l : List Fm) : List UInt8 := l.flatMap frB
theorem chk_bounds (k f : Int) (h : chk k f = true) : 1 ≤ k ∧ k ≤ 15 ∧ 0 ≤ f ∧ f ≤ 15 := by
  unfold chk at h
  simp only [Bool.and_eq_true, decide_eq_true_eq] at h
  exact h.1
theorem frB_len (x : Fm) (h : okF x) : (frB x).length ≤ 155 := by
  have := var_len4 x.b.length
  have := h.2
  rw [frB, frameB_len]; omega
theorem catB_len (l : List Fm) (h : ∀ x ∈ l, okF x) : (catB l).length ≤ 155 * l.length := by
  induction l with
  | nil => simp [catB]
  | cons x l ih =>
    have h1 := frB_len x (h x (by simp))
    have h2 := ih (fun y hy => h y (by simp [hy]))
    rw [show catB (x :: l) = frB x ++ catB l from rfl, List.length_append, List.length_cons]; omega
theorem nextR_back (x : Fm) (t : List UInt8) (h : okF x) : nextR 1000 (frB x ++ t) 0 = ⟨x.k, x.f, x.b, 0, t, 0⟩ := by
  obtain ⟨k, f, b⟩ := x
  obtain ⟨hk, hb⟩ := h
  dsimp only at hk hb
  obtain ⟨b1, b2, b3, b4⟩ := chk_bounds _ _ hk
  obtain ⟨k, rfl⟩ := Int.eq_ofNat_of_zero_le (show 0 ≤ k by omega)
  obtain ⟨f, rfl⟩ := Int.eq_ofNat_of_zero_le b3
  have hv4 := var_len4 b.length
  have hv : Rd.var ⟨(frB ⟨k, f, b⟩ ++ t).drop 1, 0⟩ = (b.length, ⟨b ++ t, 0⟩) := by
    show Rd.var ⟨(var b.length ++ b) ++ t, 0⟩ = _
    rw [List.append_assoc, var_back _ _ (by omega)]
  have h0 : ((frB ⟨k, f, b⟩ ++ t).getD 0 0).toNat = k * 16 + f := by
    show (b8 (((k : Nat) : Int).toNat * 16 + ((f : Nat) : Int).toNat % 16)).toNat = _
    rw [b8_toNat]; omega
  have e1 : (k * 16 + f) / 16 = k := by omega
  have e2 : (k * 16 + f) % 16 = f := by omega
  rw [nextR_go 1000 _ (k * 16 + f) b.length ⟨b ++ t, 0⟩ (by simp [frB, frameB]) h0 (by rw [e1, e2]; exact chkE_ok _ _ hk) hv, e1, e2]
  rw [if_neg (by simp), if_neg (by simp), if_neg (by omega), if_neg (by simp)]
  simp
theorem allR_back : ∀ (n : Nat) (l acc : List Fm), l.length < n → (∀ x ∈ l, okF x) → allR 1000 n (catB l) 0 acc = (acc ++ l, 1, [], 0)
  | 0, _, _, h, _ => absurd h (Nat.not_lt_zero _)
  | n + 1, [], acc, _, _ => by
    rw [allR, show catB [] = [] from rfl, nextR_one 1000 [] rfl, if_pos (by simp [noF])]; simp [noF]
  | n + 1, x :: l, acc, h, hx => by
    rw [allR, show catB (x :: l) = frB x ++ catB l from rfl, nextR_back x _ (hx x (by simp)), if_neg (by simp)]
    dsimp only
    rw [allR_back n l _ (by simpa using h) (fun y hy => hx y (by simp [hy]))]
    simp [Got.fm]
section
open Go.ChangeShapes Go.WideShapes Go.Deep
/-- What a slice of frames reads as. -/
def FramesAt (w : World) (A : Option Addr) (n : Nat) (f : Nat → Fm) : Prop :=
  n = 0 ∨ ∃ b off, A = some ⟨b, off, none⟩ ∧ b < w.heap.size ∧ ∀ i, i < n → w.cell? ⟨b, off + i * 3, none⟩ = some (.int .i64 (f i).k) ∧ w.cell? ⟨b, off + i * 3 + 1, none⟩ = some (.int .i64 (f i).f) ∧ w.cell? ⟨b, off + i * 3 + 2, none⟩ = some (.string ⟨(f i).b.toArray⟩)
instance : Inhabited Fm := ⟨⟨0, 0, []⟩⟩
theorem open_Frame {H : Type} {enc : TypeId × Value → H} {w : World} {base : Nat} {spare : Nat → Bool} {held : Bool} {a : Option Addr} {n c : Nat} {d : DataW H} {ps : List MemPlace} (h : DataW.Trod enc Try.prog w base spare held 27 (.slice a n c) d ps) :
    ∃ (A : Option Addr) (n' c' : Nat) (f : Nat → Fm), Value.slice a n c = .slice A n' c' ∧ n' ≤ 9223372036854775807 ∧ FramesAt w A n' f ∧ ∀ i, i < n' → (-9223372036854775808 ≤ (f i).k ∧ (f i).k ≤ 9223372036854775807) ∧ (-9223372036854775808 ≤ (f i).f ∧ (f i).f ≤ 9223372036854775807) ∧ (f i).b.length ≤ 9223372036854775807 := by
  obtain ⟨fuel, hf⟩ := h
  obtain ⟨A, n', c', V, hv, ⟨hc, hcm⟩, hA, hV⟩ := open_flat (v := .slice a n c) Try.underlying27 Try.underlying39 (by kernel_rfl) (by kernel_rfl) (by decide) (by simpa [Value.cells] using hf)
  have hch : ∀ i, i < n' → ∃ x : Fm, (V i 0 = .int .i64 x.k ∧ V i 1 = .int .i64 x.f ∧ V i 2 = .string ⟨x.b.toArray⟩) ∧ (-9223372036854775808 ≤ x.k ∧ x.k ≤ 9223372036854775807) ∧ (-9223372036854775808 ≤ x.f ∧ x.f ≤ 9223372036854775807) ∧ x.b.length ≤ 9223372036854775807 := by
    intro i hi
    obtain ⟨m0, y0, h0⟩ := hV i hi 0 _ rfl
    obtain ⟨m1, y1, h1⟩ := hV i hi 1 _ rfl
    obtain ⟨m2, y2, h2⟩ := hV i hi 2 _ rfl
    obtain ⟨k, e0, _, wk⟩ := DataW.trod_int Try.underlying3 h0
    obtain ⟨n, e1, _, wn⟩ := DataW.trod_int Try.underlying3 h1
    obtain ⟨s, e2, _, hs⟩ := DataW.trod_string Try.underlying9 h2
    obtain ⟨l, rfl, hl⟩ := str_list s
    simp only [List.cons.injEq, and_true] at e0 e1 e2
    refine ⟨⟨k, n, l⟩, ⟨e0, e1, e2⟩, wf_i64 wk, wf_i64 wn, ?_⟩
    unfold maxLen at hs
    show l.length ≤ _
    omega
  obtain ⟨f, hf⟩ := choose_lt hch
  unfold maxLen at hcm
  refine ⟨A, n', c', f, hv, by omega, ?_, fun i hi => (hf i hi).2⟩
  rcases hA with hz | ⟨b, off, hAe, hcell⟩
  · exact Or.inl hz
  · by_cases hz : n' = 0
    · exact Or.inl hz
    right
    have hb : b < w.heap.size := World.block_lt_of_cell? w _ (hcell 0 (by omega) 0 (by decide))
    refine ⟨b, off, hAe, hb, fun i hi => ?_⟩
    obtain ⟨⟨e0, e1, e2⟩, _⟩ := hf i hi
    rw [← e0, ← e1, ← e2]
    exact ⟨hcell i hi 0 (by decide), hcell i hi 1 (by decide), hcell i hi 2 (by decide)⟩
end
set_option maxRecDepth 100000 in
set_option maxHeartbeats 4000000 in
theorem frameBack_walk (A : Option Addr) (n cc : Nat) (f : Nat → Fm) (w : World) (hH : n ≤ 9223372036854775807 ∧ FramesAt w A n f ∧ ∀ i, i < n → (-9223372036854775808 ≤ (f i).k ∧ (f i).k ≤ 9223372036854775807) ∧ (-9223372036854775808 ≤ (f i).f ∧ (f i).f ≤ 9223372036854775807) ∧ (f i).b.length ≤ 9223372036854775807) :
    Calls Try.prog 6 #[.slice A n cc] w fun e w' => e = .returned (.bool true) ∧ Fr [] w w' := by
  obtain ⟨hn, hA, hf⟩ := hH
  obtain ⟨i0, hi, hz0, hz1, hz2⟩ := info_parts Try.infoRFm
  go_enter Try.func6, Try.ntmps6
  go_wp2_with fail
  refine (awake5_any w).mono ?_
  rintro _ v1 ⟨rfl, hf1⟩
  have hs1 := hf1.size
  have ho := own_emp v1 49 3 w.heap.size (by omega)
  have hff : Fr [] w (v1.alloc (.cells #[] 49)) := hf1.alloc _
  have HA := Lib.hid hA
  have HF := Lib.hid hf
  clear hf1 hA hf
  go_wp2
  go_loopw [3, 4, 5, 6] (fun s wv sz i wr => ∃ (k : Nat) (l : List Fm), i = .int .i64 k ∧ k ≤ n ∧ k ≤ 8 ∧ l.length ≤ k ∧ s = .string ⟨(catB l).toArray⟩ ∧ sz = .int .i64 (catB l).length ∧ (∀ x ∈ l, okF x) ∧ wr.ownsRow w.heap.size 49 3 wv l.length (l.flatMap frE) ∧ Fr [] w wr) (fun _ _ _ i _ => 8 - (intOf i).toNat)
  case atStart => exact ⟨0, [], rfl, by omega, by omega, by simp, rfl, rfl, by simp, ho, hff⟩
  case round =>
    clear ho hff
    obtain ⟨k, l, rfl, hkn, hk8, hlk, rfl, rfl, hok, hown, hfr⟩ := hrel
    have hcl := catB_len l hok
    have hszr := hfr.size
    have HO := Lib.hid hok
    have HW := Lib.hid hown
    have HR := Lib.hid hfr
    obtain ⟨A', cp', rfl⟩ := own_shape hown
    clear hok hown hfr
    by_cases hq : (k : Int) < n
    · by_cases hq2 : (k : Int) < 8
      · have hc : ∃ b off, A = some ⟨b, off, none⟩ ∧ b < w.heap.size ∧ wr.cell? ⟨b, off + k * 3, none⟩ = some (.int .i64 (f k).k) ∧ wr.cell? ⟨b, off + k * 3 + 1, none⟩ = some (.int .i64 (f k).f) ∧ wr.cell? ⟨b, off + k * 3 + 2, none⟩ = some (.string ⟨(f k).b.toArray⟩) := by
          rcases HA.out with h | ⟨b, off, h1, h2, h3⟩
          · omega
          · obtain ⟨a1, a2, a3⟩ := h3 k (by omega)
            exact ⟨b, off, h1, h2, HR.out.cell a1 (by simp), HR.out.cell a2 (by simp), HR.out.cell a3 (by simp)⟩
        obtain ⟨b, off, rfl, hbw, a0, a1, a2⟩ := hc
        obtain ⟨f1, f2, f3⟩ := HF.out k (by omega)
        generalize f k = x at a0 a1 a2 f1 f2 f3
        obtain ⟨xk, xf, xb⟩ := x
        dsimp only at a0 a1 a2 f1 f2 f3
        go_wp2
        go_region_held3 (fun w' => w'.cell? ⟨b, off + k * 3, none⟩ = some (.int .i64 xk) ∧ w'.cell? ⟨b, off + k * 3 + 1, none⟩ = some (.int .i64 xf) ∧ w'.cell? ⟨b, off + k * 3 + 2, none⟩ = some (.string ⟨xb.toArray⟩)) (go_keep) ((go_at_call 13; refine (cut_any xb 150 _ (by omega) (by decide)).mono ?_; rintro _ _ ⟨rfl, rfl⟩))
        all_goals
          go_wp2
          have htl : (xb.take 150).length ≤ 150 := List.length_take_le _ _
          have hbx : Fr [] wr (wr.alloc (.cells #[.int .i64 xk, .int .i64 xf, .string ⟨(xb.take 150).toArray⟩] 39)).drew := ((Fr.refl [] wr).alloc _).drew
          have hfb : (wr.alloc (.cells #[.int .i64 xk, .int .i64 xf, .string ⟨(xb.take 150).toArray⟩] 39)).drew.heap[wr.heap.size]? = some (.cells #[.int .i64 xk, .int .i64 xf, .string ⟨(xb.take 150).toArray⟩] 39 (0, 0)) := blk_new wr _
          obtain ⟨wb, hwb⟩ : ∃ wb, (wr.alloc (.cells #[.int .i64 xk, .int .i64 xf, .string ⟨(xb.take 150).toArray⟩] 39)).drew = wb := ⟨_, rfl⟩
          rw [hwb] at hbx hfb ⊢
          clear hwb a0 a1 a2
          generalize xb.take 150 = B at *
          obtain ⟨⟨c0, c1, c2⟩, ⟨g0, g1, g2⟩, hlb⟩ := blk3_facts hfb
          have Hfb := Lib.hid hfb
          have Hbx := Lib.hid hbx
          clear hfb hbx
          by_cases hck : chk xk xf = true
          · obtain ⟨b1, b2, b3, b4⟩ := chk_bounds _ _ hck
            obtain ⟨kn, rfl⟩ := Int.eq_ofNat_of_zero_le (show 0 ≤ xk by omega)
            obtain ⟨fn, rfl⟩ := Int.eq_ofNat_of_zero_le b3
            have hE := chkE_ok _ _ hck
            have hlt : (fn : Int) < 16 := by omega
            have hok2 : Hid (okF ⟨kn, fn, B⟩) := Lib.hid ⟨hck, htl⟩
            have C1 := fun W => check_any (kn : Int) (fn : Int) W (by omega) (by omega)
            have C2 := fun W => rcheck_any (kn : Int) (fn : Int) W (by omega) (by omega)
            rw [hE] at C1
            rw [hck] at C2
            replace C1 := Lib.hid C1
            replace C2 := Lib.hid C2
            clear hE hck
            go_quiet (first | (go_at_call 23; exact qsame (C1.out _)) | (go_at_call 24; exact qsame (C2.out _)))
            go_wp2_with fail
            refine (C2.out _).mono ?_
            rintro _ w1 ⟨rfl, rfl⟩
            go_wp2_with fail
            refine (ftext_any kn fn B _ (by omega) (by omega) (by omega)).mono ?_
            rintro _ w2 ⟨rfl, hf2⟩
            have hF : Hid (frameB kn fn B = frB ⟨kn, fn, B⟩) := Lib.hid rfl
            rw [hF.out]
            have hFl : Hid ((frB ⟨kn, fn, B⟩).length = 1 + (var B.length).length + B.length) := Lib.hid (frameB_len _ _ _)
            have hfl := frB_len _ hok2.out
            have hx2 := (Hbx.out.drewN nq).trans hf2 (by simp)
            have hb2 := hf2.blk (b := wr.heap.size) (show (wb.drewN nq).heap[wr.heap.size]? = _ from Hfb.out) (by simp)
            replace hx2 := Lib.hid hx2
            replace hb2 := Lib.hid hb2
            clear hf2 c0 c1 c2 g0 g1 g2
            obtain ⟨⟨c0, c1, c2⟩, ⟨g0, g1, g2⟩, hlb⟩ := blk3_facts hb2.out
            have l1 : ¬ 9223372036854775807 < (catB l).length + (frB ⟨kn, fn, B⟩).length := by omega
            obtain ⟨FB, hFB⟩ : ∃ FB, frB ⟨kn, fn, B⟩ = FB := ⟨_, rfl⟩
            rw [hFB] at hfl hFl l1 hF ⊢
            have HFB := Lib.hid hFB
            clear hFB
            go_wp2_with fail
            refine (fsize_any B.length _ (by omega)).mono ?_
            rintro _ w3 ⟨rfl, hf3⟩
            have hx3 := hx2.out.trans hf3 (by simp)
            have hb3 := hf3.blk hb2.out (by simp)
            replace hx3 := Lib.hid hx3
            replace hb3 := Lib.hid hb3
            clear hf3 c0 c1 c2 g0 g1 g2
            obtain ⟨⟨c0, c1, c2⟩, ⟨g0, g1, g2⟩, hlb3⟩ := blk3_facts hb3.out
            have own3 := Lib.hid (own_fr hx3.out HW.out (by simp))
            go_wp2_with (at_builtin; refine wpl_app _ rfl (.tmp 109) (.tmp 111) 32 rfl w.heap.size 49 i0 (.agg #[.int .i64 0, .int .i64 0, .string ⟨#[]⟩]) 3 32 Try.underlying32 hi hz0 hz1 hz2 rfl (by decide) _ l.length (l.flatMap frE) rfl (own3.out.alloc _) ⟨w3.heap.size, 0, none⟩ 1 1 [.int .i64 (kn : Int), .int .i64 (fn : Int), .string ⟨B.toArray⟩] rfl rfl ?c1 ?c2 ?c3 ?c4 ?c5 ?_)
            case c1 => exact news_at w3 w3.heap.size rfl _ _
            case c2 => intro u hu; simp at hu; rcases hu with rfl | rfl | rfl <;> rfl
            case c3 => unfold maxLen; omega
            case c4 => omega
            case c5 => have := hx3.out.size; simp; omega
            intro v' w4 hown4 hg _
            have own4 : w4.ownsRow w.heap.size 49 3 v' (l.length + 1) ((l ++ [Fm.mk kn fn B]).flatMap frE) := by rw [flat_snoc]; exact hown4
            have hx4 : Fr [] w w4 := ((HR.out.trans hx3.out (by simp)).alloc _).app (own3.out.alloc _) (Nat.le_refl _) hg
            have hb4 := grown_blk hg (blk_old hb3.out _) (own_ne own3.out hb3.out (by decide))
            obtain ⟨A4, cp4, rfl⟩ := own_shape own4
            replace own4 := Lib.hid own4
            replace hx4 := Lib.hid hx4
            replace hb4 := Lib.hid hb4
            clear hown4 hg c0 c1 c2 g0 g1 g2
            obtain ⟨⟨c0, c1, c2⟩, ⟨g0, g1, g2⟩, hlb4⟩ := blk3_facts hb4.out
            go_wp2
            go_region_held3 (fun w' => w'.cell? ⟨wr.heap.size, 0, none⟩ = some (.int .i64 (kn : Int)) ∧ w'.cell? ⟨wr.heap.size, 1, none⟩ = some (.int .i64 (fn : Int)) ∧ w'.cell? ⟨wr.heap.size, 2, none⟩ = some (.string ⟨B.toArray⟩)) (first | exact ⟨gx.cell c0 (by simp), gx.cell c1 (by simp), gx.cell c2 (by simp)⟩ | exact ⟨c0, c1, c2⟩) (first
              | (go_at_call 20; refine (ftext_any kn fn B _ (by omega) (by omega) (by omega)).mono ?_; rintro _ z1 ⟨rfl, q1⟩; rw [hF.out]; have gx : Fr [] w4 z1 := (by (first | exact (Fr.refl [] w4).drew.trans q1 (by simp) | exact Fr.trans (by assumption) q1 (by simp))))
              | (go_at_call 26; refine (rftext_any kn fn B _ (by omega) (by omega) (by omega)).mono ?_; rintro _ z1 ⟨rfl, q1⟩; rw [hF.out]; have gx : Fr [] w4 z1 := (by (first | exact (Fr.refl [] w4).drew.trans q1 (by simp) | exact Fr.trans (by assumption) q1 (by simp)))))
            all_goals
              go_wp2
              rw [ByteArray.mk_append_mk]
              go_roundw
              case rel =>
                have hcat : catB (l ++ [Fm.mk kn fn B]) = catB l ++ FB := by rw [← HFB.out]; simp [catB]
                refine ⟨k + 1, l ++ [Fm.mk kn fn B], by go_num, by omega, by omega, by simp; omega, by rw [hcat], ?_, ?_, ?_, ?_⟩
                · exact congrArg (Value.int .i64) (by have hv4 := var_len4 B.length; have hfo := hFl.out; rw [hcat, List.length_append, hFl.out]; unfold wrap64; omega)
                · intro x hx
                  rcases List.mem_append.1 hx with hx | hx
                  · exact HO.out x hx
                  · rw [List.mem_singleton.1 hx]; exact hok2.out
                · rw [List.length_append]; exact own_fr gx own4.out (by simp)
                · exact hx4.out.trans gx (by simp)
              case measure => simp [intOf]; omega
          · have hck' : chk xk xf = false := by simpa using hck
            have C1 := fun W => check_any xk xf W (by omega) (by omega)
            have C2 := fun W => rcheck_any xk xf W (by omega) (by omega)
            rw [chkE_no _ _ hck'] at C1
            rw [hck'] at C2
            replace C1 := Lib.hid C1
            replace C2 := Lib.hid C2
            clear hck hck'
            go_quiet (first | (go_at_call 23; exact qsame (C1.out _)) | (go_at_call 24; exact qsame (C2.out _)))
            go_wp2_with (go_at_call 24; refine (C2.out _).mono ?_; rintro _ w1 ⟨rfl, rfl⟩)
            all_goals
              go_roundw
              case rel => exact ⟨k + 1, l, by go_num, by omega, by omega, by omega, rfl, rfl, HO.out, own_fr (Hbx.out.drewN _) HW.out (by simp), (HR.out.trans Hbx.out (by simp)).drewN _⟩
              case measure => simp [intOf]; omega
      · skip
        go_wp2_with fail
        refine (fnew_any 1000 _).mono ?_
        rintro _ x1 ⟨rfl, h1, q1⟩
        go_wp2_with fail
        refine (feed_any wr.heap.size 1000 [] (catB l) 0 _ h1 (by simp; omega)).mono ?_
        rintro _ x2 ⟨rfl, h2, q2⟩
        rw [if_pos rfl, List.nil_append] at h2
        have z1 := q1.size
        have z2 := q2.size
        have fr2 := (HR.out.trans q1 (by simp)).trans q2 (by intro x hx h; simp at h; omega)
        have own2 := own_fr q2 (own_fr q1 HW.out (by simp)) (by intro g hg h; simp at h; subst h; exact absurd (HW.out.lt _ hg).2 (by omega))
        replace fr2 := Lib.hid fr2
        replace own2 := Lib.hid own2
        clear q1 q2 h1
        go_wp2_with fail
        refine (all_any wr.heap.size 1000 (catB l) 0 (.slice none 0 0) [] w.heap.size _ h2 (World.ownsRow_nil _ _ _ _) (by omega) (by omega) (by simp)).mono ?_
        rintro _ x3 ⟨v, rfl, ho3, h3, q3, _⟩
        rw [allR_back 400 l [] (by omega) HO.out] at ho3 h3 ⊢
        rw [List.nil_append] at ho3 h3 ⊢
        dsimp only at ho3 h3 ⊢
        have fr3 := fr2.out.trans q3 (by intro x hx h; simp [Value.ownBlock] at h; omega)
        have own3 := own_fr q3 own2.out (by intro g hg h; simp [Value.ownBlock] at h; subst h; exact absurd hg (own_ne own2.out h2.blk (by decide)))
        have V1 := Lib.hid (own_view ho3)
        have V2 := Lib.hid (own_view own3)
        obtain ⟨A1, cp1, rfl⟩ := own_shape ho3
        replace fr3 := Lib.hid fr3
        clear q3 own3 ho3 h2
        go_wp2_with fail
        refine (same5_any _ _ l l _ V1.out V2.out (by omega) (by omega)).mono ?_
        rintro _ x4 ⟨rfl, q4⟩
        rw [sameI, if_pos rfl]
        have h4 := h3.fr q4 (by simp)
        have fr4 := fr3.out.trans q4 (by simp)
        replace fr4 := Lib.hid fr4
        clear q4 h3
        go_wp2_with fail
        refine (waits_any wr.heap.size _ _ _ _ h4).mono ?_
        rintro _ x5 ⟨rfl, rfl⟩
        go_wp2
        go_ret
        exact ⟨rfl, fr4.out⟩
    · skip
      go_wp2_with fail
      refine (fnew_any 1000 _).mono ?_
      rintro _ x1 ⟨rfl, h1, q1⟩
      go_wp2_with fail
      refine (feed_any wr.heap.size 1000 [] (catB l) 0 _ h1 (by simp; omega)).mono ?_
      rintro _ x2 ⟨rfl, h2, q2⟩
      rw [if_pos rfl, List.nil_append] at h2
      have z1 := q1.size
      have z2 := q2.size
      have fr2 := (HR.out.trans q1 (by simp)).trans q2 (by intro x hx h; simp at h; omega)
      have own2 := own_fr q2 (own_fr q1 HW.out (by simp)) (by intro g hg h; simp at h; subst h; exact absurd (HW.out.lt _ hg).2 (by omega))
      replace fr2 := Lib.hid fr2
      replace own2 := Lib.hid own2
      clear q1 q2 h1
      go_wp2_with fail
      refine (all_any wr.heap.size 1000 (catB l) 0 (.slice none 0 0) [] w.heap.size _ h2 (World.ownsRow_nil _ _ _ _) (by omega) (by omega) (by simp)).mono ?_
      rintro _ x3 ⟨v, rfl, ho3, h3, q3, _⟩
      rw [allR_back 400 l [] (by omega) HO.out] at ho3 h3 ⊢
      rw [List.nil_append] at ho3 h3 ⊢
      dsimp only at ho3 h3 ⊢
      have fr3 := fr2.out.trans q3 (by intro x hx h; simp [Value.ownBlock] at h; omega)
      have own3 := own_fr q3 own2.out (by intro g hg h; simp [Value.ownBlock] at h; subst h; exact absurd hg (own_ne own2.out h2.blk (by decide)))
      have V1 := Lib.hid (own_view ho3)
      have V2 := Lib.hid (own_view own3)
      obtain ⟨A1, cp1, rfl⟩ := own_shape ho3
      replace fr3 := Lib.hid fr3
      clear q3 own3 ho3 h2
      go_wp2_with fail
      refine (same5_any _ _ l l _ V1.out V2.out (by omega) (by omega)).mono ?_
      rintro _ x4 ⟨rfl, q4⟩
      rw [sameI, if_pos rfl]
      have h4 := h3.fr q4 (by simp)
      have fr4 := fr3.out.trans q4 (by simp)
      replace fr4 := Lib.hid fr4
      clear q4 h3
      go_wp2_with fail
      refine (waits_any wr.heap.size _ _ _ _ h4).mono ?_
      rintro _ x5 ⟨rfl, rfl⟩
      go_wp2
      go_ret
      exact ⟨rfl, fr4.out⟩
end Go.Proofs.Ytlnlolhihodgoaa
