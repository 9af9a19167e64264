/- What each method of octet.In does, called on a reader that stands in a block of its own: what is handed back, what is left, the first error ('Rd'); nothing else turns. Conditions: numbers within their kinds. -/
import Derived.Test.YthioageiebchlaaProg
import Derived.Test.YthioageiebchlaaBase
import Derived.Test.YthioageiebchlaaPure
namespace Go.Proofs.Ythioageiebchlaa
open Go.RowKit

/-- A reader stands in block b. -/
def InAt (w : World) (b : Nat) (r : Rd) : Prop := w.heap[b]? = some (.cells #[.string ⟨r.s.toArray⟩, .int .i64 r.e] 112 (0, 0))
theorem InAt.facts {w : World} {b : Nat} {r : Rd} (h : InAt w b r) : w.cell? ⟨b, 0, none⟩ = some (.string ⟨r.s.toArray⟩) ∧ w.cell? ⟨b, 1, none⟩ = some (.int .i64 r.e) ∧ w.frozen? ⟨b, 0, none⟩ = false ∧ w.frozen? ⟨b, 1, none⟩ = false ∧ b < w.heap.size :=
  ⟨blk_cell h 0, blk_cell h 1, blk_frozen h 0, blk_frozen h 1, blk_lt h⟩
theorem InAt.set0 {w : World} {b : Nat} {r : Rd} (h : InAt w b r) (s : List UInt8) : InAt (w.setCell ⟨b, 0, none⟩ (.string ⟨s.toArray⟩)) b ⟨s, r.e⟩ := blk_set h 0 _
theorem InAt.set1 {w : World} {b : Nat} {r : Rd} (h : InAt w b r) (e : Int) : InAt (w.setCell ⟨b, 1, none⟩ (.int .i64 e)) b ⟨r.s, e⟩ := blk_set h 1 _
theorem InAt.fr {S : List Nat} {w w' : World} {b : Nat} {r : Rd} (h : InAt w b r) (hf : Fr S w w') (hb : b ∉ S) : InAt w' b r := hf.blk h hb


theorem over_any (s : List UInt8) (w : World) :
    Calls Try.prog 59 #[.string ⟨s.toArray⟩] w fun e w' => e = .returned (.pointer (some ⟨w.heap.size, 0, none⟩)) ∧ InAt w' w.heap.size ⟨s, 0⟩ ∧ Fr [] w w' := by
  go_enter Try.func59, Try.ntmps59
  go_wp2
  go_ret
  exact ⟨rfl, blk_new _ _, (Fr.refl _ _).alloc _⟩
theorem err_any (b : Nat) (r : Rd) (w : World) (h : InAt w b r) :
    Calls Try.prog 35 #[.pointer (some ⟨b, 0, none⟩)] w fun e w' => e = .returned (.int .i64 r.e) ∧ w = w' := by
  obtain ⟨c0, c1, f0, f1, hb⟩ := h.facts
  clear h
  go_enter Try.func35, Try.ntmps35
  go_wp2
  go_ret
  exact ⟨rfl, rfl⟩
theorem left_any (b : Nat) (r : Rd) (w : World) (h : InAt w b r) :
    Calls Try.prog 34 #[.pointer (some ⟨b, 0, none⟩)] w fun e w' => e = .returned (.int .i64 r.s.length) ∧ w = w' := by
  obtain ⟨c0, c1, f0, f1, hb⟩ := h.facts
  clear h
  go_enter Try.func34, Try.ntmps34
  go_wp2
  go_ret
  exact ⟨rfl, rfl⟩
theorem fail_any (b : Nat) (r : Rd) (x : Int) (w : World) (h : InAt w b r) :
    Calls Try.prog 38 #[.pointer (some ⟨b, 0, none⟩), .int .i64 x] w fun e w' => e = .returned (.tuple #[]) ∧ InAt w' b (r.fail x) ∧ Fr [b] w w' := by
  obtain ⟨c0, c1, f0, f1, hb⟩ := h.facts
  go_enter Try.func38, Try.ntmps38
  by_cases he : r.e = 0
  · have h1 : (r.e == 0) = true := by simpa using he
    clear he
    go_wp2
    go_end0
    refine ⟨rfl, ?_, (Fr.refl _ _).setCell (by simp) _⟩
    rw [Rd.fail, if_pos (by simpa using h1)]; exact h.set1 _
  · have h1 : (r.e == 0) = false := by simpa using he
    go_wp2
    go_end0
    refine ⟨rfl, ?_, Fr.refl _ _⟩
    rw [Rd.fail, if_neg he]; exact h
theorem raw_any (b : Nat) (r : Rd) (n : Int) (w : World) (h : InAt w b r) (hs : r.s.length ≤ 9223372036854775807) :
    Calls Try.prog 64 #[.pointer (some ⟨b, 0, none⟩), .int .i64 n] w fun e w' => e = .returned (.string ⟨(r.raw n.toNat).1.toArray⟩) ∧ InAt w' b (r.raw n.toNat).2 ∧ Fr [b] w w' := by
  obtain ⟨c0, c1, f0, f1, hb⟩ := h.facts
  have H := Lib.hid h
  clear h
  by_cases he : r.e = 0
  · have h1 : (r.e == 0) = true := by simpa using he
    have h2 : (r.e != 0) = false := by simpa using he
    have He := Lib.hid he
    clear he
    by_cases hn : n < 0
    · have hl : n.toNat ≤ r.s.length := by omega
      go_enter Try.func64, Try.ntmps64
      go_wp2
      go_ret
      rw [Rd.raw_ok r _ He.out hl, show n.toNat = 0 from by omega]
      simp only [ex_take, List.take_length, List.take_zero, List.drop_zero]
      have k := H.out.set0 r.s
      rw [He.out] at k
      exact ⟨rfl, k, (Fr.refl _ _).setCell (by simp) _⟩
    · by_cases hl : (r.s.length : Int) < n
      · go_enter Try.func64, Try.ntmps64
        go_wp2
        go_ret
        rw [Rd.raw_end r _ He.out (by omega)]
        exact ⟨rfl, H.out.set1 1, (Fr.refl _ _).setCell (by simp) _⟩
      · go_enter Try.func64, Try.ntmps64
        go_wp2
        go_ret
        rw [Rd.raw_ok r _ He.out (by omega), ex_take, ex_drop _ _ _ (Nat.le_refl _)]
        have k := H.out.set0 (r.s.drop n.toNat)
        rw [He.out] at k
        exact ⟨rfl, k, (Fr.refl _ _).setCell (by simp) _⟩
  · have h1 : (r.e == 0) = false := by simpa using he
    have h2 : (r.e != 0) = true := by simpa using he
    rw [Rd.raw_bad r _ he]
    by_cases hn : n < 0
    · go_enter Try.func64, Try.ntmps64
      go_wp2
      go_ret
      exact ⟨rfl, H.out, Fr.refl _ _⟩
    · by_cases hl : (r.s.length : Int) < n
      all_goals
        go_enter Try.func64, Try.ntmps64
        go_wp2
        go_ret
        exact ⟨rfl, H.out, Fr.refl _ _⟩
theorem rest_any (b : Nat) (r : Rd) (w : World) (h : InAt w b r) (hs : r.s.length ≤ 9223372036854775807) :
    Calls Try.prog 52 #[.pointer (some ⟨b, 0, none⟩)] w fun e w' => e = .returned (.string ⟨(r.raw r.s.length).1.toArray⟩) ∧ InAt w' b (r.raw r.s.length).2 ∧ Fr [b] w w' := by
  obtain ⟨c0, c1, f0, f1, hb⟩ := h.facts
  go_enter Try.func52, Try.ntmps52
  go_wp2_with (go_at_call 64; refine (raw_any b r r.s.length w h hs).mono ?_; rintro e w1 ⟨rfl, h1, hf⟩)
  go_ret
  exact ⟨rfl, h1, hf⟩
theorem byte_ofs (b : Nat) (r : Rd) (w : World) (h : InAt w b r) (hs : r.s.length ≤ 9223372036854775807) :
    Calls Try.prog 37 #[.pointer (some ⟨b, 0, none⟩)] w fun e w' => e = .returned (.int .u8 (r.num 1).1) ∧ InAt w' b (r.num 1).2 ∧ Fr [b] w w' := by
  go_enter Try.func37, Try.ntmps37
  go_wp2_with fail
  refine (raw_any b r 1 w h hs).mono ?_
  rintro e w1 ⟨rfl, h1, hf⟩
  have hl := r.raw_len 1
  obtain ⟨⟨l, q⟩, hq⟩ : ∃ q, r.raw 1 = q := ⟨_, rfl⟩
  rw [show (1 : Int).toNat = 1 from rfl] at *
  rw [hq] at h1 hl ⊢
  have Hq := Lib.hid hq
  clear hq
  match l, hl, Hq with
  | [], _, Hq =>
    go_wp2
    go_ret
    rw [Rd.num, Hq.out]
    exact ⟨rfl, h1, hf⟩
  | [c], _, Hq =>
    go_wp2
    go_ret
    rw [Rd.num, Hq.out]
    exact ⟨ret_int (by simp [beN]; rfl), h1, hf⟩
theorem number_any (b : Nat) (r : Rd) (n : Int) (w : World) (h : InAt w b r) (hs : r.s.length ≤ 9223372036854775807) (h0 : 0 ≤ n) (h4 : n ≤ 4) :
    Calls Try.prog 79 #[.pointer (some ⟨b, 0, none⟩), .int .i64 n] w fun e w' => e = .returned (.int .u32 (r.num n.toNat).1) ∧ InAt w' b (r.num n.toNat).2 ∧ Fr [b] w w' := by
  have hcv := fun (s : ByteArray) (W : World) => Lib.run_convert_string_bytes (P := Try.prog) W 9 31 5 s Try.underlying9 Try.underlying31 Try.underlying5
  go_enter Try.func79, Try.ntmps79
  go_wp2_with fail
  refine (raw_any b r n w h hs).mono ?_
  rintro e w1 ⟨rfl, h1, hf⟩
  have hl := r.raw_len n.toNat
  obtain ⟨⟨l, q⟩, hq⟩ : ∃ q, r.raw n.toNat = q := ⟨_, rfl⟩
  rw [hq] at h1 hl ⊢
  have Hq := Lib.hid hq
  clear hq
  have hl4 : l.length ≤ 4 := by simp at hl; omega
  go_wp2
  obtain ⟨w2, hw2⟩ : ∃ w2, Lib.bytesWorld w1 5 ⟨l.toArray⟩ = w2 := ⟨_, rfl⟩
  rw [hw2]
  have hc : ∀ k, k < l.length → w2.cell? ⟨w1.heap.size, k, none⟩ = some (.int .u8 ((l.getD k 0).toNat : Int)) := by
    intro k hk
    rw [← hw2]; exact Lib.bytesWorld_cell _ _ _ _ hk
  have HC := Lib.hid hc
  have HW := Lib.hid hw2
  clear hc hw2
  go_loop [5, 13] (fun v i => ∃ k : Nat, k ≤ l.length ∧ i = .int .i64 k ∧ v = .int .u32 (beN (l.take k) : Int)) (fun _ i => l.length - (intOf i).toNat)
  case atStart => exact ⟨0, by omega, rfl, rfl⟩
  case round =>
    obtain ⟨k, hk, rfl, rfl⟩ := hrel
    by_cases hlt : k < l.length
    · have hck := HC.out k hlt
      have hv := beN_lt (l.take k)
      have hb2 : beN (l.take k) < 16777216 := by
        refine Nat.lt_of_lt_of_le hv ?_
        have hl3 : (l.take k).length ≤ 3 := by simp; omega
        exact Nat.le_trans (Nat.pow_le_pow_right (by omega) hl3) (by decide)
      clear hv
      have hbt : l[k].toNat < 256 := l[k].toNat_lt
      have HS := Lib.hid (beN_snoc l k hlt)
      have HO := Lib.hid (or_u32 8 ((beN (l.take k) : Int) * 256) (l[k].toNat : Int) (by decide) (by omega) (by omega) (by omega) (by omega) (by omega))
      go_wp2
      go_round
      case rel => exact ⟨k + 1, by omega, by go_num, by rw [HO.out, HS.out]; rfl⟩
      case measure => simp [intOf]; omega
    · go_wp2
      go_ret
      rw [Rd.num, Hq.out]
      have e : l.take k = l := List.take_of_length_le (by omega)
      refine ⟨ret_int (by rw [e]), ?_, ?_⟩
      · rw [← HW.out]
        have hb1 := blk_lt h1
        refine h1.fr (Fr.of_below ?_ []) (by simp)
        exact (Below.refl _ _).trans ⟨rfl, rfl, rfl, by rw [Lib.bytesWorld_size]; omega, fun i hi => Lib.bytesWorld_at_old _ _ _ i hi⟩
      · rw [← HW.out]
        exact hf.trans (T := []) ⟨rfl, rfl, rfl, by rw [Lib.bytesWorld_size]; omega, fun i hi _ => Lib.bytesWorld_at_old _ _ _ i hi⟩ (by simp)
theorem byte_any (b : Nat) (r : Rd) (w : World) (h : InAt w b r) (hs : r.s.length ≤ 9223372036854775807) :
    Calls Try.prog 37 #[.pointer (some ⟨b, 0, none⟩)] w fun e w' => e = .returned (.int .u8 (r.num 1).1) ∧ InAt w' b (r.num 1).2 ∧ Fr [b] w w' := byte_ofs b r w h hs
theorem intwo_any (b : Nat) (r : Rd) (w : World) (h : InAt w b r) (hs : r.s.length ≤ 9223372036854775807) :
    Calls Try.prog 60 #[.pointer (some ⟨b, 0, none⟩)] w fun e w' => e = .returned (.int .u32 (r.num 2).1) ∧ InAt w' b (r.num 2).2 ∧ Fr [b] w w' := by
  go_enter Try.func60, Try.ntmps60
  go_wp2_with fail
  refine (number_any b r 2 w h hs (by decide) (by decide)).mono ?_
  rintro e w1 ⟨rfl, h1, hf⟩
  go_wp2
  go_ret
  exact ⟨rfl, h1, hf⟩
theorem infour_any (b : Nat) (r : Rd) (w : World) (h : InAt w b r) (hs : r.s.length ≤ 9223372036854775807) :
    Calls Try.prog 99 #[.pointer (some ⟨b, 0, none⟩)] w fun e w' => e = .returned (.int .u32 (r.num 4).1) ∧ InAt w' b (r.num 4).2 ∧ Fr [b] w w' := by
  go_enter Try.func99, Try.ntmps99
  go_wp2_with fail
  refine (number_any b r 4 w h hs (by decide) (by decide)).mono ?_
  rintro e w1 ⟨rfl, h1, hf⟩
  go_wp2
  go_ret
  exact ⟨rfl, h1, hf⟩
theorem indata_any (b : Nat) (r : Rd) (w : World) (h : InAt w b r) (hs : r.s.length ≤ 9223372036854775807) :
    Calls Try.prog 62 #[.pointer (some ⟨b, 0, none⟩)] w fun e w' => e = .returned (.string ⟨r.data.1.toArray⟩) ∧ InAt w' b r.data.2 ∧ Fr [b] w w' := by
  have hn : (r.num 2).1 < 256 ^ 2 := r.num_lt 2
  have hl : (r.num 2).2.s.length ≤ r.s.length := r.raw_left 2
  go_enter Try.func62, Try.ntmps62
  go_wp2_with fail
  refine (intwo_any b r w h hs).mono ?_
  rintro e w1 ⟨rfl, h1, hf⟩
  go_wp2_with fail
  refine (raw_any b _ _ w1 h1 (by omega)).mono ?_
  rintro e w2 ⟨rfl, h2, hf2⟩
  rw [Int.toNat_natCast] at h2 ⊢
  go_wp2
  go_ret
  exact ⟨rfl, h2, hf.trans hf2 (by simp)⟩
/-- What holds at the label of 'Var': k bytes are behind. -/
def VarJ (b : Nat) (r : Rd) (w : World) (a' : Act) (w' : World) : Prop :=
  ∃ (k v : Nat) (q : Rd) (u1 u2 u5 u6 u7 u8 u9 u10 u11 u12 u13 u14 u15 u16 u17 u18 u19 u20 u21 u22 u23 u24 u25 u26 u27 u28 u29 u30 u31 u32 u33 u34 u35 u36 u37 u38 u39 u40 u41 u42 u43 : Value), a' = { tmps := #[.pointer (some ⟨b, 0, none⟩), u1, u2, .int .u32 v, .int .i64 (7 * (k : Int)), u5, u6, u7, u8, u9, u10, u11, u12, u13, u14, u15, u16, u17, u18, u19, u20, u21, u22, u23, u24, u25, u26, u27, u28, u29, u30, u31, u32, u33, u34, u35, u36, u37, u38, u39, u40, u41, u42, u43], defers := [] } ∧
    k ≤ 3 ∧ v < 128 ^ k ∧ q.varGo (128 ^ k) v (3 - k) = r.var ∧ InAt w' b q ∧ Fr [b] w w' ∧ q.s.length ≤ 9223372036854775807
def varM (a' : Act) (_ : World) : Nat := 28 - (intOf (a'.tmps.getD 4 undef)).toNat
theorem varGo_bad (u v j : Nat) (q q1 : Rd) (c : Nat) (h : q.num 1 = (c, q1)) (he : q1.e ≠ 0) : q.varGo u v j = (0, q1) := by
  cases j <;> simp [Rd.varGo, h, he]
theorem varGo_on (u v j : Nat) (q q1 : Rd) (c : Nat) (h : q.num 1 = (c, q1)) (he : q1.e = 0) (hc : 128 ≤ c) : q.varGo u v (j + 1) = q1.varGo (u * 128) (v + c % 128 * u) j := by
  rw [Rd.varGo.eq_def]; simp [h, he, show ¬ c < 128 from by omega]
theorem varGo_long (u v : Nat) (q q1 : Rd) (c : Nat) (h : q.num 1 = (c, q1)) (he : q1.e = 0) (hc : 128 ≤ c) : q.varGo u v 0 = (0, ⟨q1.s, 2⟩) := by
  simp [Rd.varGo, h, he, show ¬ c < 128 from by omega]
theorem varGo_zero (u v j : Nat) (q q1 : Rd) (h : q.num 1 = (0, q1)) (he : q1.e = 0) (hu : 1 < u) : q.varGo u v j = (0, ⟨q1.s, 2⟩) := by
  cases j <;> simp [Rd.varGo, h, he, hu]
theorem varGo_last (u v j : Nat) (q q1 : Rd) (c : Nat) (h : q.num 1 = (c, q1)) (he : q1.e = 0) (hc : c < 128) (hu : c = 0 → u = 1) : q.varGo u v j = (v + c * u, q1) := by
  have : ¬ (c = 0 ∧ 1 < u) := fun ⟨a, b⟩ => by have := hu a; omega
  cases j <;> simp [Rd.varGo, h, he, hc, this]
theorem var_step (k v c : Nat) (hk : k ≤ 3) (hv : v < 128 ^ k) (hc : c < 256) : bits .or .u32 (v : Int) (bits .and .u8 (c : Int) 127 % 4294967296 * 2 ^ (7 * k) % 4294967296) = ((v + c % 128 * 128 ^ k : Nat) : Int) ∧ v + c % 128 * 128 ^ k < 128 ^ (k + 1) := by
  rw [and_u8 7 c 127 (by decide) (by decide) (by omega) (by omega)]
  match k, hk with
  | 0, _ =>
    have : v = 0 := by simpa using hv
    subst this
    have := or_u32 0 ((c : Int) % 128) 0 (by decide) (by omega) (by omega) (by omega) (by omega) (by omega)
    rw [bits_or_comm]
    constructor
    · rw [show ((c : Int) % 2 ^ 7 % 4294967296 * 2 ^ (7 * 0) % 4294967296) = (c : Int) % 128 from by omega]
      rw [show ((0 : Nat) : Int) = 0 from rfl, this]; omega
    · omega
  | 1, _ =>
    constructor
    · rw [bits_or_comm, or_u32 7 _ _ (by decide) (by omega) (by omega) (by omega) (by omega) (by omega)]; omega
    · omega
  | 2, _ =>
    constructor
    · rw [bits_or_comm, or_u32 14 _ _ (by decide) (by omega) (by omega) (by omega) (by omega) (by omega)]; omega
    · omega
  | 3, _ =>
    constructor
    · rw [bits_or_comm, or_u32 21 _ _ (by decide) (by omega) (by omega) (by omega) (by omega) (by omega)]; omega
    · omega
set_option maxHeartbeats 1000000 in
theorem invar_any (b : Nat) (r : Rd) (w : World) (h : InAt w b r) (hs : r.s.length ≤ 9223372036854775807) :
    Calls Try.prog 80 #[.pointer (some ⟨b, 0, none⟩)] w fun e w' => e = .returned (.int .u32 r.var.1) ∧ InAt w' b r.var.2 ∧ Fr [b] w w' := by
  go_enter Try.func80, Try.ntmps80
  go_wp2
  refine wp_scope_back 0 (VarJ b r w) varM rfl ?_ ?_
  · rintro a' w' ⟨k, v, q, u1, u2, u5, u6, u7, u8, u9, u10, u11, u12, u13, u14, u15, u16, u17, u18, u19, u20, u21, u22, u23, u24, u25, u26, u27, u28, u29, u30, u31, u32, u33, u34, u35, u36, u37, u38, u39, u40, u41, u42, u43, rfl, hk, hv, hq, hi, hf, hl⟩
    have hc := q.num_lt 1
    go_wp2_with fail
    refine (byte_any b q w' hi hl).mono ?_
    rintro e w1 ⟨rfl, hi1, hf1⟩
    obtain ⟨⟨c, q1⟩, hq1⟩ : ∃ x, q.num 1 = x := ⟨_, rfl⟩
    have hl1 : q1.s.length ≤ 9223372036854775807 := by have := q.raw_left 1; rw [show (q.raw 1).2 = q1 from congrArg Prod.snd hq1] at this; omega
    rw [hq1] at hi1 hc ⊢
    have Hq := Lib.hid hq
    have Hq1 := Lib.hid hq1
    clear hq hq1
    obtain ⟨c0, c1, f0, f1, hb⟩ := hi1.facts
    simp only at hc c0 c1
    have Hi := Lib.hid hi1
    have Hff := Lib.hid (hf.trans hf1 (by simp))
    clear hf hf1 hi hi1
    have HV := Lib.hid (var_step k v c hk hv (by omega))
    have hkI : (k : Int) ≤ 3 := by omega
    by_cases he : q1.e = 0
    · have h1 : (q1.e == 0) = true := by simpa using he
      have h2 : (q1.e != 0) = false := by simpa using he
      have He := Lib.hid he
      clear he
      by_cases hc1 : 127 < (c : Int)
      · by_cases hk3 : k < 3
        · go_wp2
          go_step3
          simp only [Exit.inBlock, Exit.then]
          rw [HV.out.1, show 7 * (k : Int) + 7 = 7 * ((k + 1 : Nat) : Int) from by omega]
          refine ⟨rfl, ⟨k + 1, v + c % 128 * 128 ^ k, q1, _, _, _, _, _, _, _, _, _, _, _, _, _, _, _, _, _, _, _, _, _, _, _, _, _, _, _, _, _, _, _, _, _, _, _, _, _, _, _, _, _, rfl, by omega, HV.out.2, ?_, Hi.out, Hff.out, hl1⟩, ?_⟩
          · rw [← Hq.out, show 3 - k = (3 - (k + 1)) + 1 from by omega, varGo_on _ _ _ _ _ _ Hq1.out He.out (by omega), Nat.pow_succ]
          · simp [varM, intOf]; omega
        · go_wp2
          simp only [Exit.jump]
          go_ret
          have hk3' : k = 3 := by omega
          subst hk3'
          rw [← Hq.out, varGo_long _ _ _ _ _ Hq1.out He.out (by omega)]
          exact ⟨rfl, Hi.out.set1 2, Hff.out.setCell (by simp) _⟩
      · by_cases hc0 : (c : Int) = 0
        · by_cases hk0 : k < 1
          · obtain rfl : k = 0 := by omega
            obtain rfl : c = 0 := by omega
            obtain rfl : v = 0 := by simpa using hv
            go_wp2
            simp only [Exit.jump]
            go_ret
            rw [← Hq.out, varGo_last _ _ _ _ _ _ Hq1.out He.out (by omega) (by simp)]
            exact ⟨rfl, Hi.out, Hff.out⟩
          · obtain rfl : c = 0 := by omega
            go_wp2
            simp only [Exit.jump]
            go_ret
            rw [← Hq.out, varGo_zero _ _ _ _ _ Hq1.out He.out (Nat.lt_of_lt_of_le (by decide) (Nat.pow_le_pow_right (n := 128) (by decide) (show 1 ≤ k by omega)))]
            exact ⟨rfl, Hi.out.set1 2, Hff.out.setCell (by simp) _⟩
        · go_wp2
          simp only [Exit.jump]
          go_ret
          rw [← Hq.out, varGo_last _ _ _ _ _ _ Hq1.out He.out (by omega) (by omega)]
          have e := HV.out.1
          rw [show c % 128 = c from by omega] at e
          exact ⟨ret_int e, Hi.out, Hff.out⟩
    · have h1 : (q1.e == 0) = false := by simpa using he
      have h2 : (q1.e != 0) = true := by simpa using he
      go_wp2
      simp only [Exit.jump]
      go_ret
      rw [← Hq.out, varGo_bad _ _ _ _ _ _ Hq1.out he]
      exact ⟨rfl, Hi.out, Hff.out⟩
  · intro hp
    go_wp2
    go_step3
    simp only [Exit.then]
    rename_i hK
    refine hK _ _ ?_
    refine hp _ _ ⟨0, 0, r, _, _, _, _, _, _, _, _, _, _, _, _, _, _, _, _, _, _, _, _, _, _, _, _, _, _, _, _, _, _, _, _, _, _, _, _, _, _, _, _, _, rfl, by decide, by decide, rfl, h, Fr.refl _ _, hs⟩
theorem end_any (b : Nat) (r : Rd) (w : World) (h : InAt w b r) :
    Calls Try.prog 39 #[.pointer (some ⟨b, 0, none⟩)] w fun e w' => e = .returned (.int .i64 r.ends) ∧ w = w' := by
  obtain ⟨c0, c1, f0, f1, hb⟩ := h.facts
  clear h
  go_enter Try.func39, Try.ntmps39
  go_wp2
  all_goals
    go_ret
    refine ⟨ret_int ?_, rfl⟩
    simp_all [Rd.ends]
end Go.Proofs.Ythioageiebchlaa
namespace Go.Proofs.Ythioageiebchlaa
open Go.RowKit

/-- A gatherer stands in block b, its bytes l in block o (none yet: o is b). -/
def OutAt (w : World) (b o : Nat) (l : List UInt8) : Prop :=
  ∃ v, w.heap[b]? = some (.cells #[v] 118 (0, 0)) ∧ w.ownsRow 0 5 1 v l.length (bytesV l) ∧ ((v = .slice none 0 0 ∧ o = b) ∨ (v.ownBlock = some o ∧ o ≠ b))
theorem OutAt.fr {S : List Nat} {w w' : World} {b o : Nat} {l : List UInt8} (h : OutAt w b o l) (hf : Fr S w w') (hb : b ∉ S) (ho : o ∉ S) : OutAt w' b o l := by
  obtain ⟨v, h1, h2, h3⟩ := h
  refine ⟨v, hf.blk h1 hb, own_fr hf h2 ?_, h3⟩
  intro k hk
  rcases h3 with ⟨rfl, _⟩ | ⟨h3, _⟩
  · simp [Value.ownBlock] at hk
  · rw [hk] at h3; cases h3; exact ho
theorem OutAt.lt {w : World} {b o : Nat} {l : List UInt8} (h : OutAt w b o l) : b < w.heap.size ∧ o < w.heap.size := by
  obtain ⟨v, h1, h2, h3⟩ := h
  refine ⟨blk_lt h1, ?_⟩
  rcases h3 with ⟨_, rfl⟩ | ⟨h3, _⟩
  · exact blk_lt h1
  · exact (h2.lt o h3).2
theorem OutAt.new (w : World) : OutAt (w.alloc (.cells #[.slice none 0 0] 118)) w.heap.size w.heap.size [] :=
  ⟨_, blk_new _ _, World.ownsRow_nil _ _ _ _, Or.inl ⟨rfl, rfl⟩⟩
/-- Behind a call on a gatherer. -/
def OutTo (w w' : World) (b o : Nat) (l : List UInt8) : Prop := ∃ o', OutAt w' b o' l ∧ (o' = o ∨ w.heap.size ≤ o') ∧ Fr [b, o] w w'
theorem OutTo.refl {w : World} {b o : Nat} {l : List UInt8} (h : OutAt w b o l) : OutTo w w b o l := ⟨o, h, Or.inl rfl, Fr.refl _ _⟩
theorem OutTo.step {w w1 w2 : World} {b o o1 : Nat} {l : List UInt8} (ho : o1 = o ∨ w.heap.size ≤ o1) (hf : Fr [b, o] w w1) (h : OutTo w1 w2 b o1 l) : OutTo w w2 b o l := by
  obtain ⟨o2, h2, ho2, hf2⟩ := h
  refine ⟨o2, h2, ?_, hf.trans hf2 ?_⟩
  · have := hf.size
    rcases ho2 with rfl | ho2
    · exact ho
    · omega
  · intro x hx
    simp
    rcases ho with rfl | ho
    · exact id
    · omega

theorem Try.infoU8 : (Try.prog.info? 5).map (fun i => (i.zero, i.size, i.bytes)) = some (some (.int .u8 0), 1, 1) := by kernel_rfl

/-- The stores' end: a row that has grown, laid back into the gatherer. -/
theorem out_stored {w w0 w1 : World} {b o : Nat} {v v' : Value} {l m : List UInt8} (hb : w.heap[b]? = some (.cells #[v] 118 (0, 0))) (hv : (v = .slice none 0 0 ∧ o = b) ∨ (v.ownBlock = some o ∧ o ≠ b))
    (h0 : Fr [] w w0) (hown : w1.ownsRow 0 5 1 v' (l.length + m.length) (bytesV l ++ bytesV m)) (hg : w0.grownBy w1 v.ownBlock) (hf : Fresh w0 v v') : OutTo w (w1.setCell ⟨b, 0, none⟩ v') b o (l ++ m) := by
  have hbl := blk_lt hb
  have hsz := h0.size
  have hob : v.ownBlock ≠ some b := by
    rcases hv with ⟨rfl, _⟩ | ⟨h, hne⟩
    · simp [Value.ownBlock]
    · rw [h]; simpa using hne
  have hf1 : Fr [b, o] w w1 := by
    refine (h0.mono (T := [b, o]) (by simp)).grown hg ?_
    intro k hk
    rcases hv with ⟨rfl, _⟩ | ⟨h, hne⟩
    · simp [Value.ownBlock] at hk
    · rw [h] at hk; cases hk; right; simp
  have hb1 : w1.heap[b]? = some (.cells #[v] 118 (0, 0)) := by
    rw [hg.block b (by omega) (Ne.symm hob)]; exact h0.blk hb (by simp)
  have hb2 := blk_set hb1 0 v'
  have hown' : w1.ownsRow 0 5 1 v' (l ++ m).length (bytesV (l ++ m)) := by rw [List.length_append, bytesV_append]; exact hown
  have hne' : some b ≠ v'.ownBlock := by
    rcases hf with hf | ⟨g, hf, hgs⟩
    · rw [hf]; exact Ne.symm hob
    · rw [hf]; simp; omega
  cases hv' : v'.ownBlock with
  | none =>
    have hv0 : v' = .slice none 0 0 := by
      rcases hown.2 with h | ⟨g, cap, cur, rfl, _⟩
      · exact h.1
      · simp [Value.ownBlock] at hv'
    have hvn : v.ownBlock = none := by
      rcases hf with hf | ⟨g, hf, _⟩
      · rw [← hf]; exact hv'
      · rw [hf] at hv'; cases hv'
    have hob2 : o = b := by
      rcases hv with ⟨_, h⟩ | ⟨h, _⟩
      · exact h
      · rw [h] at hvn; cases hvn
    refine ⟨b, ⟨v', hb2, own_set hown' hne' _, Or.inl ⟨hv0, rfl⟩⟩, Or.inl hob2.symm, hf1.setCell (by simp) _⟩
  | some g =>
    refine ⟨g, ⟨v', hb2, own_set hown' hne' _, Or.inr ⟨hv', ?_⟩⟩, ?_, hf1.setCell (by simp) _⟩
    · rintro rfl; exact hne' hv'.symm
    · rcases hf with hf | ⟨g', hf, hgs⟩
      · rw [hf] at hv'
        rcases hv with ⟨rfl, h⟩ | ⟨h, _⟩
        · simp [Value.ownBlock] at hv'
        · rw [h] at hv'; cases hv'; exact Or.inl rfl
      · rw [hf] at hv'; cases hv'; right; omega

theorem out_facts {w : World} {b o : Nat} {v : Value} (hb : w.heap[b]? = some (.cells #[v] 118 (0, 0))) (hv : (v = .slice none 0 0 ∧ o = b) ∨ (v.ownBlock = some o ∧ o ≠ b))
    {w0 w1 : World} (h0 : Fr [] w w0) (hg : w0.grownBy w1 v.ownBlock) : w1.cell? ⟨b, 0, none⟩ = some v ∧ w1.frozen? ⟨b, 0, none⟩ = false := by
  have hb1 : w1.heap[b]? = some (.cells #[v] 118 (0, 0)) := by
    rw [hg.block b (by have := h0.size; have := blk_lt hb; omega) ?_]
    · exact h0.blk hb (by simp)
    · rcases hv with ⟨rfl, _⟩ | ⟨h, hne⟩
      · simp [Value.ownBlock]
      · rw [h]; simpa using (Ne.symm hne)
  exact ⟨blk_cell hb1 0, blk_frozen hb1 0⟩
theorem outbyte_any (b o : Nat) (l : List UInt8) (c : Int) (w : World) (h : OutAt w b o l) (h0 : 0 ≤ c) (h1 : c < 256) (hl : l.length < 70368744177664) :
    Calls Try.prog 43 #[.pointer (some ⟨b, 0, none⟩), .int .u8 c] w fun e w' => e = .returned (.pointer (some ⟨b, 0, none⟩)) ∧ OutTo w w' b o (l ++ [b8 c.toNat]) := by
  obtain ⟨i0, hi, hz0, hz1, hz2⟩ := info_parts Try.infoU8
  obtain ⟨v, hb, hown, hv⟩ := h
  have c0 : w.cell? ⟨b, 0, none⟩ = some v := blk_cell hb 0
  have f0 : w.frozen? ⟨b, 0, none⟩ = false := blk_frozen hb 0
  have hbl := blk_lt hb
  have Hb := Lib.hid hb
  have Hv := Lib.hid hv
  clear hb hv
  obtain ⟨A, cp, rfl⟩ := own_shape hown
  go_enter Try.func43, Try.ntmps43
  go_wp2_with (at_builtin; refine wpl_app _ rfl (.tmp 9) (.tmp 11) 31 rfl 0 5 i0 (.int .u8 0) 1 1 Try.underlying31 hi hz0 hz1 hz2 rfl (by decide) _ l.length (bytesV l) rfl (hown.alloc _) ⟨w.heap.size, 0, none⟩ 1 1 [.int .u8 c] rfl rfl ?c1 ?c2 ?c3 ?c4 (Nat.zero_le _) ?_)
  case c1 => intro j u hj; match j, hj with | 0, hj => simp at hj; subst hj; simp [Addr.add]
  case c2 => intro u hu; simp at hu; subst hu; rfl
  case c3 => unfold maxLen; omega
  case c4 => omega
  intro v' w1 hown1 hg hfr
  obtain ⟨k0, f1⟩ := out_facts Hb.out Hv.out ((Fr.refl [] w).alloc _) hg
  obtain ⟨A', cp', rfl⟩ := own_shape hown1
  have H1 := Lib.hid hown1
  have H2 := Lib.hid hg
  have H3 := Lib.hid hfr
  clear hown1 hg hfr
  go_wp2
  go_ret
  refine ⟨rfl, out_stored (m := [b8 c.toNat]) Hb.out Hv.out ((Fr.refl [] w).alloc _) ?_ H2.out H3.out⟩
  have e : bytesV [b8 c.toNat] = [.int .u8 c] := by
    simp [bytesV, b8, UInt8.toNat_ofNat']; omega
  rw [e]
  exact H1.out
theorem outraw_any (b o : Nat) (l s : List UInt8) (w : World) (h : OutAt w b o l) (hl : l.length + s.length ≤ 70368744177664) :
    Calls Try.prog 50 #[.pointer (some ⟨b, 0, none⟩), .string ⟨s.toArray⟩] w fun e w' => e = .returned (.pointer (some ⟨b, 0, none⟩)) ∧ OutTo w w' b o (l ++ s) := by
  obtain ⟨i0, hi, hz0, hz1, hz2⟩ := info_parts Try.infoU8
  obtain ⟨v, hb, hown, hv⟩ := h
  have c0 : w.cell? ⟨b, 0, none⟩ = some v := blk_cell hb 0
  have f0 : w.frozen? ⟨b, 0, none⟩ = false := blk_frozen hb 0
  have hbl := blk_lt hb
  have Hb := Lib.hid hb
  have Hv := Lib.hid hv
  clear hb hv
  obtain ⟨A, cp, rfl⟩ := own_shape hown
  go_enter Try.func50, Try.ntmps50
  go_wp2_with (at_builtin; refine wpl_app_str _ rfl (.tmp 9) (.tmp 10) 31 9 rfl 0 5 i0 Try.underlying31 Try.underlying9 hi hz0 hz1 hz2 _ l.length (bytesV l) rfl hown s rfl ?c3 ?c4 (Nat.zero_le _) ?_)
  case c3 => unfold maxLen; omega
  case c4 => omega
  intro v' w1 hown1 hg hfr
  obtain ⟨k0, f1⟩ := out_facts Hb.out Hv.out (Fr.refl [] w) hg
  obtain ⟨A', cp', rfl⟩ := own_shape hown1
  have H1 := Lib.hid hown1
  have H2 := Lib.hid hg
  have H3 := Lib.hid hfr
  clear hown1 hg hfr
  go_wp2
  go_ret
  exact ⟨rfl, out_stored (m := s) Hb.out Hv.out (Fr.refl [] w) H1.out H2.out H3.out⟩
theorem outlen_any (b o : Nat) (l : List UInt8) (w : World) (h : OutAt w b o l) :
    Calls Try.prog 89 #[.pointer (some ⟨b, 0, none⟩)] w fun e w' => e = .returned (.int .i64 l.length) ∧ w = w' := by
  obtain ⟨v, hb, hown, hv⟩ := h
  have c0 : w.cell? ⟨b, 0, none⟩ = some v := blk_cell hb 0
  clear hb hv
  obtain ⟨A, cp, rfl⟩ := own_shape hown
  go_enter Try.func89, Try.ntmps89
  go_wp2
  go_ret
  exact ⟨rfl, rfl⟩
theorem own_bytes_string {P : Program} {w : World} {base : Nat} {src dst e : TypeId} {v : Value} {l : List UInt8} (h : w.ownsRow base e 1 v l.length (bytesV l)) (hs : P.underlying src = some (.slice e)) (he : P.underlying e = some (.int .u8)) (hd : P.underlying dst = some .string) :
    (convert src dst v).run P w = .ok (.string ⟨l.toArray⟩) w := by
  rcases h.2 with ⟨rfl, hn⟩ | ⟨g, cap, cur, rfl, _⟩
  · have : l = [] := List.eq_nil_of_length_eq_zero hn
    subst this
    exact run_convert_bytes_nil w src e hs he 0 0 dst hd
  · have hc := h.cells (g := g) rfl
    have hr := run_convert_bytes_arg (P := P) w src e hs he g 0 l.length cap (l.map fun c => (c.toNat : Int)) (by simp) (by
      intro i hi
      have := hc i (.int .u8 ((l.getD i 0).toNat : Int)) (by simp [bytesV, List.getElem?_eq_getElem hi, List.getD])
      have hadd : (⟨g, 0, none⟩ : Addr).add i = ⟨g, 0 + i, none⟩ := by unfold Addr.add; split <;> simp_all
      rw [hadd] at this
      rw [this]
      simp [List.getD, List.getElem?_eq_getElem hi]) dst hd
    rw [hr]
    congr 2
    apply ByteArray.ext
    apply Array.ext'
    rw [strOfNums_data]
    simp only [List.map_map]
    exact map_b8 l
theorem outtext_any (b o : Nat) (l : List UInt8) (w : World) (h : OutAt w b o l) :
    Calls Try.prog 44 #[.pointer (some ⟨b, 0, none⟩)] w fun e w' => e = .returned (.string ⟨l.toArray⟩) ∧ w = w' := by
  obtain ⟨v, hb, hown, hv⟩ := h
  have c0 : w.cell? ⟨b, 0, none⟩ = some v := blk_cell hb 0
  clear hb hv
  have hcv := own_bytes_string (P := Try.prog) hown Try.underlying31 Try.underlying5 Try.underlying9
  obtain ⟨A, cp, rfl⟩ := own_shape hown
  clear hown
  go_enter Try.func44, Try.ntmps44
  go_wp2
  go_ret
  exact ⟨rfl, rfl⟩
theorem outtwo_any (b o : Nat) (l : List UInt8) (n : Int) (w : World) (h : OutAt w b o l) (h0 : 0 ≤ n) (h1 : n < 4294967296) (hl : l.length < 70368744177663) :
    Calls Try.prog 65 #[.pointer (some ⟨b, 0, none⟩), .int .u32 n] w fun e w' => e = .returned (.pointer (some ⟨b, 0, none⟩)) ∧ OutTo w w' b o (l ++ two n.toNat) := by
  go_enter Try.func65, Try.ntmps65
  go_wp2_with fail
  refine (outbyte_any b o l _ w h (by omega) (by omega) (by omega)).mono ?_
  rintro e w1 ⟨rfl, o1, h2, ho1, hf1⟩
  go_wp2_with fail
  refine (outbyte_any b o1 _ _ w1 h2 (by omega) (by omega) (by simp; omega)).mono ?_
  rintro e w2 ⟨rfl, h3⟩
  go_wp2
  go_ret
  refine ⟨rfl, OutTo.step ho1 hf1 ?_⟩
  have e : l ++ [b8 (n / 256 % 256).toNat] ++ [b8 (n % 256).toNat] = l ++ two n.toNat := by
    rw [List.append_assoc]
    simp only [two, List.cons_append, List.nil_append]
    rw [b8_eq (show (n / 256 % 256).toNat % 256 = n.toNat / 256 % 256 by omega), b8_eq (show (n % 256).toNat % 256 = n.toNat % 256 by omega)]
  rw [← e]
  exact h3
theorem outfour_any (b o : Nat) (l : List UInt8) (n : Int) (w : World) (h : OutAt w b o l) (h0 : 0 ≤ n) (h1 : n < 4294967296) (hl : l.length < 70368744177661) :
    Calls Try.prog 101 #[.pointer (some ⟨b, 0, none⟩), .int .u32 n] w fun e w' => e = .returned (.pointer (some ⟨b, 0, none⟩)) ∧ OutTo w w' b o (l ++ four n.toNat) := by
  go_enter Try.func101, Try.ntmps101
  go_wp2_with fail
  refine (outtwo_any b o l _ w h (by omega) (by omega) (by omega)).mono ?_
  rintro e w1 ⟨rfl, o1, h2, ho1, hf1⟩
  go_wp2_with fail
  refine (outtwo_any b o1 _ _ w1 h2 (by omega) (by omega) (by simp [two]; omega)).mono ?_
  rintro e w2 ⟨rfl, h3⟩
  go_wp2
  go_ret
  refine ⟨rfl, OutTo.step ho1 hf1 ?_⟩
  rw [four, ← List.append_assoc, show n.toNat / 65536 = (n / 65536).toNat from by omega]
  exact h3
theorem two_len (n : Nat) : (two n).length = 2 := rfl
theorem outdata_any (b o : Nat) (l s : List UInt8) (w : World) (h : OutAt w b o l) (hs : s.length ≤ 9223372036854775807) (hl : l.length < 70368744100000) :
    Calls Try.prog 42 #[.pointer (some ⟨b, 0, none⟩), .string ⟨s.toArray⟩] w fun e w' => e = .returned (.pointer (some ⟨b, 0, none⟩)) ∧ OutTo w w' b o (l ++ dataB s) := by
  by_cases hb : (65535 : Int) < s.length
  · have ht : (s.take 65535).length = 65535 := by rw [List.length_take]; omega
    go_enter Try.func42, Try.ntmps42
    go_wp2_with fail
    rw [show min 65535 s.length = 65535 from by omega]
    refine (outtwo_any b o l _ w h (by omega) (by omega) (by omega)).mono ?_
    rintro e w1 ⟨rfl, o1, h2, ho1, hf1⟩
    go_wp2_with fail
    rw [ex_take]
    refine (outraw_any b o1 _ _ w1 h2 (by rw [List.length_append, ht, two_len]; omega)).mono ?_
    rintro e w2 ⟨rfl, h3⟩
    go_wp2
    go_ret
    refine ⟨rfl, OutTo.step ho1 hf1 ?_⟩
    rw [dataB, ht, ← List.append_assoc]
    exact h3
  · have ht : s.take 65535 = s := List.take_of_length_le (by omega)
    go_enter Try.func42, Try.ntmps42
    go_wp2_with fail
    refine (outtwo_any b o l _ w h (by omega) (by omega) (by omega)).mono ?_
    rintro e w1 ⟨rfl, o1, h2, ho1, hf1⟩
    go_wp2_with fail
    rw [ex_take, List.take_length]
    refine (outraw_any b o1 _ _ w1 h2 (by rw [List.length_append, two_len]; omega)).mono ?_
    rintro e w2 ⟨rfl, h3⟩
    go_wp2
    go_ret
    refine ⟨rfl, OutTo.step ho1 hf1 ?_⟩
    rw [dataB, ht, ← List.append_assoc]
    exact h3
/-- What holds at the label of 'Var': j more bytes may come. -/
def OVarJ (b o : Nat) (l : List UInt8) (n0 : Nat) (w : World) (a' : Act) (w' : World) : Prop :=
  ∃ (j n o' : Nat) (m : List UInt8) (u2 u3 u4 u5 u6 u7 u8 u9 u10 u11 u12 u13 u14 u15 u16 u17 u18 u19 u20 u21 : Value), a' = { tmps := #[.pointer (some ⟨b, 0, none⟩), .int .u32 n, u2, u3, u4, u5, u6, u7, u8, u9, u10, u11, u12, u13, u14, u15, u16, u17, u18, u19, u20, u21], defers := [] } ∧
    j ≤ 3 ∧ n < 128 ^ (j + 1) ∧ m.length + j ≤ 3 ∧ m ++ varB j n = var n0 ∧ OutAt w' b o' (l ++ m) ∧ (o' = o ∨ w.heap.size ≤ o') ∧ Fr [b, o] w w'
def oVarM (a' : Act) (_ : World) : Nat := (intOf (a'.tmps.getD 1 undef)).toNat
theorem varB_last (j n : Nat) (h : n < 128) : varB j n = [b8 n] := by
  cases j with
  | zero => simp [varB]; apply b8_eq; omega
  | succ j => simp [varB, h]
theorem varB_on (j n : Nat) (h : 128 ≤ n) : varB (j + 1) n = b8 (n % 128 + 128) :: varB j (n / 128) := by
  simp [varB, show ¬ n < 128 from by omega]
theorem ovar_step (n : Nat) (h : n < 268435456) : bits .or .u8 (bits .and .u32 (n : Int) 127 % 256) 128 = ((n % 128 + 128 : Nat) : Int) ∧ bits .and .u32 (n : Int) 127 % 256 = ((n % 128 : Nat) : Int) := by
  rw [and_u32 7 n 127 (by decide) (by decide) (by omega) (by omega)]
  constructor
  · rw [bits_or_comm, or_u8 7 _ _ (by decide) (by decide) (by decide) (by decide) (by omega) (by omega)]; omega
  · omega
set_option maxHeartbeats 1000000 in
theorem outvar_any (b o : Nat) (l : List UInt8) (n : Int) (w : World) (h : OutAt w b o l) (h0 : 0 ≤ n) (h1 : n < 4294967296) (hl : l.length < 70368744100000) :
    Calls Try.prog 88 #[.pointer (some ⟨b, 0, none⟩), .int .u32 n] w fun e w' => e = .returned (.pointer (some ⟨b, 0, none⟩)) ∧ OutTo w w' b o (l ++ var n.toNat) := by
  obtain ⟨n0, rfl⟩ := Int.eq_ofNat_of_zero_le h0
  rw [Int.toNat_natCast]
  have hvm : (if (268435455 : Int) < n0 then 268435455 else (n0 : Int)) = ((vmin n0 : Nat) : Int) := by unfold vmin; split <;> split <;> omega
  have hv : vmin n0 < 268435456 := by unfold vmin; split <;> omega
  have HV := Lib.hid hvm
  have HL := Lib.hid hv
  clear hvm hv
  go_enter Try.func88, Try.ntmps88
  go_wp2
  refine wp_scope_back 0 (OVarJ b o l n0 w) oVarM rfl ?_ ?_
  · rintro a' w' ⟨j, n, o', m, u2, u3, u4, u5, u6, u7, u8, u9, u10, u11, u12, u13, u14, u15, u16, u17, u18, u19, u20, u21, rfl, hj, hn, hm, hvar, ho, hoo, hf⟩
    have hp : 128 ^ (j + 1) ≤ 128 ^ 4 := Nat.pow_le_pow_right (by decide) (by omega)
    have hn4 : (n : Int) < 268435456 := by omega
    clear hp
    have Hvar := Lib.hid hvar
    have Hn := Lib.hid hn
    clear hvar hn
    have Hs := Lib.hid (ovar_step n (by omega))
    by_cases hz : 0 < (n : Int) / 128
    · go_wp2_with fail
      rw [Hs.out.1]
      refine (outbyte_any b o' _ _ w' ho (by omega) (by omega) (by simp; omega)).mono ?_
      rintro e w1 ⟨rfl, o1, h2, ho1, hf1⟩
      rw [Int.toNat_natCast] at h2
      have hj1 : j ≠ 0 := by
        rintro rfl
        have := Hn.out
        omega
      obtain ⟨i, rfl⟩ : ∃ i, j = i + 1 := ⟨j - 1, by omega⟩
      go_wp2
      go_step3
      simp only [Exit.then]
      rw [show (n : Int) / 128 = ((n / 128 : Nat) : Int) from by omega]
      refine ⟨rfl, ⟨i, n / 128, o1, m ++ [b8 (n % 128 + 128)], _, _, _, _, _, _, _, _, _, _, _, _, _, _, _, _, _, _, _, _, rfl, by omega, ?_, by simp; omega, ?_, by rw [← List.append_assoc]; exact h2, ?_, ?_⟩, ?_⟩
      · have := Hn.out
        rw [Nat.pow_succ] at this
        omega
      · rw [← Hvar.out, varB_on _ _ (by omega), List.append_assoc]; rfl
      · have := hf.size; omega
      · refine hf.trans hf1 ?_
        intro x hx
        simp
        rcases hoo with rfl | hoo
        · exact id
        · omega
      · simp [oVarM, intOf]; omega
    · go_wp2_with fail
      rw [Hs.out.2]
      refine (outbyte_any b o' _ _ w' ho (by omega) (by omega) (by simp; omega)).mono ?_
      rintro e w1 ⟨rfl, h2⟩
      rw [Int.toNat_natCast] at h2
      go_wp2
      simp only [Exit.jump]
      go_ret
      refine ⟨rfl, OutTo.step hoo hf ?_⟩
      rw [← Hvar.out, varB_last _ _ (by omega), ← List.append_assoc]
      rw [show n % 128 = n from by omega] at h2
      exact h2
  · intro hp
    have Hp := Lib.hid hp
    clear hp
    by_cases hbig : (268435455 : Int) < n0
    · have hv : vmin n0 = 268435455 := by have := HV.out; rw [if_pos hbig] at this; omega
      have Hv := Lib.hid hv
      clear hv
      go_wp2
      go_step3
      simp only [Exit.then]
      rename_i hK
      refine hK _ _ ?_
      exact Hp.out _ _ ⟨3, 268435455, o, [], _, _, _, _, _, _, _, _, _, _, _, _, _, _, _, _, _, _, _, _, rfl, by decide, by decide, by decide, by rw [var, Hv.out]; rfl, by simpa using h, Or.inl rfl, Fr.refl _ _⟩
    · have hv : vmin n0 = n0 := by have := HV.out; rw [if_neg hbig] at this; omega
      have Hv := Lib.hid hv
      clear hv
      go_wp2
      go_step3
      simp only [Exit.then]
      rename_i hK
      refine hK _ _ ?_
      exact Hp.out _ _ ⟨3, n0, o, [], _, _, _, _, _, _, _, _, _, _, _, _, _, _, _, _, _, _, _, _, rfl, by decide, by omega, by decide, by rw [var, Hv.out]; rfl, by simpa using h, Or.inl rfl, Fr.refl _ _⟩
end Go.Proofs.Ythioageiebchlaa
