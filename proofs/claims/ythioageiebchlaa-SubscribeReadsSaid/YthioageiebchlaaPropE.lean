/- What prop.value comes to: 'valR'. Conditions: strings that may be. -/
import Derived.Test.YthioageiebchlaaPropA
import Derived.Test.YthioageiebchlaaIn
import Derived.Test.YthioageiebchlaaWord
import Derived.Deep.DeepCutAuto
import Derived.BigQuiet
namespace Go.Proofs.Ythioageiebchlaa
open Go.RowKit

def chkR (ru : Rule) (n : Nat) (q : Rd) : Rd := if q.e = 0 ∧ (n < ru.least ∨ ru.most < n) then ⟨q.s, 3⟩ else q
/-- What a property says. -/
def valR (ru : Rule) (id : Int) (q : Rd) : Pr × Rd :=
  if ru.kind = 1 then (⟨id, (q.num 1).1, [], []⟩, chkR ru (q.num 1).1 (q.num 1).2)
  else if ru.kind = 2 then (⟨id, (q.num 2).1, [], []⟩, chkR ru (q.num 2).1 (q.num 2).2)
  else if ru.kind = 3 then (⟨id, (q.num 4).1, [], []⟩, chkR ru (q.num 4).1 (q.num 4).2)
  else if ru.kind = 4 then (⟨id, q.var.1, [], []⟩, chkR ru q.var.1 q.var.2)
  else if ru.kind = 5 then (⟨id, 0, q.str.1, []⟩, q.str.2)
  else if ru.kind = 6 then (⟨id, 0, q.data.1, []⟩, q.data.2)
  else (⟨id, 0, q.pair.1.1, q.pair.1.2⟩, q.pair.2)
def PrAt (w : World) (b : Nat) (x : Pr) : Prop := w.heap[b]? = some (.cells #[.int .i64 x.id, .int .u32 x.n, .string ⟨x.s.toArray⟩, .string ⟨x.t.toArray⟩] 116 (0, 0))
def ValTo (b pb : Nat) (P : Pr × Rd) (w : World) (e : Ending) (w' : World) : Prop := e = .returned (.tuple #[]) ∧ PrAt w' pb P.1 ∧ InAt w' b P.2 ∧ Fr [b, pb] w w'
def ruleArr (ru : Rule) : Value := .agg #[.int .i64 ru.kind, .int .i64 ru.inn, .int .u32 ru.least, .int .u32 ru.most, .int .i64 ru.many]
theorem num_lt1 (q : Rd) : (q.num 1).1 < 256 := by have := q.num_lt 1; omega
theorem num_lt2 (q : Rd) : (q.num 2).1 < 4294967296 := by have := q.num_lt 2; omega
theorem num_lt4 (q : Rd) : (q.num 4).1 < 4294967296 := by have := q.num_lt 4; omega
theorem var_lt32 (q : Rd) : q.var.1 < 4294967296 := Nat.lt_trans (var_lt q) (by decide)
theorem num_left' (q : Rd) (n : Nat) : (q.num n).2.s.length ≤ q.s.length := q.raw_left n
set_option maxRecDepth 100000 in
set_option maxHeartbeats 2000000 in
theorem value1_pany (b pb : Nat) (q : Rd) (ru : Rule) (id : Int) (w : World) (hi : InAt w b q) (hp : PrAt w pb ⟨id, 0, [], []⟩) (hk : ru.kind = 1) (hs : q.s.length ≤ 9223372036854775807) (hl0 : ru.least < 4294967296) (hm0 : ru.most < 4294967296) :
    Calls Try.prog 84 #[.pointer (some ⟨b, 0, none⟩), .pointer (some ⟨pb, 0, none⟩), .agg #[.int .i64 ru.kind, .int .i64 ru.inn, .int .u32 ru.least, .int .u32 ru.most, .int .i64 ru.many]] w
      (ValTo b pb (⟨id, (q.num 1).1, [], []⟩, chkR ru (q.num 1).1 (q.num 1).2) w) := by
  have hlt := num_lt1 q
  obtain ⟨k0, inn, least, most, many⟩ := ru
  dsimp only at hk
  subst hk
  have hne : b ≠ pb := blk_ne hi hp (by decide)
  obtain ⟨⟨c0, c1, c2, c3⟩, ⟨f0, f1, f2, f3⟩, hpl⟩ := blk4_facts hp
  have HI := Lib.hid (blk_old hi (.cells #[.int .i64 1, .int .i64 inn, .int .u32 least, .int .u32 most, .int .i64 many] 132))
  have HP := Lib.hid (blk_old hp (.cells #[.int .i64 1, .int .i64 inn, .int .u32 least, .int .u32 most, .int .i64 many] 132))
  have HB := Lib.hid (blk_new w (.cells #[.int .i64 1, .int .i64 inn, .int .u32 least, .int .u32 most, .int .i64 many] 132))
  have hbl := blk_lt hi
  clear hi hp
  go_enter Try.func84, Try.ntmps84
  go_wp2_with fail
  refine (byte_any b q _ HI.out hs).mono ?_
  rintro _ w1 ⟨rfl, hi1, g1⟩
  obtain ⟨⟨n, q1⟩, hq⟩ : ∃ x, q.num 1 = x := ⟨_, rfl⟩
  rw [hq] at hi1 hlt ⊢
  dsimp only at hi1 hlt ⊢
  have Hq := Lib.hid hq
  clear hq
  have hp1 : PrAt w1 pb ⟨id, 0, [], []⟩ := g1.blk HP.out (by simp; omega)
  have hbx := g1.blk HB.out (by simp; omega)
  have hff : Fr [b, pb] w w1 := ((Fr.refl [b, pb] w).alloc _).trans g1 (by intro x _ hx; simp at hx; simp [hx])
  clear c0 c1 c2 c3 f0 f1 f2 f3 g1
  obtain ⟨⟨c0, c1, c2, c3⟩, ⟨f0, f1, f2, f3⟩, hpl1⟩ := blk4_facts hp1
  have HI1 := Lib.hid (show InAt (w1.setCell ⟨pb, 1, none⟩ (.int .u32 n)) b q1 from blk_far hi1 hne _)
  have HP1 := Lib.hid (show PrAt (w1.setCell ⟨pb, 1, none⟩ (.int .u32 n)) pb ⟨id, n, [], []⟩ from blk_set hp1 1 _)
  have HB1 := Lib.hid (blk_far (p := ⟨pb, 1, none⟩) hbx (by simp; omega) (.int .u32 n))
  have HF1 := Lib.hid (hff.setCell (p := ⟨pb, 1, none⟩) (Or.inr (by simp)) (.int .u32 n))
  clear hi1 hp1 hbx hff
  have hn2 : (n : Int) % 4294967296 = n := by omega
  go_upto_region 16 with (fail)
  clear c0 c1 c2 c3 f0 f1 f2 f3
  obtain ⟨w2, hw2⟩ : ∃ w2, w1.setCell ⟨pb, 1, none⟩ (.int .u32 n) = w2 := ⟨_, rfl⟩
  rw [hw2] at HI1 HP1 HB1 HF1 ⊢
  clear hw2
  obtain ⟨⟨c0, c1, c2, c3⟩, ⟨f0, f1, f2, f3⟩, _⟩ := blk4_facts HP1.out
  have b0 := blk_cell HB1.out 0
  have b2 := blk_cell HB1.out 2
  have b3 := blk_cell HB1.out 3
  by_cases he : q1.e = 0
  · have t1 : (q1.e == 0) = true := by simpa using he
    have He := Lib.hid he
    clear he
    by_cases h1 : n < least
    · have d1 : (n : Int) < (least : Int) := by omega
      have HC := Lib.hid (show chkR ⟨1, inn, least, most, many⟩ n q1 = ⟨q1.s, 3⟩ from if_pos ⟨He.out, Or.inl h1⟩)
      go_quiet ((go_at_call 35; exact qsame (err_any _ _ _ (by exact HI1.out))))
      go_wp2_with fail
      refine (fail_any b q1 3 _ (show InAt (w2.drewN nq) b q1 from HI1.out)).mono ?_
      rintro _ w3 ⟨rfl, hi3, g3⟩
      rw [show q1.fail 3 = ⟨q1.s, 3⟩ from if_pos He.out] at hi3
      have hp3 := g3.blk (b := pb) (show (w2.drewN nq).heap[pb]? = _ from HP1.out) (by simp; omega)
      have hf3 := (HF1.out.drewN nq).trans g3 (by intro x _ hx; simp at hx; simp [hx])
      go_wp2
      go_end0
      rw [Hq.out]
      dsimp only
      rw [HC.out]
      exact ⟨rfl, hp3, hi3, hf3⟩
    have d1 : ¬ (n : Int) < (least : Int) := by omega
    by_cases h2 : most < n
    · have d2 : (most : Int) < (n : Int) := by omega
      have HC := Lib.hid (show chkR ⟨1, inn, least, most, many⟩ n q1 = ⟨q1.s, 3⟩ from if_pos ⟨He.out, Or.inr h2⟩)
      go_quiet ((go_at_call 35; exact qsame (err_any _ _ _ (by exact HI1.out))))
      go_wp2_with fail
      refine (fail_any b q1 3 _ (show InAt (w2.drewN nq) b q1 from HI1.out)).mono ?_
      rintro _ w3 ⟨rfl, hi3, g3⟩
      rw [show q1.fail 3 = ⟨q1.s, 3⟩ from if_pos He.out] at hi3
      have hp3 := g3.blk (b := pb) (show (w2.drewN nq).heap[pb]? = _ from HP1.out) (by simp; omega)
      have hf3 := (HF1.out.drewN nq).trans g3 (by intro x _ hx; simp at hx; simp [hx])
      go_wp2
      go_end0
      rw [Hq.out]
      dsimp only
      rw [HC.out]
      exact ⟨rfl, hp3, hi3, hf3⟩
    · have d2 : ¬ (most : Int) < (n : Int) := by omega
      have HC := Lib.hid (show chkR ⟨1, inn, least, most, many⟩ n q1 = q1 from if_neg (fun h => by rcases h with ⟨_, h | h⟩ <;> (dsimp only at h; omega)))
      go_quiet ((go_at_call 35; exact qsame (err_any _ _ _ (by exact HI1.out))))
      go_wp2
      go_end0
      rw [Hq.out]
      dsimp only
      rw [HC.out]
      exact ⟨rfl, show PrAt (w2.drewN nq) pb _ from HP1.out, show InAt (w2.drewN nq) b _ from HI1.out, HF1.out.drewN nq⟩
  · have t1 : (q1.e == 0) = false := by simpa using he
    have HC := Lib.hid (show chkR ⟨1, inn, least, most, many⟩ n q1 = q1 from if_neg (fun h => he h.1))
    clear he
    go_quiet ((go_at_call 35; exact qsame (err_any _ _ _ (by exact HI1.out))))
    go_wp2
    go_end0
    rw [Hq.out]
    dsimp only
    rw [HC.out]
    exact ⟨rfl, show PrAt (w2.drewN nq) pb _ from HP1.out, show InAt (w2.drewN nq) b _ from HI1.out, HF1.out.drewN nq⟩
set_option maxRecDepth 100000 in
set_option maxHeartbeats 2000000 in
theorem value2_pany (b pb : Nat) (q : Rd) (ru : Rule) (id : Int) (w : World) (hi : InAt w b q) (hp : PrAt w pb ⟨id, 0, [], []⟩) (hk : ru.kind = 2) (hs : q.s.length ≤ 9223372036854775807) (hl0 : ru.least < 4294967296) (hm0 : ru.most < 4294967296) :
    Calls Try.prog 84 #[.pointer (some ⟨b, 0, none⟩), .pointer (some ⟨pb, 0, none⟩), .agg #[.int .i64 ru.kind, .int .i64 ru.inn, .int .u32 ru.least, .int .u32 ru.most, .int .i64 ru.many]] w
      (ValTo b pb (⟨id, (q.num 2).1, [], []⟩, chkR ru (q.num 2).1 (q.num 2).2) w) := by
  have hlt := num_lt2 q
  obtain ⟨k0, inn, least, most, many⟩ := ru
  dsimp only at hk
  subst hk
  have hne : b ≠ pb := blk_ne hi hp (by decide)
  obtain ⟨⟨c0, c1, c2, c3⟩, ⟨f0, f1, f2, f3⟩, hpl⟩ := blk4_facts hp
  have HI := Lib.hid (blk_old hi (.cells #[.int .i64 2, .int .i64 inn, .int .u32 least, .int .u32 most, .int .i64 many] 132))
  have HP := Lib.hid (blk_old hp (.cells #[.int .i64 2, .int .i64 inn, .int .u32 least, .int .u32 most, .int .i64 many] 132))
  have HB := Lib.hid (blk_new w (.cells #[.int .i64 2, .int .i64 inn, .int .u32 least, .int .u32 most, .int .i64 many] 132))
  have hbl := blk_lt hi
  clear hi hp
  go_enter Try.func84, Try.ntmps84
  go_wp2_with fail
  refine (intwo_any b q _ HI.out hs).mono ?_
  rintro _ w1 ⟨rfl, hi1, g1⟩
  obtain ⟨⟨n, q1⟩, hq⟩ : ∃ x, q.num 2 = x := ⟨_, rfl⟩
  rw [hq] at hi1 hlt ⊢
  dsimp only at hi1 hlt ⊢
  have Hq := Lib.hid hq
  clear hq
  have hp1 : PrAt w1 pb ⟨id, 0, [], []⟩ := g1.blk HP.out (by simp; omega)
  have hbx := g1.blk HB.out (by simp; omega)
  have hff : Fr [b, pb] w w1 := ((Fr.refl [b, pb] w).alloc _).trans g1 (by intro x _ hx; simp at hx; simp [hx])
  clear c0 c1 c2 c3 f0 f1 f2 f3 g1
  obtain ⟨⟨c0, c1, c2, c3⟩, ⟨f0, f1, f2, f3⟩, hpl1⟩ := blk4_facts hp1
  have HI1 := Lib.hid (show InAt (w1.setCell ⟨pb, 1, none⟩ (.int .u32 n)) b q1 from blk_far hi1 hne _)
  have HP1 := Lib.hid (show PrAt (w1.setCell ⟨pb, 1, none⟩ (.int .u32 n)) pb ⟨id, n, [], []⟩ from blk_set hp1 1 _)
  have HB1 := Lib.hid (blk_far (p := ⟨pb, 1, none⟩) hbx (by simp; omega) (.int .u32 n))
  have HF1 := Lib.hid (hff.setCell (p := ⟨pb, 1, none⟩) (Or.inr (by simp)) (.int .u32 n))
  clear hi1 hp1 hbx hff
  have hn2 : (n : Int) % 4294967296 = n := by omega
  go_upto_region 16 with (fail)
  clear c0 c1 c2 c3 f0 f1 f2 f3
  obtain ⟨w2, hw2⟩ : ∃ w2, w1.setCell ⟨pb, 1, none⟩ (.int .u32 n) = w2 := ⟨_, rfl⟩
  rw [hw2] at HI1 HP1 HB1 HF1 ⊢
  clear hw2
  obtain ⟨⟨c0, c1, c2, c3⟩, ⟨f0, f1, f2, f3⟩, _⟩ := blk4_facts HP1.out
  have b0 := blk_cell HB1.out 0
  have b2 := blk_cell HB1.out 2
  have b3 := blk_cell HB1.out 3
  by_cases he : q1.e = 0
  · have t1 : (q1.e == 0) = true := by simpa using he
    have He := Lib.hid he
    clear he
    by_cases h1 : n < least
    · have d1 : (n : Int) < (least : Int) := by omega
      have HC := Lib.hid (show chkR ⟨2, inn, least, most, many⟩ n q1 = ⟨q1.s, 3⟩ from if_pos ⟨He.out, Or.inl h1⟩)
      go_quiet ((go_at_call 35; exact qsame (err_any _ _ _ (by exact HI1.out))))
      go_wp2_with fail
      refine (fail_any b q1 3 _ (show InAt (w2.drewN nq) b q1 from HI1.out)).mono ?_
      rintro _ w3 ⟨rfl, hi3, g3⟩
      rw [show q1.fail 3 = ⟨q1.s, 3⟩ from if_pos He.out] at hi3
      have hp3 := g3.blk (b := pb) (show (w2.drewN nq).heap[pb]? = _ from HP1.out) (by simp; omega)
      have hf3 := (HF1.out.drewN nq).trans g3 (by intro x _ hx; simp at hx; simp [hx])
      go_wp2
      go_end0
      rw [Hq.out]
      dsimp only
      rw [HC.out]
      exact ⟨rfl, hp3, hi3, hf3⟩
    have d1 : ¬ (n : Int) < (least : Int) := by omega
    by_cases h2 : most < n
    · have d2 : (most : Int) < (n : Int) := by omega
      have HC := Lib.hid (show chkR ⟨2, inn, least, most, many⟩ n q1 = ⟨q1.s, 3⟩ from if_pos ⟨He.out, Or.inr h2⟩)
      go_quiet ((go_at_call 35; exact qsame (err_any _ _ _ (by exact HI1.out))))
      go_wp2_with fail
      refine (fail_any b q1 3 _ (show InAt (w2.drewN nq) b q1 from HI1.out)).mono ?_
      rintro _ w3 ⟨rfl, hi3, g3⟩
      rw [show q1.fail 3 = ⟨q1.s, 3⟩ from if_pos He.out] at hi3
      have hp3 := g3.blk (b := pb) (show (w2.drewN nq).heap[pb]? = _ from HP1.out) (by simp; omega)
      have hf3 := (HF1.out.drewN nq).trans g3 (by intro x _ hx; simp at hx; simp [hx])
      go_wp2
      go_end0
      rw [Hq.out]
      dsimp only
      rw [HC.out]
      exact ⟨rfl, hp3, hi3, hf3⟩
    · have d2 : ¬ (most : Int) < (n : Int) := by omega
      have HC := Lib.hid (show chkR ⟨2, inn, least, most, many⟩ n q1 = q1 from if_neg (fun h => by rcases h with ⟨_, h | h⟩ <;> (dsimp only at h; omega)))
      go_quiet ((go_at_call 35; exact qsame (err_any _ _ _ (by exact HI1.out))))
      go_wp2
      go_end0
      rw [Hq.out]
      dsimp only
      rw [HC.out]
      exact ⟨rfl, show PrAt (w2.drewN nq) pb _ from HP1.out, show InAt (w2.drewN nq) b _ from HI1.out, HF1.out.drewN nq⟩
  · have t1 : (q1.e == 0) = false := by simpa using he
    have HC := Lib.hid (show chkR ⟨2, inn, least, most, many⟩ n q1 = q1 from if_neg (fun h => he h.1))
    clear he
    go_quiet ((go_at_call 35; exact qsame (err_any _ _ _ (by exact HI1.out))))
    go_wp2
    go_end0
    rw [Hq.out]
    dsimp only
    rw [HC.out]
    exact ⟨rfl, show PrAt (w2.drewN nq) pb _ from HP1.out, show InAt (w2.drewN nq) b _ from HI1.out, HF1.out.drewN nq⟩
set_option maxRecDepth 100000 in
set_option maxHeartbeats 2000000 in
theorem value3_pany (b pb : Nat) (q : Rd) (ru : Rule) (id : Int) (w : World) (hi : InAt w b q) (hp : PrAt w pb ⟨id, 0, [], []⟩) (hk : ru.kind = 3) (hs : q.s.length ≤ 9223372036854775807) (hl0 : ru.least < 4294967296) (hm0 : ru.most < 4294967296) :
    Calls Try.prog 84 #[.pointer (some ⟨b, 0, none⟩), .pointer (some ⟨pb, 0, none⟩), .agg #[.int .i64 ru.kind, .int .i64 ru.inn, .int .u32 ru.least, .int .u32 ru.most, .int .i64 ru.many]] w
      (ValTo b pb (⟨id, (q.num 4).1, [], []⟩, chkR ru (q.num 4).1 (q.num 4).2) w) := by
  have hlt := num_lt4 q
  obtain ⟨k0, inn, least, most, many⟩ := ru
  dsimp only at hk
  subst hk
  have hne : b ≠ pb := blk_ne hi hp (by decide)
  obtain ⟨⟨c0, c1, c2, c3⟩, ⟨f0, f1, f2, f3⟩, hpl⟩ := blk4_facts hp
  have HI := Lib.hid (blk_old hi (.cells #[.int .i64 3, .int .i64 inn, .int .u32 least, .int .u32 most, .int .i64 many] 132))
  have HP := Lib.hid (blk_old hp (.cells #[.int .i64 3, .int .i64 inn, .int .u32 least, .int .u32 most, .int .i64 many] 132))
  have HB := Lib.hid (blk_new w (.cells #[.int .i64 3, .int .i64 inn, .int .u32 least, .int .u32 most, .int .i64 many] 132))
  have hbl := blk_lt hi
  clear hi hp
  go_enter Try.func84, Try.ntmps84
  go_wp2_with fail
  refine (infour_any b q _ HI.out hs).mono ?_
  rintro _ w1 ⟨rfl, hi1, g1⟩
  obtain ⟨⟨n, q1⟩, hq⟩ : ∃ x, q.num 4 = x := ⟨_, rfl⟩
  rw [hq] at hi1 hlt ⊢
  dsimp only at hi1 hlt ⊢
  have Hq := Lib.hid hq
  clear hq
  have hp1 : PrAt w1 pb ⟨id, 0, [], []⟩ := g1.blk HP.out (by simp; omega)
  have hbx := g1.blk HB.out (by simp; omega)
  have hff : Fr [b, pb] w w1 := ((Fr.refl [b, pb] w).alloc _).trans g1 (by intro x _ hx; simp at hx; simp [hx])
  clear c0 c1 c2 c3 f0 f1 f2 f3 g1
  obtain ⟨⟨c0, c1, c2, c3⟩, ⟨f0, f1, f2, f3⟩, hpl1⟩ := blk4_facts hp1
  have HI1 := Lib.hid (show InAt (w1.setCell ⟨pb, 1, none⟩ (.int .u32 n)) b q1 from blk_far hi1 hne _)
  have HP1 := Lib.hid (show PrAt (w1.setCell ⟨pb, 1, none⟩ (.int .u32 n)) pb ⟨id, n, [], []⟩ from blk_set hp1 1 _)
  have HB1 := Lib.hid (blk_far (p := ⟨pb, 1, none⟩) hbx (by simp; omega) (.int .u32 n))
  have HF1 := Lib.hid (hff.setCell (p := ⟨pb, 1, none⟩) (Or.inr (by simp)) (.int .u32 n))
  clear hi1 hp1 hbx hff
  have hn2 : (n : Int) % 4294967296 = n := by omega
  go_upto_region 16 with (fail)
  clear c0 c1 c2 c3 f0 f1 f2 f3
  obtain ⟨w2, hw2⟩ : ∃ w2, w1.setCell ⟨pb, 1, none⟩ (.int .u32 n) = w2 := ⟨_, rfl⟩
  rw [hw2] at HI1 HP1 HB1 HF1 ⊢
  clear hw2
  obtain ⟨⟨c0, c1, c2, c3⟩, ⟨f0, f1, f2, f3⟩, _⟩ := blk4_facts HP1.out
  have b0 := blk_cell HB1.out 0
  have b2 := blk_cell HB1.out 2
  have b3 := blk_cell HB1.out 3
  by_cases he : q1.e = 0
  · have t1 : (q1.e == 0) = true := by simpa using he
    have He := Lib.hid he
    clear he
    by_cases h1 : n < least
    · have d1 : (n : Int) < (least : Int) := by omega
      have HC := Lib.hid (show chkR ⟨3, inn, least, most, many⟩ n q1 = ⟨q1.s, 3⟩ from if_pos ⟨He.out, Or.inl h1⟩)
      go_quiet ((go_at_call 35; exact qsame (err_any _ _ _ (by exact HI1.out))))
      go_wp2_with fail
      refine (fail_any b q1 3 _ (show InAt (w2.drewN nq) b q1 from HI1.out)).mono ?_
      rintro _ w3 ⟨rfl, hi3, g3⟩
      rw [show q1.fail 3 = ⟨q1.s, 3⟩ from if_pos He.out] at hi3
      have hp3 := g3.blk (b := pb) (show (w2.drewN nq).heap[pb]? = _ from HP1.out) (by simp; omega)
      have hf3 := (HF1.out.drewN nq).trans g3 (by intro x _ hx; simp at hx; simp [hx])
      go_wp2
      go_end0
      rw [Hq.out]
      dsimp only
      rw [HC.out]
      exact ⟨rfl, hp3, hi3, hf3⟩
    have d1 : ¬ (n : Int) < (least : Int) := by omega
    by_cases h2 : most < n
    · have d2 : (most : Int) < (n : Int) := by omega
      have HC := Lib.hid (show chkR ⟨3, inn, least, most, many⟩ n q1 = ⟨q1.s, 3⟩ from if_pos ⟨He.out, Or.inr h2⟩)
      go_quiet ((go_at_call 35; exact qsame (err_any _ _ _ (by exact HI1.out))))
      go_wp2_with fail
      refine (fail_any b q1 3 _ (show InAt (w2.drewN nq) b q1 from HI1.out)).mono ?_
      rintro _ w3 ⟨rfl, hi3, g3⟩
      rw [show q1.fail 3 = ⟨q1.s, 3⟩ from if_pos He.out] at hi3
      have hp3 := g3.blk (b := pb) (show (w2.drewN nq).heap[pb]? = _ from HP1.out) (by simp; omega)
      have hf3 := (HF1.out.drewN nq).trans g3 (by intro x _ hx; simp at hx; simp [hx])
      go_wp2
      go_end0
      rw [Hq.out]
      dsimp only
      rw [HC.out]
      exact ⟨rfl, hp3, hi3, hf3⟩
    · have d2 : ¬ (most : Int) < (n : Int) := by omega
      have HC := Lib.hid (show chkR ⟨3, inn, least, most, many⟩ n q1 = q1 from if_neg (fun h => by rcases h with ⟨_, h | h⟩ <;> (dsimp only at h; omega)))
      go_quiet ((go_at_call 35; exact qsame (err_any _ _ _ (by exact HI1.out))))
      go_wp2
      go_end0
      rw [Hq.out]
      dsimp only
      rw [HC.out]
      exact ⟨rfl, show PrAt (w2.drewN nq) pb _ from HP1.out, show InAt (w2.drewN nq) b _ from HI1.out, HF1.out.drewN nq⟩
  · have t1 : (q1.e == 0) = false := by simpa using he
    have HC := Lib.hid (show chkR ⟨3, inn, least, most, many⟩ n q1 = q1 from if_neg (fun h => he h.1))
    clear he
    go_quiet ((go_at_call 35; exact qsame (err_any _ _ _ (by exact HI1.out))))
    go_wp2
    go_end0
    rw [Hq.out]
    dsimp only
    rw [HC.out]
    exact ⟨rfl, show PrAt (w2.drewN nq) pb _ from HP1.out, show InAt (w2.drewN nq) b _ from HI1.out, HF1.out.drewN nq⟩
set_option maxRecDepth 100000 in
set_option maxHeartbeats 2000000 in
theorem value4_pany (b pb : Nat) (q : Rd) (ru : Rule) (id : Int) (w : World) (hi : InAt w b q) (hp : PrAt w pb ⟨id, 0, [], []⟩) (hk : ru.kind = 4) (hs : q.s.length ≤ 9223372036854775807) (hl0 : ru.least < 4294967296) (hm0 : ru.most < 4294967296) :
    Calls Try.prog 84 #[.pointer (some ⟨b, 0, none⟩), .pointer (some ⟨pb, 0, none⟩), .agg #[.int .i64 ru.kind, .int .i64 ru.inn, .int .u32 ru.least, .int .u32 ru.most, .int .i64 ru.many]] w
      (ValTo b pb (⟨id, (q.var).1, [], []⟩, chkR ru (q.var).1 (q.var).2) w) := by
  have hlt := var_lt32 q
  obtain ⟨k0, inn, least, most, many⟩ := ru
  dsimp only at hk
  subst hk
  have hne : b ≠ pb := blk_ne hi hp (by decide)
  obtain ⟨⟨c0, c1, c2, c3⟩, ⟨f0, f1, f2, f3⟩, hpl⟩ := blk4_facts hp
  have HI := Lib.hid (blk_old hi (.cells #[.int .i64 4, .int .i64 inn, .int .u32 least, .int .u32 most, .int .i64 many] 132))
  have HP := Lib.hid (blk_old hp (.cells #[.int .i64 4, .int .i64 inn, .int .u32 least, .int .u32 most, .int .i64 many] 132))
  have HB := Lib.hid (blk_new w (.cells #[.int .i64 4, .int .i64 inn, .int .u32 least, .int .u32 most, .int .i64 many] 132))
  have hbl := blk_lt hi
  clear hi hp
  go_enter Try.func84, Try.ntmps84
  go_wp2_with fail
  refine (invar_any b q _ HI.out hs).mono ?_
  rintro _ w1 ⟨rfl, hi1, g1⟩
  obtain ⟨⟨n, q1⟩, hq⟩ : ∃ x, q.var = x := ⟨_, rfl⟩
  rw [hq] at hi1 hlt ⊢
  dsimp only at hi1 hlt ⊢
  have Hq := Lib.hid hq
  clear hq
  have hp1 : PrAt w1 pb ⟨id, 0, [], []⟩ := g1.blk HP.out (by simp; omega)
  have hbx := g1.blk HB.out (by simp; omega)
  have hff : Fr [b, pb] w w1 := ((Fr.refl [b, pb] w).alloc _).trans g1 (by intro x _ hx; simp at hx; simp [hx])
  clear c0 c1 c2 c3 f0 f1 f2 f3 g1
  obtain ⟨⟨c0, c1, c2, c3⟩, ⟨f0, f1, f2, f3⟩, hpl1⟩ := blk4_facts hp1
  have HI1 := Lib.hid (show InAt (w1.setCell ⟨pb, 1, none⟩ (.int .u32 n)) b q1 from blk_far hi1 hne _)
  have HP1 := Lib.hid (show PrAt (w1.setCell ⟨pb, 1, none⟩ (.int .u32 n)) pb ⟨id, n, [], []⟩ from blk_set hp1 1 _)
  have HB1 := Lib.hid (blk_far (p := ⟨pb, 1, none⟩) hbx (by simp; omega) (.int .u32 n))
  have HF1 := Lib.hid (hff.setCell (p := ⟨pb, 1, none⟩) (Or.inr (by simp)) (.int .u32 n))
  clear hi1 hp1 hbx hff
  have hn2 : (n : Int) % 4294967296 = n := by omega
  go_upto_region 16 with (fail)
  clear c0 c1 c2 c3 f0 f1 f2 f3
  obtain ⟨w2, hw2⟩ : ∃ w2, w1.setCell ⟨pb, 1, none⟩ (.int .u32 n) = w2 := ⟨_, rfl⟩
  rw [hw2] at HI1 HP1 HB1 HF1 ⊢
  clear hw2
  obtain ⟨⟨c0, c1, c2, c3⟩, ⟨f0, f1, f2, f3⟩, _⟩ := blk4_facts HP1.out
  have b0 := blk_cell HB1.out 0
  have b2 := blk_cell HB1.out 2
  have b3 := blk_cell HB1.out 3
  by_cases he : q1.e = 0
  · have t1 : (q1.e == 0) = true := by simpa using he
    have He := Lib.hid he
    clear he
    by_cases h1 : n < least
    · have d1 : (n : Int) < (least : Int) := by omega
      have HC := Lib.hid (show chkR ⟨4, inn, least, most, many⟩ n q1 = ⟨q1.s, 3⟩ from if_pos ⟨He.out, Or.inl h1⟩)
      go_quiet ((go_at_call 35; exact qsame (err_any _ _ _ (by exact HI1.out))))
      go_wp2_with fail
      refine (fail_any b q1 3 _ (show InAt (w2.drewN nq) b q1 from HI1.out)).mono ?_
      rintro _ w3 ⟨rfl, hi3, g3⟩
      rw [show q1.fail 3 = ⟨q1.s, 3⟩ from if_pos He.out] at hi3
      have hp3 := g3.blk (b := pb) (show (w2.drewN nq).heap[pb]? = _ from HP1.out) (by simp; omega)
      have hf3 := (HF1.out.drewN nq).trans g3 (by intro x _ hx; simp at hx; simp [hx])
      go_wp2
      go_end0
      rw [Hq.out]
      dsimp only
      rw [HC.out]
      exact ⟨rfl, hp3, hi3, hf3⟩
    have d1 : ¬ (n : Int) < (least : Int) := by omega
    by_cases h2 : most < n
    · have d2 : (most : Int) < (n : Int) := by omega
      have HC := Lib.hid (show chkR ⟨4, inn, least, most, many⟩ n q1 = ⟨q1.s, 3⟩ from if_pos ⟨He.out, Or.inr h2⟩)
      go_quiet ((go_at_call 35; exact qsame (err_any _ _ _ (by exact HI1.out))))
      go_wp2_with fail
      refine (fail_any b q1 3 _ (show InAt (w2.drewN nq) b q1 from HI1.out)).mono ?_
      rintro _ w3 ⟨rfl, hi3, g3⟩
      rw [show q1.fail 3 = ⟨q1.s, 3⟩ from if_pos He.out] at hi3
      have hp3 := g3.blk (b := pb) (show (w2.drewN nq).heap[pb]? = _ from HP1.out) (by simp; omega)
      have hf3 := (HF1.out.drewN nq).trans g3 (by intro x _ hx; simp at hx; simp [hx])
      go_wp2
      go_end0
      rw [Hq.out]
      dsimp only
      rw [HC.out]
      exact ⟨rfl, hp3, hi3, hf3⟩
    · have d2 : ¬ (most : Int) < (n : Int) := by omega
      have HC := Lib.hid (show chkR ⟨4, inn, least, most, many⟩ n q1 = q1 from if_neg (fun h => by rcases h with ⟨_, h | h⟩ <;> (dsimp only at h; omega)))
      go_quiet ((go_at_call 35; exact qsame (err_any _ _ _ (by exact HI1.out))))
      go_wp2
      go_end0
      rw [Hq.out]
      dsimp only
      rw [HC.out]
      exact ⟨rfl, show PrAt (w2.drewN nq) pb _ from HP1.out, show InAt (w2.drewN nq) b _ from HI1.out, HF1.out.drewN nq⟩
  · have t1 : (q1.e == 0) = false := by simpa using he
    have HC := Lib.hid (show chkR ⟨4, inn, least, most, many⟩ n q1 = q1 from if_neg (fun h => he h.1))
    clear he
    go_quiet ((go_at_call 35; exact qsame (err_any _ _ _ (by exact HI1.out))))
    go_wp2
    go_end0
    rw [Hq.out]
    dsimp only
    rw [HC.out]
    exact ⟨rfl, show PrAt (w2.drewN nq) pb _ from HP1.out, show InAt (w2.drewN nq) b _ from HI1.out, HF1.out.drewN nq⟩
set_option maxRecDepth 100000 in
set_option maxHeartbeats 2000000 in
theorem value5_pany (b pb : Nat) (q : Rd) (ru : Rule) (id : Int) (w : World) (hi : InAt w b q) (hp : PrAt w pb ⟨id, 0, [], []⟩) (hk : ru.kind = 5) (hs : q.s.length ≤ 9223372036854775807) :
    Calls Try.prog 84 #[.pointer (some ⟨b, 0, none⟩), .pointer (some ⟨pb, 0, none⟩), .agg #[.int .i64 ru.kind, .int .i64 ru.inn, .int .u32 ru.least, .int .u32 ru.most, .int .i64 ru.many]] w
      (ValTo b pb (⟨id, 0, q.str.1, []⟩, q.str.2) w) := by
  obtain ⟨k0, inn, least, most, many⟩ := ru
  dsimp only at hk
  subst hk
  have hne : b ≠ pb := blk_ne hi hp (by decide)
  obtain ⟨⟨c0, c1, c2, c3⟩, ⟨f0, f1, f2, f3⟩, hpl⟩ := blk4_facts hp
  have HI := Lib.hid (blk_old hi (.cells #[.int .i64 5, .int .i64 inn, .int .u32 least, .int .u32 most, .int .i64 many] 132))
  have HP := Lib.hid (blk_old hp (.cells #[.int .i64 5, .int .i64 inn, .int .u32 least, .int .u32 most, .int .i64 many] 132))
  have HB := Lib.hid (blk_new w (.cells #[.int .i64 5, .int .i64 inn, .int .u32 least, .int .u32 most, .int .i64 many] 132))
  have hbl := blk_lt hi
  clear hi hp
  go_enter Try.func84, Try.ntmps84
  go_wp2_with fail
  refine (take_any b q _ HI.out hs).mono ?_
  rintro _ w1 ⟨rfl, hi1, g1⟩
  obtain ⟨⟨n, q1⟩, hq⟩ : ∃ x, q.str = x := ⟨_, rfl⟩
  rw [hq] at hi1 ⊢
  dsimp only at hi1 ⊢
  have Hq := Lib.hid hq
  clear hq
  have hp1 : PrAt w1 pb ⟨id, 0, [], []⟩ := g1.blk HP.out (by simp; omega)
  have hbx := g1.blk HB.out (by simp; omega)
  have hff : Fr [b, pb] w w1 := ((Fr.refl [b, pb] w).alloc _).trans g1 (by intro x _ hx; simp at hx; simp [hx])
  clear c0 c1 c2 c3 f0 f1 f2 f3 g1
  obtain ⟨⟨c0, c1, c2, c3⟩, ⟨f0, f1, f2, f3⟩, hpl1⟩ := blk4_facts hp1
  have HI1 := Lib.hid (show InAt (w1.setCell ⟨pb, 2, none⟩ (.string ⟨n.toArray⟩)) b q1 from blk_far hi1 hne _)
  have HP1 := Lib.hid (show PrAt (w1.setCell ⟨pb, 2, none⟩ (.string ⟨n.toArray⟩)) pb ⟨id, 0, n, []⟩ from blk_set hp1 2 _)
  have HB1 := Lib.hid (blk_far (p := ⟨pb, 2, none⟩) hbx (by simp; omega) (.string ⟨n.toArray⟩))
  have HF1 := Lib.hid (hff.setCell (p := ⟨pb, 2, none⟩) (Or.inr (by simp)) (.string ⟨n.toArray⟩))
  clear hi1 hp1 hbx hff
  go_upto_region 16 with (fail)
  clear c0 c1 c2 c3 f0 f1 f2 f3
  obtain ⟨w2, hw2⟩ : ∃ w2, w1.setCell ⟨pb, 2, none⟩ (.string ⟨n.toArray⟩) = w2 := ⟨_, rfl⟩
  rw [hw2] at HI1 HP1 HB1 HF1 ⊢
  clear hw2
  have b0 := blk_cell HB1.out 0
  go_quiet (fail)
  go_wp2
  go_end0
  rw [Hq.out]
  exact ⟨rfl, show PrAt (w2.drewN nq) pb _ from HP1.out, show InAt (w2.drewN nq) b _ from HI1.out, HF1.out.drewN nq⟩
set_option maxRecDepth 100000 in
set_option maxHeartbeats 2000000 in
theorem value6_pany (b pb : Nat) (q : Rd) (ru : Rule) (id : Int) (w : World) (hi : InAt w b q) (hp : PrAt w pb ⟨id, 0, [], []⟩) (hk : ru.kind = 6) (hs : q.s.length ≤ 9223372036854775807) :
    Calls Try.prog 84 #[.pointer (some ⟨b, 0, none⟩), .pointer (some ⟨pb, 0, none⟩), .agg #[.int .i64 ru.kind, .int .i64 ru.inn, .int .u32 ru.least, .int .u32 ru.most, .int .i64 ru.many]] w
      (ValTo b pb (⟨id, 0, q.data.1, []⟩, q.data.2) w) := by
  obtain ⟨k0, inn, least, most, many⟩ := ru
  dsimp only at hk
  subst hk
  have hne : b ≠ pb := blk_ne hi hp (by decide)
  obtain ⟨⟨c0, c1, c2, c3⟩, ⟨f0, f1, f2, f3⟩, hpl⟩ := blk4_facts hp
  have HI := Lib.hid (blk_old hi (.cells #[.int .i64 6, .int .i64 inn, .int .u32 least, .int .u32 most, .int .i64 many] 132))
  have HP := Lib.hid (blk_old hp (.cells #[.int .i64 6, .int .i64 inn, .int .u32 least, .int .u32 most, .int .i64 many] 132))
  have HB := Lib.hid (blk_new w (.cells #[.int .i64 6, .int .i64 inn, .int .u32 least, .int .u32 most, .int .i64 many] 132))
  have hbl := blk_lt hi
  clear hi hp
  go_enter Try.func84, Try.ntmps84
  go_wp2_with fail
  refine (indata_any b q _ HI.out hs).mono ?_
  rintro _ w1 ⟨rfl, hi1, g1⟩
  obtain ⟨⟨n, q1⟩, hq⟩ : ∃ x, q.data = x := ⟨_, rfl⟩
  rw [hq] at hi1 ⊢
  dsimp only at hi1 ⊢
  have Hq := Lib.hid hq
  clear hq
  have hp1 : PrAt w1 pb ⟨id, 0, [], []⟩ := g1.blk HP.out (by simp; omega)
  have hbx := g1.blk HB.out (by simp; omega)
  have hff : Fr [b, pb] w w1 := ((Fr.refl [b, pb] w).alloc _).trans g1 (by intro x _ hx; simp at hx; simp [hx])
  clear c0 c1 c2 c3 f0 f1 f2 f3 g1
  obtain ⟨⟨c0, c1, c2, c3⟩, ⟨f0, f1, f2, f3⟩, hpl1⟩ := blk4_facts hp1
  have HI1 := Lib.hid (show InAt (w1.setCell ⟨pb, 2, none⟩ (.string ⟨n.toArray⟩)) b q1 from blk_far hi1 hne _)
  have HP1 := Lib.hid (show PrAt (w1.setCell ⟨pb, 2, none⟩ (.string ⟨n.toArray⟩)) pb ⟨id, 0, n, []⟩ from blk_set hp1 2 _)
  have HB1 := Lib.hid (blk_far (p := ⟨pb, 2, none⟩) hbx (by simp; omega) (.string ⟨n.toArray⟩))
  have HF1 := Lib.hid (hff.setCell (p := ⟨pb, 2, none⟩) (Or.inr (by simp)) (.string ⟨n.toArray⟩))
  clear hi1 hp1 hbx hff
  go_upto_region 16 with (fail)
  clear c0 c1 c2 c3 f0 f1 f2 f3
  obtain ⟨w2, hw2⟩ : ∃ w2, w1.setCell ⟨pb, 2, none⟩ (.string ⟨n.toArray⟩) = w2 := ⟨_, rfl⟩
  rw [hw2] at HI1 HP1 HB1 HF1 ⊢
  clear hw2
  have b0 := blk_cell HB1.out 0
  go_quiet (fail)
  go_wp2
  go_end0
  rw [Hq.out]
  exact ⟨rfl, show PrAt (w2.drewN nq) pb _ from HP1.out, show InAt (w2.drewN nq) b _ from HI1.out, HF1.out.drewN nq⟩
set_option maxRecDepth 100000 in
set_option maxHeartbeats 2000000 in
theorem value7_pany (b pb : Nat) (q : Rd) (ru : Rule) (id : Int) (w : World) (hi : InAt w b q) (hp : PrAt w pb ⟨id, 0, [], []⟩) (hk : ru.kind = 7) (hs : q.s.length ≤ 9223372036854775807) :
    Calls Try.prog 84 #[.pointer (some ⟨b, 0, none⟩), .pointer (some ⟨pb, 0, none⟩), .agg #[.int .i64 ru.kind, .int .i64 ru.inn, .int .u32 ru.least, .int .u32 ru.most, .int .i64 ru.many]] w
      (ValTo b pb (⟨id, 0, q.pair.1.1, q.pair.1.2⟩, q.pair.2) w) := by
  obtain ⟨k0, inn, least, most, many⟩ := ru
  dsimp only at hk
  subst hk
  have hne : b ≠ pb := blk_ne hi hp (by decide)
  obtain ⟨⟨c0, c1, c2, c3⟩, ⟨f0, f1, f2, f3⟩, hpl⟩ := blk4_facts hp
  have HI := Lib.hid (blk_old hi (.cells #[.int .i64 7, .int .i64 inn, .int .u32 least, .int .u32 most, .int .i64 many] 132))
  have HP := Lib.hid (blk_old hp (.cells #[.int .i64 7, .int .i64 inn, .int .u32 least, .int .u32 most, .int .i64 many] 132))
  have HB := Lib.hid (blk_new w (.cells #[.int .i64 7, .int .i64 inn, .int .u32 least, .int .u32 most, .int .i64 many] 132))
  have hbl := blk_lt hi
  clear hi hp
  go_enter Try.func84, Try.ntmps84
  go_wp2_with fail
  refine (takepair_any b q _ HI.out hs).mono ?_
  rintro _ w1 ⟨rfl, hi1, g1⟩
  obtain ⟨⟨⟨n, m⟩, q1⟩, hq⟩ : ∃ x, q.pair = x := ⟨_, rfl⟩
  rw [hq] at hi1 ⊢
  dsimp only at hi1 ⊢
  have Hq := Lib.hid hq
  clear hq
  have hp1 : PrAt w1 pb ⟨id, 0, [], []⟩ := g1.blk HP.out (by simp; omega)
  have hbx := g1.blk HB.out (by simp; omega)
  have hff : Fr [b, pb] w w1 := ((Fr.refl [b, pb] w).alloc _).trans g1 (by intro x _ hx; simp at hx; simp [hx])
  clear c0 c1 c2 c3 f0 f1 f2 f3 g1
  obtain ⟨⟨c0, c1, c2, c3⟩, ⟨f0, f1, f2, f3⟩, hpl1⟩ := blk4_facts hp1
  have HI1 := Lib.hid (show InAt ((w1.setCell ⟨pb, 2, none⟩ (.string ⟨n.toArray⟩)).setCell ⟨pb, 3, none⟩ (.string ⟨m.toArray⟩)) b q1 from blk_far (blk_far hi1 hne _) hne _)
  have HP1 := Lib.hid (show PrAt ((w1.setCell ⟨pb, 2, none⟩ (.string ⟨n.toArray⟩)).setCell ⟨pb, 3, none⟩ (.string ⟨m.toArray⟩)) pb ⟨id, 0, n, m⟩ from blk_set (blk_set hp1 2 _) 3 _)
  have HB1 := Lib.hid (blk_far (p := ⟨pb, 3, none⟩) (blk_far (p := ⟨pb, 2, none⟩) hbx (by simp; omega) (.string ⟨n.toArray⟩)) (by simp; omega) (.string ⟨m.toArray⟩))
  have HF1 := Lib.hid ((hff.setCell (p := ⟨pb, 2, none⟩) (Or.inr (by simp)) (.string ⟨n.toArray⟩)).setCell (p := ⟨pb, 3, none⟩) (Or.inr (by simp)) (.string ⟨m.toArray⟩))
  clear hi1 hp1 hbx hff
  go_upto_region 16 with (fail)
  clear c0 c1 c2 c3 f0 f1 f2 f3
  obtain ⟨w2, hw2⟩ : ∃ w2, (w1.setCell ⟨pb, 2, none⟩ (.string ⟨n.toArray⟩)).setCell ⟨pb, 3, none⟩ (.string ⟨m.toArray⟩) = w2 := ⟨_, rfl⟩
  rw [hw2] at HI1 HP1 HB1 HF1 ⊢
  clear hw2
  have b0 := blk_cell HB1.out 0
  go_quiet (fail)
  go_wp2
  go_end0
  rw [Hq.out]
  exact ⟨rfl, show PrAt (w2.drewN nq) pb _ from HP1.out, show InAt (w2.drewN nq) b _ from HI1.out, HF1.out.drewN nq⟩
theorem valuep_any (b pb : Nat) (q : Rd) (ru : Rule) (id : Int) (w : World) (hi : InAt w b q) (hp : PrAt w pb ⟨id, 0, [], []⟩) (hk1 : 1 ≤ ru.kind) (hk7 : ru.kind ≤ 7) (hs : q.s.length ≤ 9223372036854775807) (hl0 : ru.least < 4294967296) (hm0 : ru.most < 4294967296) :
    Calls Try.prog 84 #[.pointer (some ⟨b, 0, none⟩), .pointer (some ⟨pb, 0, none⟩), .agg #[.int .i64 ru.kind, .int .i64 ru.inn, .int .u32 ru.least, .int .u32 ru.most, .int .i64 ru.many]] w
      (ValTo b pb (valR ru id q) w) := by
  by_cases k1 : ru.kind = 1
  · rw [show valR ru id q = _ from by unfold valR; simp only [k1]; rfl]
    exact value1_pany b pb q ru id w hi hp k1 hs hl0 hm0
  by_cases k2 : ru.kind = 2
  · rw [show valR ru id q = _ from by unfold valR; simp only [k2]; rfl]
    exact value2_pany b pb q ru id w hi hp k2 hs hl0 hm0
  by_cases k3 : ru.kind = 3
  · rw [show valR ru id q = _ from by unfold valR; simp only [k3]; rfl]
    exact value3_pany b pb q ru id w hi hp k3 hs hl0 hm0
  by_cases k4 : ru.kind = 4
  · rw [show valR ru id q = _ from by unfold valR; simp only [k4]; rfl]
    exact value4_pany b pb q ru id w hi hp k4 hs hl0 hm0
  by_cases k5 : ru.kind = 5
  · rw [show valR ru id q = _ from by unfold valR; simp only [k5]; rfl]
    exact value5_pany b pb q ru id w hi hp k5 hs
  by_cases k6 : ru.kind = 6
  · rw [show valR ru id q = _ from by unfold valR; simp only [k6]; rfl]
    exact value6_pany b pb q ru id w hi hp k6 hs
  by_cases k7 : ru.kind = 7
  · rw [show valR ru id q = _ from by unfold valR; simp only [k7]; rfl]
    exact value7_pany b pb q ru id w hi hp k7 hs
  omega
theorem ruleOf_mem (id : Int) : ruleOf id ∈ [⟨1, 65544, 0, 1, 0⟩, ⟨3, 65544, 0, 4294967295, 0⟩, ⟨5, 65544, 0, 0, 0⟩, ⟨6, 65544, 0, 0, 0⟩, ⟨4, 264, 1, 268435455, 8⟩, ⟨3, 16390, 0, 4294967295, 0⟩, ⟨5, 4, 0, 0, 0⟩, ⟨2, 4, 0, 65535, 0⟩, ⟨5, 32774, 0, 0, 0⟩, ⟨6, 32774, 0, 0, 0⟩, ⟨1, 2, 0, 1, 0⟩, ⟨3, 65536, 0, 4294967295, 0⟩, ⟨5, 16388, 0, 0, 0⟩, ⟨5, 51956, 0, 0, 0⟩, ⟨2, 6, 1, 65535, 0⟩, ⟨2, 6, 0, 65535, 0⟩, ⟨2, 8, 0, 65535, 0⟩, ⟨1, 4, 0, 1, 0⟩, ⟨7, 118782, 0, 0, 118782⟩, ⟨3, 6, 1, 4294967295, 0⟩, ⟨0, 0, 0, 0, 0⟩] := by
  unfold ruleOf
  by_cases h1 : id = 1
  · rw [if_pos h1]; simp
  rw [if_neg h1]
  by_cases h2 : id = 2
  · rw [if_pos h2]; simp
  rw [if_neg h2]
  by_cases h3 : id = 3
  · rw [if_pos h3]; simp
  rw [if_neg h3]
  by_cases h8 : id = 8
  · rw [if_pos h8]; simp
  rw [if_neg h8]
  by_cases h9 : id = 9
  · rw [if_pos h9]; simp
  rw [if_neg h9]
  by_cases h11 : id = 11
  · rw [if_pos h11]; simp
  rw [if_neg h11]
  by_cases h17 : id = 17
  · rw [if_pos h17]; simp
  rw [if_neg h17]
  by_cases h18 : id = 18
  · rw [if_pos h18]; simp
  rw [if_neg h18]
  by_cases h19 : id = 19
  · rw [if_pos h19]; simp
  rw [if_neg h19]
  by_cases h21 : id = 21
  · rw [if_pos h21]; simp
  rw [if_neg h21]
  by_cases h22 : id = 22
  · rw [if_pos h22]; simp
  rw [if_neg h22]
  by_cases h23 : id = 23
  · rw [if_pos h23]; simp
  rw [if_neg h23]
  by_cases h25 : id = 25
  · rw [if_pos h25]; simp
  rw [if_neg h25]
  by_cases h24 : id = 24
  · rw [if_pos h24]; simp
  rw [if_neg h24]
  by_cases h26 : id = 26
  · rw [if_pos h26]; simp
  rw [if_neg h26]
  by_cases h28 : id = 28
  · rw [if_pos h28]; simp
  rw [if_neg h28]
  by_cases h31 : id = 31
  · rw [if_pos h31]; simp
  rw [if_neg h31]
  by_cases h33 : id = 33
  · rw [if_pos h33]; simp
  rw [if_neg h33]
  by_cases h34 : id = 34
  · rw [if_pos h34]; simp
  rw [if_neg h34]
  by_cases h35 : id = 35
  · rw [if_pos h35]; simp
  rw [if_neg h35]
  by_cases h36 : id = 36
  · rw [if_pos h36]; simp
  rw [if_neg h36]
  by_cases h37 : id = 37
  · rw [if_pos h37]; simp
  rw [if_neg h37]
  by_cases h40 : id = 40
  · rw [if_pos h40]; simp
  rw [if_neg h40]
  by_cases h41 : id = 41
  · rw [if_pos h41]; simp
  rw [if_neg h41]
  by_cases h42 : id = 42
  · rw [if_pos h42]; simp
  rw [if_neg h42]
  by_cases h38 : id = 38
  · rw [if_pos h38]; simp
  rw [if_neg h38]
  by_cases h39 : id = 39
  · rw [if_pos h39]; simp
  rw [if_neg h39]
  simp
theorem ruleOf_cases (id : Int) : (ruleOf id).least < 4294967296 ∧ (ruleOf id).most < 4294967296 ∧ (ruleOf id).kind ≤ 7 ∧ 0 ≤ (ruleOf id).kind ∧ ((ruleOf id).inn ≠ 0 → 1 ≤ (ruleOf id).kind) := by
  have h := ruleOf_mem id
  generalize ruleOf id = r at h
  simp only [List.mem_cons, List.not_mem_nil, or_false] at h
  rcases h with rfl | rfl | rfl | rfl | rfl | rfl | rfl | rfl | rfl | rfl | rfl | rfl | rfl | rfl | rfl | rfl | rfl | rfl | rfl | rfl | rfl
  all_goals decide
end Go.Proofs.Ythioageiebchlaa
