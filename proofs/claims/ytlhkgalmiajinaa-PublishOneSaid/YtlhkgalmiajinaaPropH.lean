/- What prop.put and prop.Put come to. Conditions: strings that may be. -/
import Derived.Test.YtlhkgalmiajinaaPropE
import Derived.Test.YtlhkgalmiajinaaOut
namespace Go.Proofs.Ytlhkgalmiajinaa
open Go.RowKit

/-- What a property says, as bytes. -/
def sayB (k : Int) (x : Pr) : List UInt8 :=
  if k = 1 then [b8 x.n] else if k = 2 then two x.n else if k = 3 then four x.n else if k = 4 then var x.n else if k = 5 ∨ k = 6 then dataB x.s else if k = 7 then dataB x.s ++ dataB x.t else []
def oneB (x : Pr) : List UInt8 := var x.id.toNat ++ sayB (ruleOf x.id).kind x
def putsB (l : List Pr) : List UInt8 := l.flatMap fun x => if 0 < (ruleOf x.id).kind then oneB x else []
theorem kind_id (id : Int) (h : (ruleOf id).kind ≠ 0) : 1 ≤ id ∧ id ≤ 42 := by
  unfold ruleOf at h
  by_cases h1 : id = 1
  · omega
  rw [if_neg h1] at h
  by_cases h2 : id = 2
  · omega
  rw [if_neg h2] at h
  by_cases h3 : id = 3
  · omega
  rw [if_neg h3] at h
  by_cases h8 : id = 8
  · omega
  rw [if_neg h8] at h
  by_cases h9 : id = 9
  · omega
  rw [if_neg h9] at h
  by_cases h11 : id = 11
  · omega
  rw [if_neg h11] at h
  by_cases h17 : id = 17
  · omega
  rw [if_neg h17] at h
  by_cases h18 : id = 18
  · omega
  rw [if_neg h18] at h
  by_cases h19 : id = 19
  · omega
  rw [if_neg h19] at h
  by_cases h21 : id = 21
  · omega
  rw [if_neg h21] at h
  by_cases h22 : id = 22
  · omega
  rw [if_neg h22] at h
  by_cases h23 : id = 23
  · omega
  rw [if_neg h23] at h
  by_cases h25 : id = 25
  · omega
  rw [if_neg h25] at h
  by_cases h24 : id = 24
  · omega
  rw [if_neg h24] at h
  by_cases h26 : id = 26
  · omega
  rw [if_neg h26] at h
  by_cases h28 : id = 28
  · omega
  rw [if_neg h28] at h
  by_cases h31 : id = 31
  · omega
  rw [if_neg h31] at h
  by_cases h33 : id = 33
  · omega
  rw [if_neg h33] at h
  by_cases h34 : id = 34
  · omega
  rw [if_neg h34] at h
  by_cases h35 : id = 35
  · omega
  rw [if_neg h35] at h
  by_cases h36 : id = 36
  · omega
  rw [if_neg h36] at h
  by_cases h37 : id = 37
  · omega
  rw [if_neg h37] at h
  by_cases h40 : id = 40
  · omega
  rw [if_neg h40] at h
  by_cases h41 : id = 41
  · omega
  rw [if_neg h41] at h
  by_cases h42 : id = 42
  · omega
  rw [if_neg h42] at h
  by_cases h38 : id = 38
  · omega
  rw [if_neg h38] at h
  by_cases h39 : id = 39
  · omega
  rw [if_neg h39] at h
  exact absurd rfl h
theorem dataB_len (s : List UInt8) : (dataB s).length ≤ 65537 := by
  have h2 : (s.take 65535).length ≤ 65535 := List.length_take_le _ _
  simp only [dataB, List.length_append, two, List.length_cons, List.length_nil]; omega
theorem sayB_len (k : Int) (x : Pr) : (sayB k x).length ≤ 131074 := by
  have h1 := varB_len' x.n
  have h2 := dataB_len x.s
  have h3 := dataB_len x.t
  unfold sayB
  repeat' split
  all_goals first | (simp only [List.length_append]; omega) | (simp [two, four]; done) | omega | (simp; done) | (unfold four two; simp; done)
theorem oneB_len (x : Pr) : (oneB x).length ≤ 131078 := by
  have := varB_len' x.id.toNat
  have := sayB_len (ruleOf x.id).kind x
  rw [oneB, List.length_append]; omega
theorem putsB_len (l : List Pr) : (putsB l).length ≤ 131078 * l.length := by
  induction l with
  | nil => simp [putsB]
  | cons x l ih =>
    have h := oneB_len x
    rw [putsB] at ih ⊢
    rw [List.flatMap_cons, List.length_append, List.length_cons]
    split
    · omega
    · rw [List.length_nil]; omega
theorem putsB_snoc (l : List Pr) (x : Pr) : putsB (l ++ [x]) = putsB l ++ if 0 < (ruleOf x.id).kind then oneB x else [] := by simp [putsB]
set_option maxRecDepth 100000 in
set_option maxHeartbeats 1000000 in
theorem put1_pany (b o : Nat) (l : List UInt8) (x : Pr) (w : World) (h : OutAt w b o l) (hk : (ruleOf x.id).kind = 1) (hn : x.n < 4294967296) (hss : x.s.length ≤ 9223372036854775807) (hst : x.t.length ≤ 9223372036854775807) (hl : l.length < 70368740000000) :
    Calls Try.prog 88 #[.pointer (some ⟨b, 0, none⟩), .agg #[.int .i64 x.id, .int .u32 x.n, .string ⟨x.s.toArray⟩, .string ⟨x.t.toArray⟩]] w fun e w' => e = .returned (.tuple #[]) ∧ OutTo w w' b o (l ++ oneB x) := by
  obtain ⟨h1, h42⟩ := kind_id x.id (by rw [hk]; decide)
  have hfr0 : Fr [b, o] w (w.alloc (.cells (prE x).toArray 97)) := (Fr.refl _ _).alloc _
  have hp := blk_new w (.cells (prE x).toArray 97)
  have h0 := h.fr (Fr.alloc (Fr.refl [] w) (.cells (prE x).toArray 97)) (by simp) (by simp)
  have hlt := h.lt
  have hlt0 : (w.alloc (.cells (prE x).toArray 97)).heap.size = w.heap.size + 1 := by simp
  obtain ⟨xi, xn, xs, xt⟩ := x
  dsimp only at hk h1 h42 hn hss hst
  have HX : Hid (oneB ⟨xi, xn, xs, xt⟩ = var xi.toNat ++ sayB 1 ⟨xi, xn, xs, xt⟩) := Lib.hid (by rw [← hk]; rfl)
  have hv4 := varB_len' xi.toNat
  replace h0 := Lib.hid h0
  replace hp := Lib.hid hp
  replace hfr0 := Lib.hid hfr0
  go_enter Try.func88, Try.ntmps88
  go_wp2_with fail
  refine (outvar_any b o l xi _ h0.out (by omega) (by omega) (by omega)).mono ?_
  rintro _ w1 ⟨rfl, o1, q1, ho1, g1⟩
  have fr1 := hfr0.out.trans g1 (by intro z hz h; exact h)
  have hp1 := g1.blk hp.out (by simp; omega)
  have z1 := g1.size
  have lo1 : o1 = o ∨ w.heap.size ≤ o1 := by omega
  replace q1 := Lib.hid q1
  replace fr1 := Lib.hid fr1
  clear g1
  obtain ⟨⟨c0, c1, c2, c3⟩, ⟨f0, f1, f2, f3⟩, hpl⟩ := blk4_facts hp1
  go_wp2_with fail
  refine (pkind_any _ _).mono ?_
  rintro _ w2 ⟨rfl, g2⟩
  rw [hk]
  have fr2 := Lib.hid (fr1.out.trans g2 (by simp))
  have q2 := Lib.hid (q1.out.fr g2 (by simp) (by simp))
  have hp2 := g2.blk hp1 (by simp)
  have z2 := g2.size
  have hlq := q1.out.lt
  clear g2 hp1 c0 c1 c2 c3 f0 f1 f2 f3
  obtain ⟨⟨c0, c1, c2, c3⟩, ⟨f0, f1, f2, f3⟩, hpl2⟩ := blk4_facts hp2
  clear hp2
  go_wp2_with fail
  refine (outbyte_any b o1 _ ((xn : Int) % 256) _ q2.out (by omega) (by omega) (by rw [List.length_append]; omega)).mono ?_
  rintro _ w3 ⟨rfl, o3, q3, ho3, g3⟩
  go_wp2
  go_end0
  rw [HX.out, ← List.append_assoc]
  refine ⟨rfl, OutTo.step lo1 fr2.out ⟨o3, ?_, ho3, g3⟩⟩
  have e : sayB 1 ⟨xi, xn, xs, xt⟩ = [b8 xn] := rfl
  rw [e]
  first | exact q3 | (rw [Int.toNat_natCast] at q3; exact q3) | (rw [show ((xn : Int) % 256).toNat = xn % 256 from by omega, b8_eq (show xn % 256 % 256 = xn % 256 from by omega)] at q3; exact q3)
set_option maxRecDepth 100000 in
set_option maxHeartbeats 1000000 in
theorem put2_pany (b o : Nat) (l : List UInt8) (x : Pr) (w : World) (h : OutAt w b o l) (hk : (ruleOf x.id).kind = 2) (hn : x.n < 4294967296) (hss : x.s.length ≤ 9223372036854775807) (hst : x.t.length ≤ 9223372036854775807) (hl : l.length < 70368740000000) :
    Calls Try.prog 88 #[.pointer (some ⟨b, 0, none⟩), .agg #[.int .i64 x.id, .int .u32 x.n, .string ⟨x.s.toArray⟩, .string ⟨x.t.toArray⟩]] w fun e w' => e = .returned (.tuple #[]) ∧ OutTo w w' b o (l ++ oneB x) := by
  obtain ⟨h1, h42⟩ := kind_id x.id (by rw [hk]; decide)
  have hfr0 : Fr [b, o] w (w.alloc (.cells (prE x).toArray 97)) := (Fr.refl _ _).alloc _
  have hp := blk_new w (.cells (prE x).toArray 97)
  have h0 := h.fr (Fr.alloc (Fr.refl [] w) (.cells (prE x).toArray 97)) (by simp) (by simp)
  have hlt := h.lt
  have hlt0 : (w.alloc (.cells (prE x).toArray 97)).heap.size = w.heap.size + 1 := by simp
  obtain ⟨xi, xn, xs, xt⟩ := x
  dsimp only at hk h1 h42 hn hss hst
  have HX : Hid (oneB ⟨xi, xn, xs, xt⟩ = var xi.toNat ++ sayB 2 ⟨xi, xn, xs, xt⟩) := Lib.hid (by rw [← hk]; rfl)
  have hv4 := varB_len' xi.toNat
  replace h0 := Lib.hid h0
  replace hp := Lib.hid hp
  replace hfr0 := Lib.hid hfr0
  go_enter Try.func88, Try.ntmps88
  go_wp2_with fail
  refine (outvar_any b o l xi _ h0.out (by omega) (by omega) (by omega)).mono ?_
  rintro _ w1 ⟨rfl, o1, q1, ho1, g1⟩
  have fr1 := hfr0.out.trans g1 (by intro z hz h; exact h)
  have hp1 := g1.blk hp.out (by simp; omega)
  have z1 := g1.size
  have lo1 : o1 = o ∨ w.heap.size ≤ o1 := by omega
  replace q1 := Lib.hid q1
  replace fr1 := Lib.hid fr1
  clear g1
  obtain ⟨⟨c0, c1, c2, c3⟩, ⟨f0, f1, f2, f3⟩, hpl⟩ := blk4_facts hp1
  go_wp2_with fail
  refine (pkind_any _ _).mono ?_
  rintro _ w2 ⟨rfl, g2⟩
  rw [hk]
  have fr2 := Lib.hid (fr1.out.trans g2 (by simp))
  have q2 := Lib.hid (q1.out.fr g2 (by simp) (by simp))
  have hp2 := g2.blk hp1 (by simp)
  have z2 := g2.size
  have hlq := q1.out.lt
  clear g2 hp1 c0 c1 c2 c3 f0 f1 f2 f3
  obtain ⟨⟨c0, c1, c2, c3⟩, ⟨f0, f1, f2, f3⟩, hpl2⟩ := blk4_facts hp2
  clear hp2
  go_wp2_with fail
  refine (outtwo_any b o1 _ (xn : Int) _ q2.out (by omega) (by omega) (by rw [List.length_append]; omega)).mono ?_
  rintro _ w3 ⟨rfl, o3, q3, ho3, g3⟩
  go_wp2
  go_end0
  rw [HX.out, ← List.append_assoc]
  refine ⟨rfl, OutTo.step lo1 fr2.out ⟨o3, ?_, ho3, g3⟩⟩
  have e : sayB 2 ⟨xi, xn, xs, xt⟩ = two xn := rfl
  rw [e]
  first | exact q3 | (rw [Int.toNat_natCast] at q3; exact q3) | (rw [show ((xn : Int) % 256).toNat = xn % 256 from by omega, b8_eq (show xn % 256 % 256 = xn % 256 from by omega)] at q3; exact q3)
set_option maxRecDepth 100000 in
set_option maxHeartbeats 1000000 in
theorem put3_pany (b o : Nat) (l : List UInt8) (x : Pr) (w : World) (h : OutAt w b o l) (hk : (ruleOf x.id).kind = 3) (hn : x.n < 4294967296) (hss : x.s.length ≤ 9223372036854775807) (hst : x.t.length ≤ 9223372036854775807) (hl : l.length < 70368740000000) :
    Calls Try.prog 88 #[.pointer (some ⟨b, 0, none⟩), .agg #[.int .i64 x.id, .int .u32 x.n, .string ⟨x.s.toArray⟩, .string ⟨x.t.toArray⟩]] w fun e w' => e = .returned (.tuple #[]) ∧ OutTo w w' b o (l ++ oneB x) := by
  obtain ⟨h1, h42⟩ := kind_id x.id (by rw [hk]; decide)
  have hfr0 : Fr [b, o] w (w.alloc (.cells (prE x).toArray 97)) := (Fr.refl _ _).alloc _
  have hp := blk_new w (.cells (prE x).toArray 97)
  have h0 := h.fr (Fr.alloc (Fr.refl [] w) (.cells (prE x).toArray 97)) (by simp) (by simp)
  have hlt := h.lt
  have hlt0 : (w.alloc (.cells (prE x).toArray 97)).heap.size = w.heap.size + 1 := by simp
  obtain ⟨xi, xn, xs, xt⟩ := x
  dsimp only at hk h1 h42 hn hss hst
  have HX : Hid (oneB ⟨xi, xn, xs, xt⟩ = var xi.toNat ++ sayB 3 ⟨xi, xn, xs, xt⟩) := Lib.hid (by rw [← hk]; rfl)
  have hv4 := varB_len' xi.toNat
  replace h0 := Lib.hid h0
  replace hp := Lib.hid hp
  replace hfr0 := Lib.hid hfr0
  go_enter Try.func88, Try.ntmps88
  go_wp2_with fail
  refine (outvar_any b o l xi _ h0.out (by omega) (by omega) (by omega)).mono ?_
  rintro _ w1 ⟨rfl, o1, q1, ho1, g1⟩
  have fr1 := hfr0.out.trans g1 (by intro z hz h; exact h)
  have hp1 := g1.blk hp.out (by simp; omega)
  have z1 := g1.size
  have lo1 : o1 = o ∨ w.heap.size ≤ o1 := by omega
  replace q1 := Lib.hid q1
  replace fr1 := Lib.hid fr1
  clear g1
  obtain ⟨⟨c0, c1, c2, c3⟩, ⟨f0, f1, f2, f3⟩, hpl⟩ := blk4_facts hp1
  go_wp2_with fail
  refine (pkind_any _ _).mono ?_
  rintro _ w2 ⟨rfl, g2⟩
  rw [hk]
  have fr2 := Lib.hid (fr1.out.trans g2 (by simp))
  have q2 := Lib.hid (q1.out.fr g2 (by simp) (by simp))
  have hp2 := g2.blk hp1 (by simp)
  have z2 := g2.size
  have hlq := q1.out.lt
  clear g2 hp1 c0 c1 c2 c3 f0 f1 f2 f3
  obtain ⟨⟨c0, c1, c2, c3⟩, ⟨f0, f1, f2, f3⟩, hpl2⟩ := blk4_facts hp2
  clear hp2
  go_wp2_with fail
  refine (outfour_any b o1 _ (xn : Int) _ q2.out (by omega) (by omega) (by rw [List.length_append]; omega)).mono ?_
  rintro _ w3 ⟨rfl, o3, q3, ho3, g3⟩
  go_wp2
  go_end0
  rw [HX.out, ← List.append_assoc]
  refine ⟨rfl, OutTo.step lo1 fr2.out ⟨o3, ?_, ho3, g3⟩⟩
  have e : sayB 3 ⟨xi, xn, xs, xt⟩ = four xn := rfl
  rw [e]
  first | exact q3 | (rw [Int.toNat_natCast] at q3; exact q3) | (rw [show ((xn : Int) % 256).toNat = xn % 256 from by omega, b8_eq (show xn % 256 % 256 = xn % 256 from by omega)] at q3; exact q3)
set_option maxRecDepth 100000 in
set_option maxHeartbeats 1000000 in
theorem put4_pany (b o : Nat) (l : List UInt8) (x : Pr) (w : World) (h : OutAt w b o l) (hk : (ruleOf x.id).kind = 4) (hn : x.n < 4294967296) (hss : x.s.length ≤ 9223372036854775807) (hst : x.t.length ≤ 9223372036854775807) (hl : l.length < 70368740000000) :
    Calls Try.prog 88 #[.pointer (some ⟨b, 0, none⟩), .agg #[.int .i64 x.id, .int .u32 x.n, .string ⟨x.s.toArray⟩, .string ⟨x.t.toArray⟩]] w fun e w' => e = .returned (.tuple #[]) ∧ OutTo w w' b o (l ++ oneB x) := by
  obtain ⟨h1, h42⟩ := kind_id x.id (by rw [hk]; decide)
  have hfr0 : Fr [b, o] w (w.alloc (.cells (prE x).toArray 97)) := (Fr.refl _ _).alloc _
  have hp := blk_new w (.cells (prE x).toArray 97)
  have h0 := h.fr (Fr.alloc (Fr.refl [] w) (.cells (prE x).toArray 97)) (by simp) (by simp)
  have hlt := h.lt
  have hlt0 : (w.alloc (.cells (prE x).toArray 97)).heap.size = w.heap.size + 1 := by simp
  obtain ⟨xi, xn, xs, xt⟩ := x
  dsimp only at hk h1 h42 hn hss hst
  have HX : Hid (oneB ⟨xi, xn, xs, xt⟩ = var xi.toNat ++ sayB 4 ⟨xi, xn, xs, xt⟩) := Lib.hid (by rw [← hk]; rfl)
  have hv4 := varB_len' xi.toNat
  replace h0 := Lib.hid h0
  replace hp := Lib.hid hp
  replace hfr0 := Lib.hid hfr0
  go_enter Try.func88, Try.ntmps88
  go_wp2_with fail
  refine (outvar_any b o l xi _ h0.out (by omega) (by omega) (by omega)).mono ?_
  rintro _ w1 ⟨rfl, o1, q1, ho1, g1⟩
  have fr1 := hfr0.out.trans g1 (by intro z hz h; exact h)
  have hp1 := g1.blk hp.out (by simp; omega)
  have z1 := g1.size
  have lo1 : o1 = o ∨ w.heap.size ≤ o1 := by omega
  replace q1 := Lib.hid q1
  replace fr1 := Lib.hid fr1
  clear g1
  obtain ⟨⟨c0, c1, c2, c3⟩, ⟨f0, f1, f2, f3⟩, hpl⟩ := blk4_facts hp1
  go_wp2_with fail
  refine (pkind_any _ _).mono ?_
  rintro _ w2 ⟨rfl, g2⟩
  rw [hk]
  have fr2 := Lib.hid (fr1.out.trans g2 (by simp))
  have q2 := Lib.hid (q1.out.fr g2 (by simp) (by simp))
  have hp2 := g2.blk hp1 (by simp)
  have z2 := g2.size
  have hlq := q1.out.lt
  clear g2 hp1 c0 c1 c2 c3 f0 f1 f2 f3
  obtain ⟨⟨c0, c1, c2, c3⟩, ⟨f0, f1, f2, f3⟩, hpl2⟩ := blk4_facts hp2
  clear hp2
  go_wp2_with fail
  refine (outvar_any b o1 _ (xn : Int) _ q2.out (by omega) (by omega) (by rw [List.length_append]; omega)).mono ?_
  rintro _ w3 ⟨rfl, o3, q3, ho3, g3⟩
  go_wp2
  go_end0
  rw [HX.out, ← List.append_assoc]
  refine ⟨rfl, OutTo.step lo1 fr2.out ⟨o3, ?_, ho3, g3⟩⟩
  have e : sayB 4 ⟨xi, xn, xs, xt⟩ = var xn := rfl
  rw [e]
  first | exact q3 | (rw [Int.toNat_natCast] at q3; exact q3) | (rw [show ((xn : Int) % 256).toNat = xn % 256 from by omega, b8_eq (show xn % 256 % 256 = xn % 256 from by omega)] at q3; exact q3)
set_option maxRecDepth 100000 in
set_option maxHeartbeats 1000000 in
theorem put5_pany (b o : Nat) (l : List UInt8) (x : Pr) (w : World) (h : OutAt w b o l) (hk : (ruleOf x.id).kind = 5) (hn : x.n < 4294967296) (hss : x.s.length ≤ 9223372036854775807) (hst : x.t.length ≤ 9223372036854775807) (hl : l.length < 70368740000000) :
    Calls Try.prog 88 #[.pointer (some ⟨b, 0, none⟩), .agg #[.int .i64 x.id, .int .u32 x.n, .string ⟨x.s.toArray⟩, .string ⟨x.t.toArray⟩]] w fun e w' => e = .returned (.tuple #[]) ∧ OutTo w w' b o (l ++ oneB x) := by
  obtain ⟨h1, h42⟩ := kind_id x.id (by rw [hk]; decide)
  have hfr0 : Fr [b, o] w (w.alloc (.cells (prE x).toArray 97)) := (Fr.refl _ _).alloc _
  have hp := blk_new w (.cells (prE x).toArray 97)
  have h0 := h.fr (Fr.alloc (Fr.refl [] w) (.cells (prE x).toArray 97)) (by simp) (by simp)
  have hlt := h.lt
  have hlt0 : (w.alloc (.cells (prE x).toArray 97)).heap.size = w.heap.size + 1 := by simp
  obtain ⟨xi, xn, xs, xt⟩ := x
  dsimp only at hk h1 h42 hn hss hst
  have HX : Hid (oneB ⟨xi, xn, xs, xt⟩ = var xi.toNat ++ sayB 5 ⟨xi, xn, xs, xt⟩) := Lib.hid (by rw [← hk]; rfl)
  have hv4 := varB_len' xi.toNat
  replace h0 := Lib.hid h0
  replace hp := Lib.hid hp
  replace hfr0 := Lib.hid hfr0
  go_enter Try.func88, Try.ntmps88
  go_wp2_with fail
  refine (outvar_any b o l xi _ h0.out (by omega) (by omega) (by omega)).mono ?_
  rintro _ w1 ⟨rfl, o1, q1, ho1, g1⟩
  have fr1 := hfr0.out.trans g1 (by intro z hz h; exact h)
  have hp1 := g1.blk hp.out (by simp; omega)
  have z1 := g1.size
  have lo1 : o1 = o ∨ w.heap.size ≤ o1 := by omega
  replace q1 := Lib.hid q1
  replace fr1 := Lib.hid fr1
  clear g1
  obtain ⟨⟨c0, c1, c2, c3⟩, ⟨f0, f1, f2, f3⟩, hpl⟩ := blk4_facts hp1
  go_wp2_with fail
  refine (pkind_any _ _).mono ?_
  rintro _ w2 ⟨rfl, g2⟩
  rw [hk]
  have fr2 := Lib.hid (fr1.out.trans g2 (by simp))
  have q2 := Lib.hid (q1.out.fr g2 (by simp) (by simp))
  have hp2 := g2.blk hp1 (by simp)
  have z2 := g2.size
  have hlq := q1.out.lt
  clear g2 hp1 c0 c1 c2 c3 f0 f1 f2 f3
  obtain ⟨⟨c0, c1, c2, c3⟩, ⟨f0, f1, f2, f3⟩, hpl2⟩ := blk4_facts hp2
  clear hp2
  go_wp2_with fail
  refine (outdata_any b o1 _ xs _ q2.out hss (by rw [List.length_append]; omega)).mono ?_
  rintro _ w3 ⟨rfl, o3, q3, ho3, g3⟩
  go_wp2
  go_end0
  rw [HX.out, ← List.append_assoc]
  exact ⟨rfl, OutTo.step lo1 fr2.out ⟨o3, q3, ho3, g3⟩⟩
set_option maxRecDepth 100000 in
set_option maxHeartbeats 1000000 in
theorem put6_pany (b o : Nat) (l : List UInt8) (x : Pr) (w : World) (h : OutAt w b o l) (hk : (ruleOf x.id).kind = 6) (hn : x.n < 4294967296) (hss : x.s.length ≤ 9223372036854775807) (hst : x.t.length ≤ 9223372036854775807) (hl : l.length < 70368740000000) :
    Calls Try.prog 88 #[.pointer (some ⟨b, 0, none⟩), .agg #[.int .i64 x.id, .int .u32 x.n, .string ⟨x.s.toArray⟩, .string ⟨x.t.toArray⟩]] w fun e w' => e = .returned (.tuple #[]) ∧ OutTo w w' b o (l ++ oneB x) := by
  obtain ⟨h1, h42⟩ := kind_id x.id (by rw [hk]; decide)
  have hfr0 : Fr [b, o] w (w.alloc (.cells (prE x).toArray 97)) := (Fr.refl _ _).alloc _
  have hp := blk_new w (.cells (prE x).toArray 97)
  have h0 := h.fr (Fr.alloc (Fr.refl [] w) (.cells (prE x).toArray 97)) (by simp) (by simp)
  have hlt := h.lt
  have hlt0 : (w.alloc (.cells (prE x).toArray 97)).heap.size = w.heap.size + 1 := by simp
  obtain ⟨xi, xn, xs, xt⟩ := x
  dsimp only at hk h1 h42 hn hss hst
  have HX : Hid (oneB ⟨xi, xn, xs, xt⟩ = var xi.toNat ++ sayB 6 ⟨xi, xn, xs, xt⟩) := Lib.hid (by rw [← hk]; rfl)
  have hv4 := varB_len' xi.toNat
  replace h0 := Lib.hid h0
  replace hp := Lib.hid hp
  replace hfr0 := Lib.hid hfr0
  go_enter Try.func88, Try.ntmps88
  go_wp2_with fail
  refine (outvar_any b o l xi _ h0.out (by omega) (by omega) (by omega)).mono ?_
  rintro _ w1 ⟨rfl, o1, q1, ho1, g1⟩
  have fr1 := hfr0.out.trans g1 (by intro z hz h; exact h)
  have hp1 := g1.blk hp.out (by simp; omega)
  have z1 := g1.size
  have lo1 : o1 = o ∨ w.heap.size ≤ o1 := by omega
  replace q1 := Lib.hid q1
  replace fr1 := Lib.hid fr1
  clear g1
  obtain ⟨⟨c0, c1, c2, c3⟩, ⟨f0, f1, f2, f3⟩, hpl⟩ := blk4_facts hp1
  go_wp2_with fail
  refine (pkind_any _ _).mono ?_
  rintro _ w2 ⟨rfl, g2⟩
  rw [hk]
  have fr2 := Lib.hid (fr1.out.trans g2 (by simp))
  have q2 := Lib.hid (q1.out.fr g2 (by simp) (by simp))
  have hp2 := g2.blk hp1 (by simp)
  have z2 := g2.size
  have hlq := q1.out.lt
  clear g2 hp1 c0 c1 c2 c3 f0 f1 f2 f3
  obtain ⟨⟨c0, c1, c2, c3⟩, ⟨f0, f1, f2, f3⟩, hpl2⟩ := blk4_facts hp2
  clear hp2
  go_wp2_with fail
  refine (outdata_any b o1 _ xs _ q2.out hss (by rw [List.length_append]; omega)).mono ?_
  rintro _ w3 ⟨rfl, o3, q3, ho3, g3⟩
  go_wp2
  go_end0
  rw [HX.out, ← List.append_assoc]
  exact ⟨rfl, OutTo.step lo1 fr2.out ⟨o3, q3, ho3, g3⟩⟩
set_option maxRecDepth 100000 in
set_option maxHeartbeats 1000000 in
theorem put7_pany (b o : Nat) (l : List UInt8) (x : Pr) (w : World) (h : OutAt w b o l) (hk : (ruleOf x.id).kind = 7) (hn : x.n < 4294967296) (hss : x.s.length ≤ 9223372036854775807) (hst : x.t.length ≤ 9223372036854775807) (hl : l.length < 70368740000000) :
    Calls Try.prog 88 #[.pointer (some ⟨b, 0, none⟩), .agg #[.int .i64 x.id, .int .u32 x.n, .string ⟨x.s.toArray⟩, .string ⟨x.t.toArray⟩]] w fun e w' => e = .returned (.tuple #[]) ∧ OutTo w w' b o (l ++ oneB x) := by
  obtain ⟨h1, h42⟩ := kind_id x.id (by rw [hk]; decide)
  have hfr0 : Fr [b, o] w (w.alloc (.cells (prE x).toArray 97)) := (Fr.refl _ _).alloc _
  have hp := blk_new w (.cells (prE x).toArray 97)
  have h0 := h.fr (Fr.alloc (Fr.refl [] w) (.cells (prE x).toArray 97)) (by simp) (by simp)
  have hlt := h.lt
  have hlt0 : (w.alloc (.cells (prE x).toArray 97)).heap.size = w.heap.size + 1 := by simp
  obtain ⟨xi, xn, xs, xt⟩ := x
  dsimp only at hk h1 h42 hn hss hst
  have HX : Hid (oneB ⟨xi, xn, xs, xt⟩ = var xi.toNat ++ sayB 7 ⟨xi, xn, xs, xt⟩) := Lib.hid (by rw [← hk]; rfl)
  have hv4 := varB_len' xi.toNat
  replace h0 := Lib.hid h0
  replace hp := Lib.hid hp
  replace hfr0 := Lib.hid hfr0
  go_enter Try.func88, Try.ntmps88
  go_wp2_with fail
  refine (outvar_any b o l xi _ h0.out (by omega) (by omega) (by omega)).mono ?_
  rintro _ w1 ⟨rfl, o1, q1, ho1, g1⟩
  have fr1 := hfr0.out.trans g1 (by intro z hz h; exact h)
  have hp1 := g1.blk hp.out (by simp; omega)
  have z1 := g1.size
  have lo1 : o1 = o ∨ w.heap.size ≤ o1 := by omega
  replace q1 := Lib.hid q1
  replace fr1 := Lib.hid fr1
  clear g1
  obtain ⟨⟨c0, c1, c2, c3⟩, ⟨f0, f1, f2, f3⟩, hpl⟩ := blk4_facts hp1
  go_wp2_with fail
  refine (pkind_any _ _).mono ?_
  rintro _ w2 ⟨rfl, g2⟩
  rw [hk]
  have fr2 := Lib.hid (fr1.out.trans g2 (by simp))
  have q2 := Lib.hid (q1.out.fr g2 (by simp) (by simp))
  have hp2 := g2.blk hp1 (by simp)
  have z2 := g2.size
  have hlq := q1.out.lt
  clear g2 hp1 c0 c1 c2 c3 f0 f1 f2 f3
  obtain ⟨⟨c0, c1, c2, c3⟩, ⟨f0, f1, f2, f3⟩, hpl2⟩ := blk4_facts hp2
  clear hp2
  have hds := dataB_len xs
  go_upto_region 15 with (fail)
  have hwl : w.heap.size < w2.heap.size := hpl2
  have Y0 : Hid (w2.cell? ⟨w.heap.size, 2, none⟩ = some (.string ⟨xs.toArray⟩) ∧ w2.cell? ⟨w.heap.size, 3, none⟩ = some (.string ⟨xt.toArray⟩)) := Lib.hid ⟨c2, c3⟩
  have HL1 : Hid ((l ++ var xi.toNat).length < 70368744100000) := Lib.hid (by rw [List.length_append]; omega)
  have HL2 : Hid ((l ++ var xi.toNat ++ dataB xs).length < 70368744100000) := Lib.hid (by simp only [List.length_append]; omega)
  have HQ2 := Lib.hid (show OutAt w2.drew b o1 (l ++ var (xi.toNat)) from q2.out)
  clear c0 c1 c2 c3 f0 f1 f2 f3
  go_region_held3 (fun w' => w'.cell? ⟨w.heap.size, 2, none⟩ = some (.string ⟨xs.toArray⟩) ∧ w'.cell? ⟨w.heap.size, 3, none⟩ = some (.string ⟨xt.toArray⟩)) (first | exact Y2.out | exact Y1.out | exact Y0.out) (first
    | (go_at_call 50; (with_reducible refine (outdata_any b o1 (l ++ var xi.toNat) xs w2.drew HQ2.out hss HL1.out).mono ?_); rintro _ w3 ⟨rfl, o3, q3, ho3, g3⟩; have z3 : w2.heap.size ≤ w3.heap.size := g3.size; have lo3 : o3 = o1 ∨ w2.heap.size ≤ o3 := ho3; have Y1 := Lib.hid (show _ ∧ _ from ⟨g3.cell Y0.out.1 (by simp; omega), g3.cell Y0.out.2 (by simp; omega)⟩))
    | (go_at_call 50; (with_reducible refine (outdata_any b o3 (l ++ var xi.toNat ++ dataB xs) xt w3 q3 hst HL2.out).mono ?_); rintro _ w4 ⟨rfl, o4, q4, ho4, g4⟩; have Y2 := Lib.hid (show _ ∧ _ from ⟨g4.cell Y1.out.1 (by simp; omega), g4.cell Y1.out.2 (by simp; omega)⟩)))
  go_wp2
  go_end0
  rw [HX.out]
  have e : sayB 7 ⟨xi, xn, xs, xt⟩ = dataB xs ++ dataB xt := rfl
  rw [e, ← List.append_assoc, ← List.append_assoc]
  refine ⟨rfl, OutTo.step lo1 fr2.out ?_⟩
  exact OutTo.step lo3 ((Fr.refl [b, o1] w2).drew.trans g3 (by intro z hz h; exact h)) ⟨o4, q4, ho4, g4⟩
theorem putp_any (b o : Nat) (l : List UInt8) (x : Pr) (w : World) (h : OutAt w b o l) (hk : 0 < (ruleOf x.id).kind) (hn : x.n < 4294967296) (hss : x.s.length ≤ 9223372036854775807) (hst : x.t.length ≤ 9223372036854775807) (hl : l.length < 70368740000000) :
    Calls Try.prog 88 #[.pointer (some ⟨b, 0, none⟩), .agg #[.int .i64 x.id, .int .u32 x.n, .string ⟨x.s.toArray⟩, .string ⟨x.t.toArray⟩]] w fun e w' => e = .returned (.tuple #[]) ∧ OutTo w w' b o (l ++ oneB x) := by
  have h7 := (ruleOf_cases x.id).2.2.1
  by_cases k1 : (ruleOf x.id).kind = 1
  · exact put1_pany b o l x w h k1 hn hss hst hl
  by_cases k2 : (ruleOf x.id).kind = 2
  · exact put2_pany b o l x w h k2 hn hss hst hl
  by_cases k3 : (ruleOf x.id).kind = 3
  · exact put3_pany b o l x w h k3 hn hss hst hl
  by_cases k4 : (ruleOf x.id).kind = 4
  · exact put4_pany b o l x w h k4 hn hss hst hl
  by_cases k5 : (ruleOf x.id).kind = 5
  · exact put5_pany b o l x w h k5 hn hss hst hl
  by_cases k6 : (ruleOf x.id).kind = 6
  · exact put6_pany b o l x w h k6 hn hss hst hl
  by_cases k7 : (ruleOf x.id).kind = 7
  · exact put7_pany b o l x w h k7 hn hss hst hl
  omega
set_option maxRecDepth 100000 in
set_option maxHeartbeats 2000000 in
theorem puts_any (b o : Nat) (l0 : List UInt8) (v : Value) (l : List Pr) (w : World) (h : OutAt w b o l0) (hv : View w v l.length (l.flatMap prE)) (hl : l.length ≤ 1000) (hok : ∀ x ∈ l, x.n < 4294967296 ∧ x.s.length ≤ 9223372036854775807 ∧ x.t.length ≤ 9223372036854775807) (hl0 : l0.length < 1000000000) :
    Calls Try.prog 52 #[.pointer (some ⟨b, 0, none⟩), v] w fun e w' => e = .returned (.tuple #[]) ∧ OutTo w w' b o (l0 ++ (var (putsB l).length ++ putsB l)) := by
  have hn := OutAt.new w
  have hfr0 : Fr [] w (w.alloc (.cells #[.slice none 0 0] 101)) := (Fr.refl _ _).alloc _
  have hbl := h.lt
  have HC : Hid (0 < l.length → ∃ bb off c, v = .slice (some ⟨bb, off, none⟩) l.length c ∧ bb < w.heap.size ∧ ∀ (i : Nat) (hi : i < l.length) j u, (prE l[i])[j]? = some u → w.cell? ⟨bb, off + i * 4 + j, none⟩ = some u) := Lib.hid (fun hl => hv.at prE_len (by decide) hl)
  obtain ⟨A, c, rfl, _⟩ := hv
  have HK := Lib.hid hok
  have H := Lib.hid h
  clear hok h
  go_enter Try.func52, Try.ntmps52
  go_wp2
  go_loopw [9] (fun i wr => ∃ (k o' : Nat), i = .int .i64 k ∧ k ≤ l.length ∧ OutAt wr w.heap.size o' (putsB (l.take k)) ∧ w.heap.size ≤ o' ∧ Fr [] w wr) (fun i _ => l.length - (intOf i).toNat)
  case atStart => exact ⟨0, w.heap.size, rfl, by omega, hn, Nat.le_refl _, hfr0⟩
  case round =>
    obtain ⟨k, o', rfl, hk, hout, hoo, hfr⟩ := hrel
    have HO := Lib.hid hout
    have HF := Lib.hid hfr
    have hpl := putsB_len (l.take k)
    have htl : (l.take k).length ≤ 1000 := Nat.le_trans (List.length_take_le _ _) (by omega)
    clear hout hfr hn hfr0
    by_cases hlt : k < l.length
    · obtain ⟨bb, off, c', hsl, hbb, hc⟩ := HC.out (by omega)
      cases hsl
      have hcell := hc k hlt
      have hok := HK.out l[k] (List.getElem_mem hlt)
      have hsn : Hid (putsB (l.take (k + 1)) = putsB (l.take k) ++ if 0 < (ruleOf l[k].id).kind then oneB l[k] else []) := Lib.hid (by rw [List.take_succ_eq_append_getElem hlt, putsB_snoc])
      generalize l[k] = x at *
      obtain ⟨hx1, hx2, hx3⟩ := hok
      have HX := Lib.hid (show 0 < (ruleOf x.id).kind → 1 ≤ x.id from fun h => (kind_id x.id (by omega)).1)
      have HPX := fun W (o' : Nat) (ll : List UInt8) (hh : OutAt W w.heap.size o' ll) (h0 : 0 < (ruleOf x.id).kind) (h2 : ll.length < 70368740000000) => putp_any w.heap.size o' ll x W hh h0 hx1 hx2 hx3 h2
      replace HPX := Lib.hid HPX
      obtain ⟨xi, xn, xs, xt⟩ := x
      have c0 : wr.cell? ⟨bb, off + k * 4, none⟩ = some (.int .i64 xi) := HF.out.cell (hcell 0 _ rfl) (by simp)
      have c1 : wr.cell? ⟨bb, off + k * 4 + 1, none⟩ = some (.int .u32 xn) := HF.out.cell (hcell 1 _ rfl) (by simp)
      have c2 : wr.cell? ⟨bb, off + k * 4 + 2, none⟩ = some (.string ⟨xs.toArray⟩) := HF.out.cell (hcell 2 _ rfl) (by simp)
      have c3 : wr.cell? ⟨bb, off + k * 4 + 3, none⟩ = some (.string ⟨xt.toArray⟩) := HF.out.cell (hcell 3 _ rfl) (by simp)
      clear hcell hc hx1 hx2 hx3
      dsimp only at hsn HX
      have hp := Lib.hid (blk_new wr (.cells #[.int .i64 xi, .int .u32 xn, .string ⟨xs.toArray⟩, .string ⟨xt.toArray⟩] 97))
      have fr1 := Lib.hid (HF.out.alloc (.cells #[.int .i64 xi, .int .u32 xn, .string ⟨xs.toArray⟩, .string ⟨xt.toArray⟩] 97))
      have q1 := Lib.hid (HO.out.fr ((Fr.refl [] wr).alloc (.cells #[.int .i64 xi, .int .u32 xn, .string ⟨xs.toArray⟩, .string ⟨xt.toArray⟩] 97)) (by simp) (by simp))
      by_cases h0 : 0 < xi
      rotate_left
      · have hs := Lib.hid (show putsB (l.take (k + 1)) = putsB (l.take k) from by
          rw [hsn.out, if_neg (fun h => by have := HX.out h; omega), List.append_nil])
        go_wp2
        go_roundw
        case rel => exact ⟨k + 1, o', by go_num, by omega, by rw [hs.out]; exact q1.out, hoo, fr1.out⟩
        case measure => simp [intOf]; omega
      go_wp2_with fail
      refine (pkind_any _ _).mono ?_
      rintro _ w2 ⟨rfl, g2⟩
      have fr2 := Lib.hid (fr1.out.trans g2 (by simp))
      have q2 := Lib.hid (q1.out.fr g2 (by simp) (by simp))
      have hp2 := g2.blk hp.out (by simp)
      clear g2 c0 c1 c2 c3
      obtain ⟨⟨c0, c1, c2, c3⟩, ⟨f0, f1, f2, f3⟩, _⟩ := blk4_facts hp2
      by_cases hkd : 0 < (ruleOf xi).kind
      · have hs := Lib.hid (show putsB (l.take (k + 1)) = putsB (l.take k) ++ oneB ⟨xi, xn, xs, xt⟩ from by rw [hsn.out, if_pos hkd])
        go_wp2_with fail
        refine (HPX.out _ o' _ q2.out hkd (by omega)).mono ?_
        rintro _ w3 ⟨rfl, o3, q3, ho3, g3⟩
        have fr3 := Lib.hid (fr2.out.trans g3 (by intro z hz h; simp at h; omega))
        have z2 := fr2.out.size
        go_wp2
        go_roundw
        case rel => exact ⟨k + 1, o3, by go_num, by omega, by rw [hs.out]; exact q3, by omega, fr3.out⟩
        case measure => simp [intOf]; omega
      · have hs := Lib.hid (show putsB (l.take (k + 1)) = putsB (l.take k) from by rw [hsn.out, if_neg hkd, List.append_nil])
        go_wp2
        go_roundw
        case rel => exact ⟨k + 1, o', by go_num, by omega, by rw [hs.out]; exact q2.out, hoo, fr2.out⟩
        case measure => simp [intOf]; omega
    · obtain rfl : k = l.length := by omega
      rw [List.take_length] at hpl HO
      have hout := HO.out
      go_wp2_with fail
      refine (outlen_any _ _ _ _ hout).mono ?_
      rintro _ w2 ⟨rfl, rfl⟩
      go_wp2_with fail
      refine (outvar_any b o l0 _ _ (H.out.fr HF.out (by simp) (by simp)) (by omega) (by omega) (by omega)).mono ?_
      rintro _ w2 ⟨rfl, o2, q2, ho2, g2⟩
      rw [Int.toNat_natCast] at q2
      have hout2 := hout.fr g2 (by simp; omega) (by simp; omega)
      have hv4 := varB_len' (putsB l).length
      go_wp2_with fail
      refine (outtext_any _ _ _ _ hout2).mono ?_
      rintro _ w3 ⟨rfl, rfl⟩
      go_wp2_with fail
      refine (outraw_any b o2 _ (putsB l) _ q2 (by rw [List.length_append]; omega)).mono ?_
      rintro _ w3 ⟨rfl, o3, q3, ho3, g3⟩
      go_wp2
      go_end0
      have zr := HF.out.size
      refine ⟨rfl, o3, by rw [← List.append_assoc]; exact q3, ?_, ?_⟩
      · have := g2.size; omega
      · refine (HF.out.mono (by simp)).trans (g2.trans g3 ?_ (S := [b, o])) ?_
        · intro z hz h; simp at h ⊢; omega
        · intro z hz h; exact h
end Go.Proofs.Ytlhkgalmiajinaa
