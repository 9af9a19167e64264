/- The walk of the law OctetTakes. -/
import Derived.Test.YtpbdngcngnkfmaaTake
import Derived.Test.YtpbdngcngnkfmaaPlainA
import Derived.Test.YtpbdngcngnkfmaaOctetPuts
import Derived.Deep.RegionWith
import Derived.Deep.RegionHeld3
import Derived.Deep.DeepCutAuto
namespace Go.Proofs.Ytpbdngcngnkfmaa
open Go.RowKit

theorem bad_rest (b : Nat) (r : Rd) (w : World) (h : InAt w b r) (he : r.e ≠ 0) (hs : r.s.length ≤ 9223372036854775807) :
    Calls Try.prog 30 #[.pointer (some ⟨b, 0, none⟩)] w fun e w' => e = .returned (.string ⟨[].toArray⟩) ∧ InAt w' b r ∧ Fr [b] w w' := by
  have := rest_any b r w h hs
  rw [Rd.raw_bad r _ he] at this
  exact this
theorem bad_byte (b : Nat) (r : Rd) (w : World) (h : InAt w b r) (he : r.e ≠ 0) (hs : r.s.length ≤ 9223372036854775807) :
    Calls Try.prog 40 #[.pointer (some ⟨b, 0, none⟩)] w fun e w' => e = .returned (.int .u8 0) ∧ InAt w' b r ∧ Fr [b] w w' := by
  have := byte_any b r w h hs
  rw [num_bad r _ he] at this
  exact this
theorem bad_two (b : Nat) (r : Rd) (w : World) (h : InAt w b r) (he : r.e ≠ 0) (hs : r.s.length ≤ 9223372036854775807) :
    Calls Try.prog 41 #[.pointer (some ⟨b, 0, none⟩)] w fun e w' => e = .returned (.int .u32 0) ∧ InAt w' b r ∧ Fr [b] w w' := by
  have := intwo_any b r w h hs
  rw [num_bad r _ he] at this
  exact this
theorem bad_var (b : Nat) (r : Rd) (w : World) (h : InAt w b r) (he : r.e ≠ 0) (hs : r.s.length ≤ 9223372036854775807) :
    Calls Try.prog 28 #[.pointer (some ⟨b, 0, none⟩)] w fun e w' => e = .returned (.int .u32 0) ∧ InAt w' b r ∧ Fr [b] w w' := by
  have := invar_any b r w h hs
  rw [var_bad r he] at this
  exact this
theorem bad_data (b : Nat) (r : Rd) (w : World) (h : InAt w b r) (he : r.e ≠ 0) (hs : r.s.length ≤ 9223372036854775807) :
    Calls Try.prog 42 #[.pointer (some ⟨b, 0, none⟩)] w fun e w' => e = .returned (.string ⟨[].toArray⟩) ∧ InAt w' b r ∧ Fr [b] w w' := by
  have := indata_any b r w h hs
  rw [data_bad r he] at this
  exact this
set_option maxRecDepth 100000 in
set_option maxHeartbeats 8000000 in
theorem octetTakes_walk (a0 : ByteArray) (A : Option Addr) (n c : Nat) (f : Nat → Int × Nat × List UInt8) (w0 : a0.size ≤ maxLen) (w : World) (hH : n ≤ 9223372036854775807 ∧ ThingsAt w A n f ∧ ∀ i, i < n → ((f i).2.1 : Int) < 4294967296 ∧ (f i).2.2.length ≤ 9223372036854775807) :
    Calls Try.prog 11 #[.string a0, .slice A n c] w fun e w' => e = .returned (.bool true) ∧ Fr [] w w' := by
  obtain ⟨hn, hA, hf⟩ := hH
  obtain ⟨s, rfl, hs⟩ := str_list a0
  rw [← hs] at w0
  unfold maxLen at w0
  clear hs
  go_enter Try.func11, Try.ntmps11
  go_wp2_with fail
  refine (cut_any s 200 w (by omega) (by decide)).mono ?_
  rintro _ w1 ⟨rfl, rfl⟩
  rw [show (200 : Int).toNat = 200 from rfl]
  have hl : (s.take 200).length ≤ 200 := List.length_take_le _ _
  generalize s.take 200 = l at *
  go_wp2_with fail
  refine (over_any l w).mono ?_
  rintro _ w1 ⟨rfl, hi1, hff⟩
  go_wp2_with fail
  refine (awake1_any _).mono ?_
  rintro _ w2 ⟨rfl, hf2⟩
  have hff2 : Fr [] w w2 := (hff.alloc _).trans hf2 (by simp)
  have hi2 := (hi1.fr ((Fr.refl [] w1).alloc (.cells #[.string ⟨l.toArray⟩, .int .i64 0] 60)) (by simp)).fr hf2 (by simp)
  have hlt1 := hi1.facts.2.2.2.2
  have hc2 := hf2.blk (blk_new _ _) (by simp)
  have hs1 := hff.size
  have hs12 := hf2.size
  rw [World.size_alloc] at hs12
  clear hf2 hi1 hff
  go_wp2
  go_loopw [7] (fun i wr => ∃ (k : Nat) (r : Rd), i = .int .i64 k ∧ k ≤ n ∧ k ≤ 15 ∧ InAt wr w.heap.size r ∧ wr.heap[w1.heap.size]? = some (.cells #[.string ⟨r.s.toArray⟩, .int .i64 r.e] 60 (0, 0)) ∧ r.s.length ≤ 200 ∧ Fr [] w wr) (fun i _ => 15 - (intOf i).toNat)
  case atStart => exact ⟨0, ⟨l, 0⟩, rfl, by omega, by omega, hi2, hc2, hl, hff2⟩
  case round =>
    obtain ⟨k, r, rfl, hkn, hk15, hi, hcb, hrl, hfr⟩ := hrel
    have Hcb := Lib.hid hcb
    obtain ⟨q0, q1, q2, q3, q4⟩ := blk2_facts hcb
    have Hi := Lib.hid hi
    clear hff2 hi2 hc2 hcb hi
    by_cases hk : (k : Int) < n ∧ (k : Int) < 15
    · obtain ⟨hk1, hk2⟩ := hk
      rcases hA with rfl | ⟨b, off, rfl, hbw, hc⟩
      · omega
      obtain ⟨c0, c1, c2⟩ := hc k (by omega)
      have hbl := hfr.block b hbw (by simp)
      rw [← World.cell?_of_block (w := w) (w' := wr) (a := ⟨b, off + k * 3, none⟩) hbl] at c0
      rw [← World.cell?_of_block (w := w) (w' := wr) (a := ⟨b, off + k * 3 + 1, none⟩) hbl] at c1
      rw [← World.cell?_of_block (w := w) (w' := wr) (a := ⟨b, off + k * 3 + 2, none⟩) hbl] at c2
      obtain ⟨g1, g2⟩ := hf k (by omega)
      clear hc hf hbl
      obtain ⟨⟨K, N, S⟩, hfk⟩ : ∃ x, f k = x := ⟨_, rfl⟩
      rw [hfk] at c0 c1 c2 g1 g2
      dsimp only at c0 c1 c2 g1 g2
      clear hfk
      have hbr : b < wr.heap.size := by have := hfr.size; omega
      have hwr : w.heap.size < wr.heap.size := by omega
      go_upto_region 9 with (fail)
      go_cut [8, 9] (fun s8 s9 wx => ∃ B, s8 = .pointer (some ⟨B, 0, none⟩) ∧ s9 = .bool true ∧ wx.heap[B]? = some (.cells #[.string ⟨(takeR K N r).s.toArray⟩, .int .i64 (takeR K N r).e] 60 (0, 0)) ∧ InAt wx w.heap.size (takeR K N r) ∧
        wx.heap[w1.heap.size]? = some (.cells #[.string ⟨r.s.toArray⟩, .int .i64 r.e] 60 (0, 0)) ∧ B ≠ w1.heap.size ∧ w.heap.size < B ∧ Fr [] w wx)
      case first =>
        go_region_with (first | (go_at_call 44; refine (ltake_any _ r K N S _ (by exact Hi.out.fr (S := []) (by repeat (first | exact Fr.refl _ _ | (with_reducible apply Fr.alloc) | (with_reducible apply Fr.drew) | (with_reducible apply Fr.drewN) | (with_reducible refine Fr.setCell ?_ (by simp) _))) (by simp)) (by omega)).mono ?_; rintro _ w3 ⟨rfl, hi3, hf3⟩; (try (have hblk := hf3.blk (b := wr.heap.size) (blk_new wr (.cells #[.string ⟨[].toArray⟩, .int .i64 0] 60)) (by simp; omega); have p0 := (blk2_facts hblk).1; have p1 := (blk2_facts hblk).2.1; have p2 := (blk2_facts hblk).2.2.1; have p3 := (blk2_facts hblk).2.2.2.1; clear hblk))))
        all_goals go_wp2_with fail
        all_goals go_meet
        all_goals have hs3 := hf3.size
        all_goals first
          | exact ⟨_, rfl, rfl, blk_new _ _, hi3.fr ((Fr.refl [] _).alloc _) (by simp), blk_old (hf3.blk (b := w1.heap.size) Hcb.out (by simp; omega)) _, by simp at hs3; omega, by simp at hs3; omega, (((hfr.drew).trans hf3 (by simp; omega)).alloc _)⟩
          | exact ⟨_, rfl, rfl, blk2_set (hf3.blk (b := wr.heap.size) (blk_new wr (.cells #[.string ⟨[].toArray⟩, .int .i64 0] 60)) (by simp; omega)) _ _, hi3.fr (S := [wr.heap.size]) (by repeat (first | exact Fr.refl _ _ | (with_reducible apply Fr.alloc) | (with_reducible apply Fr.drew) | (with_reducible apply Fr.drewN) | (with_reducible refine Fr.setCell ?_ (by simp) _))) (by simp; omega), blk_far (blk_far (hf3.blk (b := w1.heap.size) (blk_old Hcb.out _) (by simp; omega)) (by simp; omega) _) (by simp; omega) _, by omega, by omega, ((((hfr.alloc _).drew).trans hf3 (by simp; omega)).setCell (Or.inl (by simp; omega)) _).setCell (Or.inl (by simp; omega)) _⟩
      case rest =>
        obtain ⟨B, rfl, rfl, hB, hi3, hc3, hne, hBw, hfr3⟩ := hcut
        have hl3 := takeR_left K N r
        clear q0 q1 q2 q3 q4 c0 c1 c2
        generalize takeR K N r = r3 at *
        obtain ⟨q0, q1, q2, q3, q4⟩ := blk2_facts hc3
        obtain ⟨p0, p1, p2, p3, p4⟩ := blk2_facts hB
        have Hi3 := Lib.hid hi3
        have Hc3 := Lib.hid hc3
        clear hi3 hc3 hB
        go_upto_region 11 with (fail)
        obtain ⟨wd, hwd⟩ : ∃ wd, (wc.setCell ⟨w1.heap.size, 0, none⟩ (.string ⟨r3.s.toArray⟩)).setCell ⟨w1.heap.size, 1, none⟩ (.int .i64 r3.e) = wd := ⟨_, rfl⟩
        have Hid3 : Hid (InAt wd w.heap.size r3) := Lib.hid (by rw [← hwd]; exact Hi3.out.fr (S := [w1.heap.size]) (by repeat (first | exact Fr.refl _ _ | (with_reducible apply Fr.alloc) | (with_reducible apply Fr.drew) | (with_reducible apply Fr.drewN) | (with_reducible refine Fr.setCell ?_ (by simp) _))) (by simp; omega))
        have Hcd3 : Hid (wd.heap[w1.heap.size]? = some (.cells #[.string ⟨r3.s.toArray⟩, .int .i64 r3.e] 60 (0, 0))) := Lib.hid (by rw [← hwd]; exact blk2_set Hc3.out _ _)
        have hfrd : Fr [] w wd := by rw [← hwd]; exact (hfr3.setCell (Or.inl (by simp; omega)) _).setCell (Or.inl (by simp; omega)) _
        rw [hwd]
        clear q0 q1 q2 q3 q4 p0 p1 p2 p3 p4 hwd
        obtain ⟨q0, q1, q2, q3, q4⟩ := blk2_facts Hcd3.out
        by_cases he : r3.e = 0
        · have e1 : (r3.e == 0) = true := by simpa using he
          clear he
          go_quiet ((first | (go_at_call 29; exact qsame (err_any _ _ _ (by exact Hid3.out))) | (go_at_call 43; exact qsame (left_any _ _ _ (by exact Hid3.out)))))
          go_wp2
          go_roundw
          case rel => exact ⟨k + 1, r3, by go_num, by omega, by omega, Hid3.out, Hcd3.out, by omega, hfrd.drewN _⟩
          case measure => simp [intOf]; omega
        · have e1 : (r3.e == 0) = false := by simpa using he
          clear he
          go_quiet ((first | (go_at_call 29; exact qsame (err_any _ _ _ (by exact Hid3.out))) | (go_at_call 43; exact qsame (left_any _ _ _ (by exact Hid3.out)))))
          go_wp2
          go_roundw
          case rel => exact ⟨k + 1, r3, by go_num, by omega, by omega, Hid3.out, Hcd3.out, by omega, hfrd.drewN _⟩
          case measure => simp [intOf]; omega
    · have hor : ¬ (k : Int) < n ∨ ((k : Int) < n ∧ ¬ (k : Int) < 15) := by omega
      clear hk hA hf
      rcases hor with hk | ⟨hk, hk15⟩
      all_goals
        by_cases he : r.e = 0
        · have e1 : (r.e == 0) = true := by simpa using he
          have e2 : (r.e == 1) = false := by simp [he]
          have He := Lib.hid he
          clear he
          by_cases hse : r.s = []
          · have h3 : r.s.isEmpty = true := by simpa using hse
            have hen : r.ends = 0 := by unfold Rd.ends; simp [He.out, hse]
            have Hse := Lib.hid hse
            clear hse
            go_wp2_with (go_at_call 45; refine (end_any _ r _ (by exact Hi.out)).mono ?_; rintro _ w3 ⟨rfl, rfl⟩; rw [hen])
            go_region_held3 (fun w' => w'.cell? ⟨w1.heap.size, 0, none⟩ = some (.string ⟨r.s.toArray⟩)) (first | go_keep | exact x1c) (first | (go_at_call 30; refine (rest_any _ r _ (by exact Hi.out) (by omega)).mono ?_; rintro _ x1 ⟨rfl, i1, f1⟩; rw [Rd.raw_ok r _ He.out (Nat.le_refl _)] at i1 ⊢; dsimp only at i1 ⊢; rw [List.take_length]; rw [List.drop_length] at i1; have x1c := f1.cell (a := ⟨w1.heap.size, 0, none⟩) q0 (by simp; omega)) | (go_at_call 43; refine (left_any _ _ _ (by exact i1)).mono ?_; rintro _ x2 ⟨rfl, rfl⟩) | (go_at_call 29; refine (err_any _ _ _ (by exact i1)).mono ?_; rintro _ x2 ⟨rfl, rfl⟩))
            all_goals go_wp2
            all_goals go_ret
            all_goals exact ⟨rfl, hfr.drew.trans f1 (by simp; omega)⟩
          · have h3 : r.s.isEmpty = false := by simpa using hse
            have hen : r.ends = 2 := by unfold Rd.ends; simp [He.out, hse]
            clear hse
            go_wp2_with (go_at_call 45; refine (end_any _ r _ (by exact Hi.out)).mono ?_; rintro _ w3 ⟨rfl, rfl⟩; rw [hen])
            go_region_held3 (fun w' => w'.cell? ⟨w1.heap.size, 0, none⟩ = some (.string ⟨r.s.toArray⟩)) (first | go_keep | exact x1c) (first | (go_at_call 30; refine (rest_any _ r _ (by exact Hi.out) (by omega)).mono ?_; rintro _ x1 ⟨rfl, i1, f1⟩; rw [Rd.raw_ok r _ He.out (Nat.le_refl _)] at i1 ⊢; dsimp only at i1 ⊢; rw [List.take_length]; rw [List.drop_length] at i1; have x1c := f1.cell (a := ⟨w1.heap.size, 0, none⟩) q0 (by simp; omega)) | (go_at_call 43; refine (left_any _ _ _ (by exact i1)).mono ?_; rintro _ x2 ⟨rfl, rfl⟩) | (go_at_call 29; refine (err_any _ _ _ (by exact i1)).mono ?_; rintro _ x2 ⟨rfl, rfl⟩))
            all_goals go_wp2
            all_goals go_ret
            all_goals exact ⟨rfl, hfr.drew.trans f1 (by simp; omega)⟩
        · have e1 : (r.e == 0) = false := by simpa using he
          have e3 : (r.e != 0) = true := by simpa using he
          by_cases h1 : r.e = 1
          · have e2 : (r.e == 1) = true := by simpa using h1
            have hen : r.ends = 2 := by unfold Rd.ends; simp [h1]
            have He := Lib.hid he
            clear he h1
            go_wp2_with (go_at_call 45; refine (end_any _ r _ (by exact Hi.out)).mono ?_; rintro _ w3 ⟨rfl, rfl⟩; rw [hen])
            refine (fail_any _ r 4 _ (by exact Hi.out)).mono ?_
            rintro _ x0 ⟨rfl, i0, f0⟩
            rw [fail_bad r 4 He.out] at i0
            have x0c := f0.cell (a := ⟨w1.heap.size, 1, none⟩) q1 (by simp; omega)
            have hfr0 := hfr.trans f0 (by simp; omega)
            clear q0 q1 q2 q3
            go_wp2_with fail
            go_region_held3 (fun w' => w'.cell? ⟨w1.heap.size, 1, none⟩ = some (.int .i64 r.e)) (first | go_keep | exact c1 | exact c2 | exact c3 | exact c4 | exact c5) (first | (go_at_call 30; refine (bad_rest _ r _ (by exact i0) He.out (by omega)).mono ?_; rintro _ x1 ⟨rfl, i1, f1⟩; have c1 := f1.cell (a := ⟨w1.heap.size, 1, none⟩) x0c (by simp; omega)) | (go_at_call 40; refine (bad_byte _ r _ (by exact i1) He.out (by omega)).mono ?_; rintro _ x2 ⟨rfl, i2, f2⟩; have c2 := f2.cell (a := ⟨w1.heap.size, 1, none⟩) c1 (by simp; omega)) | (go_at_call 41; refine (bad_two _ r _ (by exact i2) He.out (by omega)).mono ?_; rintro _ x3 ⟨rfl, i3, f3⟩; have c3 := f3.cell (a := ⟨w1.heap.size, 1, none⟩) c2 (by simp; omega)) | (go_at_call 28; refine (bad_var _ r _ (by exact i3) He.out (by omega)).mono ?_; rintro _ x4 ⟨rfl, i4, f4⟩; have c4 := f4.cell (a := ⟨w1.heap.size, 1, none⟩) c3 (by simp; omega)) | (go_at_call 42; refine (bad_data _ r _ (by exact i4) He.out (by omega)).mono ?_; rintro _ x5 ⟨rfl, i5, f5⟩; have c5 := f5.cell (a := ⟨w1.heap.size, 1, none⟩) c4 (by simp; omega)) | (go_at_call 29; refine (err_any _ _ _ (by exact i5)).mono ?_; rintro _ x6 ⟨rfl, rfl⟩))
            all_goals go_wp2
            all_goals go_ret
            all_goals exact ⟨rfl, ((((hfr0.drew.trans f1 (by simp; omega)).trans f2 (by simp; omega)).trans f3 (by simp; omega)).trans f4 (by simp; omega)).trans f5 (by simp; omega)⟩
          · have e2 : (r.e == 1) = false := by simpa using h1
            have hen : r.ends = r.e := by unfold Rd.ends; simp [he, h1]
            have He := Lib.hid he
            clear he h1
            go_wp2_with (go_at_call 45; refine (end_any _ r _ (by exact Hi.out)).mono ?_; rintro _ w3 ⟨rfl, rfl⟩; rw [hen])
            refine (fail_any _ r 4 _ (by exact Hi.out)).mono ?_
            rintro _ x0 ⟨rfl, i0, f0⟩
            rw [fail_bad r 4 He.out] at i0
            have x0c := f0.cell (a := ⟨w1.heap.size, 1, none⟩) q1 (by simp; omega)
            have hfr0 := hfr.trans f0 (by simp; omega)
            clear q0 q1 q2 q3
            go_wp2_with fail
            go_region_held3 (fun w' => w'.cell? ⟨w1.heap.size, 1, none⟩ = some (.int .i64 r.e)) (first | go_keep | exact c1 | exact c2 | exact c3 | exact c4 | exact c5) (first | (go_at_call 30; refine (bad_rest _ r _ (by exact i0) He.out (by omega)).mono ?_; rintro _ x1 ⟨rfl, i1, f1⟩; have c1 := f1.cell (a := ⟨w1.heap.size, 1, none⟩) x0c (by simp; omega)) | (go_at_call 40; refine (bad_byte _ r _ (by exact i1) He.out (by omega)).mono ?_; rintro _ x2 ⟨rfl, i2, f2⟩; have c2 := f2.cell (a := ⟨w1.heap.size, 1, none⟩) c1 (by simp; omega)) | (go_at_call 41; refine (bad_two _ r _ (by exact i2) He.out (by omega)).mono ?_; rintro _ x3 ⟨rfl, i3, f3⟩; have c3 := f3.cell (a := ⟨w1.heap.size, 1, none⟩) c2 (by simp; omega)) | (go_at_call 28; refine (bad_var _ r _ (by exact i3) He.out (by omega)).mono ?_; rintro _ x4 ⟨rfl, i4, f4⟩; have c4 := f4.cell (a := ⟨w1.heap.size, 1, none⟩) c3 (by simp; omega)) | (go_at_call 42; refine (bad_data _ r _ (by exact i4) He.out (by omega)).mono ?_; rintro _ x5 ⟨rfl, i5, f5⟩; have c5 := f5.cell (a := ⟨w1.heap.size, 1, none⟩) c4 (by simp; omega)) | (go_at_call 29; refine (err_any _ _ _ (by exact i5)).mono ?_; rintro _ x6 ⟨rfl, rfl⟩))
            all_goals go_wp2
            all_goals go_ret
            all_goals exact ⟨rfl, ((((hfr0.drew.trans f1 (by simp; omega)).trans f2 (by simp; omega)).trans f3 (by simp; omega)).trans f4 (by simp; omega)).trans f5 (by simp; omega)⟩
end Go.Proofs.Ytpbdngcngnkfmaa
