/- The walk of the law OctetPuts. -/
import Derived.Test.YtpbdngcngnkfmaaPut
import Derived.Test.YtpbdngcngnkfmaaOpen
namespace Go.Proofs.Ytpbdngcngnkfmaa
open Go.RowKit

def thingsB (f : Nat → Int × Nat × List UInt8) : Nat → List UInt8
  | 0 => []
  | k + 1 => thingsB f k ++ thingB (f k).1 (f k).2.1 (f k).2.2
theorem thingsB_len (f : Nat → Int × Nat × List UInt8) (k : Nat) : (thingsB f k).length ≤ 60 * k := by
  induction k with
  | zero => simp [thingsB]
  | succ k ih =>
    have := thingB_len (f k).1 (f k).2.1 (f k).2.2
    simp only [thingsB, List.length_append]; omega

section
open Go.ChangeShapes Go.WideShapes Go.Deep
/-- What a slice of things reads as. -/
def ThingsAt (w : World) (A : Option Addr) (n : Nat) (f : Nat → Int × Nat × List UInt8) : Prop :=
  n = 0 ∨ ∃ b off, A = some ⟨b, off, none⟩ ∧ b < w.heap.size ∧ ∀ i, i < n → w.cell? ⟨b, off + i * 3, none⟩ = some (.int .i64 (f i).1) ∧ w.cell? ⟨b, off + i * 3 + 1, none⟩ = some (.int .u32 (f i).2.1) ∧ w.cell? ⟨b, off + i * 3 + 2, none⟩ = some (.string ⟨(f i).2.2.toArray⟩)

theorem open_Thing {H : Type} {enc : TypeId × Value → H} {w : World} {base : Nat} {spare : Nat → Bool} {held : Bool} {a : Option Addr} {n c : Nat} {d : DataW H} {ps : List MemPlace} (h : DataW.Trod enc Try.prog w base spare held 41 (.slice a n c) d ps) :
    ∃ (A : Option Addr) (n' c' : Nat) (f : Nat → Int × Nat × List UInt8), Value.slice a n c = .slice A n' c' ∧ n' ≤ 9223372036854775807 ∧ ThingsAt w A n' f ∧ ∀ i, i < n' → ((f i).2.1 : Int) < 4294967296 ∧ (f i).2.2.length ≤ 9223372036854775807 := by
  obtain ⟨fuel, hf⟩ := h
  obtain ⟨A, n', c', V, hv, ⟨hc, hcm⟩, hA, hV⟩ := open_flat (v := .slice a n c) Try.underlying41 Try.underlying44 (by kernel_rfl) (by kernel_rfl) (by decide) (by simpa [Value.cells] using hf)
  have hch : ∀ i, i < n' → ∃ x : Int × Nat × List UInt8, (V i 0 = .int .i64 x.1 ∧ V i 1 = .int .u32 x.2.1 ∧ V i 2 = .string ⟨x.2.2.toArray⟩) ∧ (x.2.1 : Int) < 4294967296 ∧ x.2.2.length ≤ 9223372036854775807 := by
    intro i hi
    obtain ⟨m0, y0, h0⟩ := hV i hi 0 _ rfl
    obtain ⟨m1, y1, h1⟩ := hV i hi 1 _ rfl
    obtain ⟨m2, y2, h2⟩ := hV i hi 2 _ rfl
    obtain ⟨k, e0, _, _⟩ := DataW.trod_int Try.underlying3 h0
    obtain ⟨n, e1, _, wn⟩ := DataW.trod_int Try.underlying33 h1
    obtain ⟨s, e2, _, hs⟩ := DataW.trod_string Try.underlying9 h2
    obtain ⟨l, rfl, hl⟩ := str_list s
    obtain ⟨g0, g1⟩ := wf_u32 wn
    obtain ⟨N, rfl⟩ := Int.eq_ofNat_of_zero_le g0
    simp only [List.cons.injEq, and_true] at e0 e1 e2
    refine ⟨(k, N, l), ⟨e0, e1, e2⟩, g1, ?_⟩
    unfold maxLen at hs
    show l.length ≤ _
    omega
  obtain ⟨f, hf⟩ := choose_lt hch
  unfold maxLen at hcm
  refine ⟨A, n', c', f, hv, by omega, ?_, fun i hi => (hf i hi).2⟩
  rcases hA with hz | ⟨b, off, hAe, hcell⟩
  · exact Or.inl hz
  · by_cases hz : n' = 0
    · exact Or.inl hz
    right
    have hb : b < w.heap.size := World.block_lt_of_cell? w _ (hcell 0 (by omega) 0 (by decide))
    refine ⟨b, off, hAe, hb, fun i hi => ?_⟩
    obtain ⟨⟨e0, e1, e2⟩, _⟩ := hf i hi
    rw [← e0, ← e1, ← e2]
    exact ⟨hcell i hi 0 (by decide), hcell i hi 1 (by decide), hcell i hi 2 (by decide)⟩
end

set_option maxRecDepth 100000 in
theorem octetPuts_walk (A : Option Addr) (n c : Nat) (f : Nat → Int × Nat × List UInt8) (w : World) (hH : n ≤ 9223372036854775807 ∧ ThingsAt w A n f ∧ ∀ i, i < n → ((f i).2.1 : Int) < 4294967296 ∧ (f i).2.2.length ≤ 9223372036854775807) :
    Calls Try.prog 7 #[.slice A n c] w fun e w' => e = .returned (.bool true) ∧ Fr [] w w' := by
  obtain ⟨hn, hA, hf⟩ := hH
  go_enter Try.func7, Try.ntmps7
  go_wp2_with fail
  refine (awake1_any w).mono ?_
  rintro _ w1 ⟨rfl, hff⟩
  have hb0 := hff.size
  have hno := OutAt.new w1
  have hff2 : Fr [] w (w1.alloc (.cells #[.slice none 0 0] 36)) := hff.alloc _
  go_wp2
  go_loopw [4, 5] (fun s i wr => ∃ (k o : Nat) (l : List UInt8), s = .string ⟨l.toArray⟩ ∧ i = .int .i64 k ∧ k ≤ n ∧ k ≤ 15 ∧ l = thingsB f k ∧ OutAt wr w1.heap.size o l ∧ w.heap.size ≤ o ∧ Fr [] w wr) (fun _ i _ => 15 - (intOf i).toNat)
  case atStart => exact ⟨0, _, [], rfl, rfl, by omega, by omega, rfl, hno, hb0, hff2⟩
  case round =>
    obtain ⟨k, o, l, rfl, rfl, hkn, hk15, hl, ho, hob, hfr⟩ := hrel
    have hll : l.length ≤ 900 := by rw [hl]; have := thingsB_len f k; omega
    have HL := Lib.hid hl
    clear hl hff hff2 hno
    by_cases hk : (k : Int) < n
    · by_cases hk2 : (k : Int) < 15
      · rcases hA with rfl | ⟨b, off, rfl, hbw, hc⟩
        · omega
        obtain ⟨c0, c1, c2⟩ := hc k (by omega)
        have hbl := hfr.block b hbw (by simp)
        rw [← World.cell?_of_block (w := w) (w' := wr) (a := ⟨b, off + k * 3, none⟩) hbl] at c0
        rw [← World.cell?_of_block (w := w) (w' := wr) (a := ⟨b, off + k * 3 + 1, none⟩) hbl] at c1
        rw [← World.cell?_of_block (w := w) (w' := wr) (a := ⟨b, off + k * 3 + 2, none⟩) hbl] at c2
        obtain ⟨g1, g2⟩ := hf k (by omega)
        have Hc := Lib.hid hc
        have Hf := Lib.hid hf
        clear hc hf hbl
        obtain ⟨⟨K, N, S⟩, hfk⟩ : ∃ x, f k = x := ⟨_, rfl⟩
        rw [hfk] at c0 c1 c2 g1 g2
        dsimp only at c0 c1 c2 g1 g2
        have Hfk := Lib.hid hfk
        clear hfk
        have htb := thingB_len K N S
        go_wp2_with fail
        refine (put_any _ _ _ K N S _ ho g1 g2 (by omega)).mono ?_
        rintro _ w2 ⟨rfl, o2, h2, ho2, hf2⟩
        have hs2 := hfr.size
        have hfr2 := hfr.trans hf2 (by simp; omega)
        have hob2 : w.heap.size ≤ o2 := by omega
        clear hf2 ho2 ho c0 c1 c2
        go_wp2_with fail
        refine (outlen_any _ _ _ w2 h2).mono ?_
        rintro _ w3 ⟨rfl, rfl⟩
        go_wp2
        rw [ByteArray.mk_append_mk]
        go_roundw
        case rel => exact ⟨k + 1, o2, l ++ thingB K N S, rfl, by go_num, by omega, by omega, by rw [thingsB, Hfk.out, HL.out], h2, hob2, hfr2⟩
        case measure => simp [intOf]; omega
      · have hk15' : k = 15 := by omega
        go_wp2_with fail
        refine (outtext_any _ _ _ wr ho).mono ?_
        rintro _ w3 ⟨rfl, rfl⟩
        go_wp2
        go_ret
        exact ⟨rfl, hfr⟩
    · go_wp2_with fail
      refine (outtext_any _ _ _ wr ho).mono ?_
      rintro _ w3 ⟨rfl, rfl⟩
      go_wp2
      go_ret
      exact ⟨rfl, hfr⟩
end Go.Proofs.Ytpbdngcngnkfmaa
