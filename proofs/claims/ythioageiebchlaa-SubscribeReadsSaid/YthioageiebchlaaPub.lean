/- The plain words of layers 4, 6 and 7: codes, publish, its answers. No condition. -/
import Derived.Test.YthioageiebchlaaPropF
import Derived.Test.YthioageiebchlaaPropG
import Derived.Test.YthioageiebchlaaPure
import Derived.Test.YthioageiebchlaaPropA
import Derived.Lib.Bytealg
import Derived.Lib.IndexAny
namespace Go.Proofs.Ythioageiebchlaa

/-- The codes that a kind of packet may say. -/
def codesB (k : Int) : List UInt8 :=
  if k = 2 then [0, 128, 129, 130, 131, 132, 133, 134, 135, 136, 137, 138, 140, 144, 149, 151, 153, 154, 155, 156, 157, 159]
  else if k = 4 ∨ k = 5 then [0, 16, 128, 131, 135, 144, 145, 151, 153]
  else if k = 6 ∨ k = 7 then [0, 146]
  else if k = 9 then [0, 1, 2, 128, 131, 135, 143, 145, 151, 158, 161, 162]
  else if k = 11 then [0, 17, 128, 131, 135, 143, 145]
  else if k = 14 then [0, 4, 128, 129, 130, 131, 135, 137, 139, 141, 142, 143, 144, 147, 148, 149, 150, 151, 152, 153, 154, 155, 156, 157, 158, 159, 160, 161, 162]
  else if k = 15 then [0, 24, 25] else []
def mayC (k : Int) (c : Nat) : Bool := (codesB k).contains (b8 c)
structure Pb where
  dup : Bool
  ret : Bool
  qos : Nat
  id : Nat
  props : List Pr
  topic : List UInt8
  pay : List UInt8
def noPb : Pb := ⟨false, false, 0, 0, [], [], []⟩
def propsB (l : List Pr) : List UInt8 := var (putsB l).length ++ putsB l
def pbFlags (p : Pb) : Nat := p.qos % 4 * 2 + (if p.dup = true then 8 else 0) + (if p.ret = true then 1 else 0)
def pbText (p : Pb) : List UInt8 := dataB p.topic ++ ((if 0 < p.qos then two p.id else []) ++ (propsB p.props ++ p.pay))
def Rd.ident (r : Rd) : Nat × Rd := ((r.num 2).1, if (r.num 2).1 = 0 then (r.num 2).2.fail 3 else (r.num 2).2)
def pbId (q : Nat) (r : Rd) : Nat × Rd := if 0 < q then r.ident else (0, r)
def pbRest (q : Nat) (s : List UInt8) : List Pr × Rd := takeP (pbId q (Rd.str ⟨s, 0⟩).2).2 3 false
def pbEnd (r : Rd) : Rd := (r.raw r.s.length).2
def pbE (q : Nat) (s : List UInt8) : Int := (pbEnd (pbRest q s).2).ends
/-- A publish of flags and a body. -/
def pbParse (f : Nat) (s : List UInt8) : Pb × Int :=
  if pbE (f / 2 % 4) s = 0 then (⟨decide (f / 8 % 2 = 1), decide (f % 2 = 1), f / 2 % 4, (pbId (f / 2 % 4) (Rd.str ⟨s, 0⟩).2).1, (pbRest (f / 2 % 4) s).1, (Rd.str ⟨s, 0⟩).1, (pbRest (f / 2 % 4) s).2.s⟩, 0)
  else (noPb, pbE (f / 2 % 4) s)
structure Ak where
  kind : Int
  id : Nat
  code : Nat
  props : List Pr
def noAk : Ak := ⟨0, 0, 0, []⟩
def akText (a : Ak) : List UInt8 := two a.id ++ ((if a.code ≠ 0 ∨ a.props ≠ [] then [b8 a.code] else []) ++ (if a.props ≠ [] then propsB a.props else []))
def akCode (r : Rd) : Nat × Rd := if r.s = [] then (0, r) else r.num 1
def akMay (k : Int) (r : Nat × Rd) : Rd := if mayC k r.1 = true then r.2 else r.2.fail 2
def akProps (k : Int) (r : Rd) : List Pr × Rd := if r.s = [] then ([], r) else takeP r k false
def akE (k : Int) (s : List UInt8) : Int := (akProps k (akMay k (akCode (Rd.ident ⟨s, 0⟩).2))).2.ends
/-- An answer of a kind and a body. -/
def akParse (k : Int) (s : List UInt8) : Ak × Int :=
  if k < 4 ∨ 7 < k then (noAk, 5)
  else if akE k s = 0 then (⟨k, (Rd.ident ⟨s, 0⟩).1, (akCode (Rd.ident ⟨s, 0⟩).2).1, (akProps k (akMay k (akCode (Rd.ident ⟨s, 0⟩).2))).1⟩, 0)
  else (noAk, akE k s)
end Go.Proofs.Ythioageiebchlaa
namespace Go.Proofs.Ythioageiebchlaa
open Go.RowKit

theorem codes2_any (w : World) : Calls Try.prog 72 #[.int .i64 2] w fun e w' => e = .returned (.string ⟨(codesB 2).toArray⟩) ∧ w = w' := by
  go_enter Try.func72, Try.ntmps72
  go_wp2
  go_ret
  exact ⟨rfl, rfl⟩
theorem codes4_any (w : World) : Calls Try.prog 72 #[.int .i64 4] w fun e w' => e = .returned (.string ⟨(codesB 4).toArray⟩) ∧ w = w' := by
  go_enter Try.func72, Try.ntmps72
  go_wp2
  go_ret
  exact ⟨rfl, rfl⟩
theorem codes5_any (w : World) : Calls Try.prog 72 #[.int .i64 5] w fun e w' => e = .returned (.string ⟨(codesB 5).toArray⟩) ∧ w = w' := by
  go_enter Try.func72, Try.ntmps72
  go_wp2
  go_ret
  exact ⟨rfl, rfl⟩
theorem codes6_any (w : World) : Calls Try.prog 72 #[.int .i64 6] w fun e w' => e = .returned (.string ⟨(codesB 6).toArray⟩) ∧ w = w' := by
  go_enter Try.func72, Try.ntmps72
  go_wp2
  go_ret
  exact ⟨rfl, rfl⟩
theorem codes7_any (w : World) : Calls Try.prog 72 #[.int .i64 7] w fun e w' => e = .returned (.string ⟨(codesB 7).toArray⟩) ∧ w = w' := by
  go_enter Try.func72, Try.ntmps72
  go_wp2
  go_ret
  exact ⟨rfl, rfl⟩
theorem codes9_any (w : World) : Calls Try.prog 72 #[.int .i64 9] w fun e w' => e = .returned (.string ⟨(codesB 9).toArray⟩) ∧ w = w' := by
  go_enter Try.func72, Try.ntmps72
  go_wp2
  go_ret
  exact ⟨rfl, rfl⟩
theorem codes11_any (w : World) : Calls Try.prog 72 #[.int .i64 11] w fun e w' => e = .returned (.string ⟨(codesB 11).toArray⟩) ∧ w = w' := by
  go_enter Try.func72, Try.ntmps72
  go_wp2
  go_ret
  exact ⟨rfl, rfl⟩
theorem codes14_any (w : World) : Calls Try.prog 72 #[.int .i64 14] w fun e w' => e = .returned (.string ⟨(codesB 14).toArray⟩) ∧ w = w' := by
  go_enter Try.func72, Try.ntmps72
  go_wp2
  go_ret
  exact ⟨rfl, rfl⟩
theorem codes15_any (w : World) : Calls Try.prog 72 #[.int .i64 15] w fun e w' => e = .returned (.string ⟨(codesB 15).toArray⟩) ∧ w = w' := by
  go_enter Try.func72, Try.ntmps72
  go_wp2
  go_ret
  exact ⟨rfl, rfl⟩
theorem codes_any (k : Int) (w : World) : Calls Try.prog 72 #[.int .i64 k] w fun e w' => e = .returned (.string ⟨(codesB k).toArray⟩) ∧ w = w' := by
  by_cases h2 : k = 2
  · subst h2; exact codes2_any w
  by_cases h4 : k = 4
  · subst h4; exact codes4_any w
  by_cases h5 : k = 5
  · subst h5; exact codes5_any w
  by_cases h6 : k = 6
  · subst h6; exact codes6_any w
  by_cases h7 : k = 7
  · subst h7; exact codes7_any w
  by_cases h9 : k = 9
  · subst h9; exact codes9_any w
  by_cases h11 : k = 11
  · subst h11; exact codes11_any w
  by_cases h14 : k = 14
  · subst h14; exact codes14_any w
  by_cases h15 : k = 15
  · subst h15; exact codes15_any w
  have e2 : (k == 2) = false := by simpa using h2
  have e4 : (k == 4) = false := by simpa using h4
  have e5 : (k == 5) = false := by simpa using h5
  have e6 : (k == 6) = false := by simpa using h6
  have e7 : (k == 7) = false := by simpa using h7
  have e9 : (k == 9) = false := by simpa using h9
  have e11 : (k == 11) = false := by simpa using h11
  have e14 : (k == 14) = false := by simpa using h14
  have e15 : (k == 15) = false := by simpa using h15
  have HE : Hid (codesB k = []) := Lib.hid (by simp [codesB, h2, h4, h5, h6, h7, h9, h11, h14, h15])
  clear h2 h4 h5 h6 h7 h9 h11 h14 h15
  go_enter Try.func72, Try.ntmps72
  go_wp2
  go_ret
  rw [HE.out]
  exact ⟨rfl, rfl⟩
set_option maxRecDepth 100000 in
theorem slIndex_any (s : ByteArray) (c : Int) (w : World) :
    Calls Try.prog 91 #[.string s, .int .u8 c] w fun e w' => e = .returned (.int .i64 (Lib.indexByte s.data.toList c.toNat.toUInt8)) ∧ w = w' := by
  go_enter Try.func91, Try.ntmps91
  go_wp2
  rw [run_callFunc_extern Try.func102 (by kernel_rfl) (by kernel_rfl) (by kernel_rfl) (e := Extern.BytealgIndexByte.indexByte) (by kernel_rfl), Lib.run_indexByteString]
  simp only [Result.andThen]
  rw [Oper.upon_value]
  go_wp2
  go_ret
  exact ⟨rfl, rfl⟩
set_option maxRecDepth 100000 in
theorem strIndex_any (s : ByteArray) (c : Int) (w : World) :
    Calls Try.prog 71 #[.string s, .int .u8 c] w fun e w' => e = .returned (.int .i64 (Lib.indexByte s.data.toList c.toNat.toUInt8)) ∧ w = w' := by
  go_enter Try.func71, Try.ntmps71
  go_wp2_with fail
  refine (slIndex_any s c _).mono ?_
  rintro _ _ ⟨rfl, rfl⟩
  go_wp2
  go_ret
  exact ⟨rfl, rfl⟩
set_option maxRecDepth 100000 in
theorem pmayr_any (k : Int) (c : Nat) (w : World) :
    Calls Try.prog 53 #[.int .i64 k, .int .u8 (c : Int)] w fun e w' => e = .returned (.bool (mayC k c)) ∧ w = w' := by
  have hm : Hid (mayC k c = decide (0 ≤ Lib.indexByte (codesB k) (c : Int).toNat.toUInt8)) := Lib.hid (by
    rw [mayC, Lib.contains_iff_indexByte]; rfl)
  go_enter Try.func53, Try.ntmps53
  go_wp2_with fail
  refine (codes_any k _).mono ?_
  rintro _ _ ⟨rfl, rfl⟩
  go_wp2_with fail
  refine (strIndex_any _ _ _).mono ?_
  rintro _ _ ⟨rfl, rfl⟩
  rw [show (ByteArray.mk (codesB k).toArray).data.toList = codesB k from rfl]
  generalize Lib.indexByte (codesB k) (c : Int).toNat.toUInt8 = n at *
  generalize codesB k = C at *
  obtain ⟨b, hb⟩ : ∃ b, decide (0 ≤ n) = b := ⟨_, rfl⟩
  rw [hb] at hm
  cases b
  all_goals
    go_wp2
    go_ret
    rw [hm.out]
    exact ⟨rfl, rfl⟩
/-! ### The reference's -/
theorem among_any (n : Int) (v : Value) (l : List Nat) (w : World) (hv : View w v l.length (l.flatMap intC)) (h0 : 0 < l.length) (hl : l.length < 1000) :
    Calls Try.prog 75 #[.int .i64 n, v] w fun e w' => e = .returned (.bool (l.any fun x => decide ((x : Int) = n))) ∧ w = w' := by
  obtain ⟨b, off, c, rfl, hb, hc⟩ := hv.at intC_len (by decide) h0
  have HC := Lib.hid hc
  clear hc hv
  go_enter Try.func75, Try.ntmps75
  go_wp2
  go_loop [9] (fun i => ∃ k : Nat, i = .int .i64 k ∧ k ≤ l.length ∧ Hid ((l.take k).any (fun x => decide ((x : Int) = n)) = false)) (fun i => l.length - (intOf i).toNat)
  case atStart => exact ⟨0, rfl, by omega, Lib.hid rfl⟩
  case round =>
    obtain ⟨k, rfl, hk, HN⟩ := hrel
    by_cases hlt : k < l.length
    · have c0 : w.cell? ⟨b, off + k * 1, none⟩ = some (.int .i64 (l[k] : Int)) := HC.out k hlt 0 _ rfl
      rw [Nat.mul_one] at c0
      have HS : Hid ((l.take (k + 1)).any (fun x => decide ((x : Int) = n)) = decide ((l[k] : Int) = n)) := Lib.hid (by rw [List.take_succ_eq_append_getElem hlt, List.any_append, HN.out]; simp)
      have HA : Hid (decide ((l[k] : Int) = n) = true → l.any (fun x => decide ((x : Int) = n)) = true) := Lib.hid (fun h => List.any_eq_true.2 ⟨l[k], List.getElem_mem _, h⟩)
      obtain ⟨x, hxx⟩ : ∃ x : Nat, l[k] = x := ⟨_, rfl⟩
      rw [hxx] at c0 HS HA
      clear hxx
      by_cases he : (x : Int) = n
      · have e1 : ((x : Int) == n) = true := by simpa using he
        have HR := Lib.hid (HA.out (by simpa using he))
        clear he
        go_wp2
        go_ret
        rw [HR.out]
        exact ⟨rfl, rfl⟩
      · have e1 : ((x : Int) == n) = false := by simpa using he
        have HR : Hid ((l.take (k + 1)).any (fun x => decide ((x : Int) = n)) = false) := Lib.hid (by rw [HS.out]; simpa using he)
        clear he
        go_wp2
        go_round
        case rel => exact ⟨k + 1, by go_num, by omega, HR⟩
        case measure => simp [intOf]; omega
    · have HR : Hid (l.any (fun x => decide ((x : Int) = n)) = false) := Lib.hid (by have := HN.out; rwa [List.take_of_length_le (by omega)] at this)
      go_wp2
      go_ret
      rw [HR.out]
      exact ⟨rfl, rfl⟩
theorem amongN_any (n : Int) (H : Nat) (l : List Nat) (w : World) (m : Nat) (hn : m = l.length) (cs : Array Value) (hcs : cs = (l.flatMap intC).toArray) (h : w.heap[H]? = some (.cells cs 3 (0, 0))) (h0 : 0 < l.length) (hl : l.length < 1000) :
    Calls Try.prog 75 #[.int .i64 n, .slice (some ⟨H, 0, none⟩) m m] w fun e w' => e = .returned (.bool (l.any fun x => decide ((x : Int) = n))) ∧ w = w' := by
  subst hn hcs
  refine among_any n _ l w ⟨_, _, rfl, Or.inr ⟨H, 0, rfl, fun j u hj => ?_⟩⟩ h0 hl
  rw [cell_of_row w H (0 + j) _ _ _ h, Nat.zero_add]
  simpa using hj
theorem may2_fin : ∀ c : Fin 256, mayC 2 c.val = ((decide ((c.val : Int) = 0) || (decide (128 ≤ (c.val : Int)) && decide ((c.val : Int) ≤ 138))) || ([140, 144, 149, 151, 153, 154, 155, 156, 157, 159] : List Nat).any fun x => decide ((x : Int) = (c.val : Int))) := by decide +kernel
theorem may4_fin : ∀ c : Fin 256, mayC 4 c.val = (([0, 16, 128, 131, 135, 144, 145, 151, 153] : List Nat).any fun x => decide ((x : Int) = (c.val : Int))) := by decide +kernel
theorem may5_fin : ∀ c : Fin 256, mayC 5 c.val = (([0, 16, 128, 131, 135, 144, 145, 151, 153] : List Nat).any fun x => decide ((x : Int) = (c.val : Int))) := by decide +kernel
theorem may9_fin : ∀ c : Fin 256, mayC 9 c.val = (decide ((c.val : Int) ≤ 2) || ([128, 131, 135, 143, 145, 151, 158, 161, 162] : List Nat).any fun x => decide ((x : Int) = (c.val : Int))) := by decide +kernel
theorem may11_fin : ∀ c : Fin 256, mayC 11 c.val = (([0, 17, 128, 131, 135, 143, 145] : List Nat).any fun x => decide ((x : Int) = (c.val : Int))) := by decide +kernel
theorem may14_fin : ∀ c : Fin 256, mayC 14 c.val = (((decide ((c.val : Int) = 0) || decide ((c.val : Int) = 4)) || (decide (128 ≤ (c.val : Int)) && decide ((c.val : Int) ≤ 131)) || (decide (147 ≤ (c.val : Int)) && decide ((c.val : Int) ≤ 162))) || ([135, 137, 139, 141, 142, 143, 144] : List Nat).any fun x => decide ((x : Int) = (c.val : Int))) := by decide +kernel
theorem may15_fin : ∀ c : Fin 256, mayC 15 c.val = (([0, 24, 25] : List Nat).any fun x => decide ((x : Int) = (c.val : Int))) := by decide +kernel
theorem may6_fin : ∀ c : Fin 256, mayC 6 c.val = (decide ((c.val : Int) = 0) || decide ((c.val : Int) = 146)) := by decide +kernel
theorem may7_fin : ∀ c : Fin 256, mayC 7 c.val = (decide ((c.val : Int) = 0) || decide ((c.val : Int) = 146)) := by decide +kernel
theorem rmayr4_any (c : Nat) (hc : c < 256) (w : World) : Calls Try.prog 56 #[.int .i64 4, .int .i64 (c : Int)] w fun e w' => e = .returned (.bool (mayC 4 c)) ∧ Fr [] w w' := by
  have h := may4_fin ⟨c, hc⟩
  dsimp only at h
  have HE := Lib.hid h
  clear h
  go_enter Try.func56, Try.ntmps56
  go_wp2_with fail
  refine (amongN_any (c : Int) w.heap.size [0, 16, 128, 131, 135, 144, 145, 151, 153] _ 9 rfl _ rfl (blk_new _ _) (by decide) (by decide)).mono ?_
  rintro _ _ ⟨rfl, rfl⟩
  obtain ⟨B, hB⟩ : ∃ B, ([0, 16, 128, 131, 135, 144, 145, 151, 153] : List Nat).any (fun x => decide ((x : Int) = (c : Int))) = B := ⟨_, rfl⟩
  rw [hB]
  have HB := Lib.hid hB
  clear hB
  go_wp2
  go_ret
  rw [HE.out, HB.out]
  exact ⟨rfl, (Fr.refl _ _).alloc _⟩
theorem rmayr5_any (c : Nat) (hc : c < 256) (w : World) : Calls Try.prog 56 #[.int .i64 5, .int .i64 (c : Int)] w fun e w' => e = .returned (.bool (mayC 5 c)) ∧ Fr [] w w' := by
  have h := may5_fin ⟨c, hc⟩
  dsimp only at h
  have HE := Lib.hid h
  clear h
  go_enter Try.func56, Try.ntmps56
  go_wp2_with fail
  refine (amongN_any (c : Int) w.heap.size [0, 16, 128, 131, 135, 144, 145, 151, 153] _ 9 rfl _ rfl (blk_new _ _) (by decide) (by decide)).mono ?_
  rintro _ _ ⟨rfl, rfl⟩
  obtain ⟨B, hB⟩ : ∃ B, ([0, 16, 128, 131, 135, 144, 145, 151, 153] : List Nat).any (fun x => decide ((x : Int) = (c : Int))) = B := ⟨_, rfl⟩
  rw [hB]
  have HB := Lib.hid hB
  clear hB
  go_wp2
  go_ret
  rw [HE.out, HB.out]
  exact ⟨rfl, (Fr.refl _ _).alloc _⟩
theorem rmayr11_any (c : Nat) (hc : c < 256) (w : World) : Calls Try.prog 56 #[.int .i64 11, .int .i64 (c : Int)] w fun e w' => e = .returned (.bool (mayC 11 c)) ∧ Fr [] w w' := by
  have h := may11_fin ⟨c, hc⟩
  dsimp only at h
  have HE := Lib.hid h
  clear h
  go_enter Try.func56, Try.ntmps56
  go_wp2_with fail
  refine (amongN_any (c : Int) w.heap.size [0, 17, 128, 131, 135, 143, 145] _ 7 rfl _ rfl (blk_new _ _) (by decide) (by decide)).mono ?_
  rintro _ _ ⟨rfl, rfl⟩
  obtain ⟨B, hB⟩ : ∃ B, ([0, 17, 128, 131, 135, 143, 145] : List Nat).any (fun x => decide ((x : Int) = (c : Int))) = B := ⟨_, rfl⟩
  rw [hB]
  have HB := Lib.hid hB
  clear hB
  go_wp2
  go_ret
  rw [HE.out, HB.out]
  exact ⟨rfl, (Fr.refl _ _).alloc _⟩
theorem rmayr15_any (c : Nat) (hc : c < 256) (w : World) : Calls Try.prog 56 #[.int .i64 15, .int .i64 (c : Int)] w fun e w' => e = .returned (.bool (mayC 15 c)) ∧ Fr [] w w' := by
  have h := may15_fin ⟨c, hc⟩
  dsimp only at h
  have HE := Lib.hid h
  clear h
  go_enter Try.func56, Try.ntmps56
  go_wp2_with fail
  refine (amongN_any (c : Int) w.heap.size [0, 24, 25] _ 3 rfl _ rfl (blk_new _ _) (by decide) (by decide)).mono ?_
  rintro _ _ ⟨rfl, rfl⟩
  obtain ⟨B, hB⟩ : ∃ B, ([0, 24, 25] : List Nat).any (fun x => decide ((x : Int) = (c : Int))) = B := ⟨_, rfl⟩
  rw [hB]
  have HB := Lib.hid hB
  clear hB
  go_wp2
  go_ret
  rw [HE.out, HB.out]
  exact ⟨rfl, (Fr.refl _ _).alloc _⟩
theorem rmayr6_any (c : Nat) (hc : c < 256) (w : World) : Calls Try.prog 56 #[.int .i64 6, .int .i64 (c : Int)] w fun e w' => e = .returned (.bool (mayC 6 c)) ∧ Fr [] w w' := by
  have h := may6_fin ⟨c, hc⟩
  dsimp only at h
  by_cases h0 : (c : Int) = 0
  · have e0 : ((c : Int) == 0) = true := by simpa using h0
    have HE : Hid (mayC 6 c = true) := Lib.hid (by rw [h]; simp [h0])
    clear h h0
    go_enter Try.func56, Try.ntmps56
    go_wp2
    go_ret
    rw [HE.out]
    exact ⟨rfl, (by repeat (first | exact Fr.refl _ _ | (with_reducible apply Fr.alloc) | (with_reducible apply Fr.drew) | (with_reducible apply Fr.drewN) | (with_reducible refine Fr.setCell ?_ (by simp) _)))⟩
  · have e0 : ((c : Int) == 0) = false := by simpa using h0
    have HE : Hid (mayC 6 c = ((c : Int) == 146)) := Lib.hid (by rw [h, show decide ((c : Int) = 0) = false from by simpa using h0, Bool.false_or]; rfl)
    clear h h0
    go_enter Try.func56, Try.ntmps56
    go_wp2
    go_ret
    rw [HE.out]
    exact ⟨rfl, (by repeat (first | exact Fr.refl _ _ | (with_reducible apply Fr.alloc) | (with_reducible apply Fr.drew) | (with_reducible apply Fr.drewN) | (with_reducible refine Fr.setCell ?_ (by simp) _)))⟩
theorem rmayr7_any (c : Nat) (hc : c < 256) (w : World) : Calls Try.prog 56 #[.int .i64 7, .int .i64 (c : Int)] w fun e w' => e = .returned (.bool (mayC 7 c)) ∧ Fr [] w w' := by
  have h := may7_fin ⟨c, hc⟩
  dsimp only at h
  by_cases h0 : (c : Int) = 0
  · have e0 : ((c : Int) == 0) = true := by simpa using h0
    have HE : Hid (mayC 7 c = true) := Lib.hid (by rw [h]; simp [h0])
    clear h h0
    go_enter Try.func56, Try.ntmps56
    go_wp2
    go_ret
    rw [HE.out]
    exact ⟨rfl, (by repeat (first | exact Fr.refl _ _ | (with_reducible apply Fr.alloc) | (with_reducible apply Fr.drew) | (with_reducible apply Fr.drewN) | (with_reducible refine Fr.setCell ?_ (by simp) _)))⟩
  · have e0 : ((c : Int) == 0) = false := by simpa using h0
    have HE : Hid (mayC 7 c = ((c : Int) == 146)) := Lib.hid (by rw [h, show decide ((c : Int) = 0) = false from by simpa using h0, Bool.false_or]; rfl)
    clear h h0
    go_enter Try.func56, Try.ntmps56
    go_wp2
    go_ret
    rw [HE.out]
    exact ⟨rfl, (by repeat (first | exact Fr.refl _ _ | (with_reducible apply Fr.alloc) | (with_reducible apply Fr.drew) | (with_reducible apply Fr.drewN) | (with_reducible refine Fr.setCell ?_ (by simp) _)))⟩
theorem rmayr9_any (c : Nat) (hc : c < 256) (w : World) : Calls Try.prog 56 #[.int .i64 9, .int .i64 (c : Int)] w fun e w' => e = .returned (.bool (mayC 9 c)) ∧ Fr [] w w' := by
  have h := may9_fin ⟨c, hc⟩
  dsimp only at h
  by_cases h0 : (c : Int) ≤ 2
  · have e0 : decide ((c : Int) ≤ 2) = true := by simpa using h0
    have HE : Hid (mayC 9 c = true) := Lib.hid (by rw [h]; simp [h0])
    clear h h0
    go_enter Try.func56, Try.ntmps56
    go_wp2
    go_ret
    rw [HE.out]
    exact ⟨rfl, (by repeat (first | exact Fr.refl _ _ | (with_reducible apply Fr.alloc) | (with_reducible apply Fr.drew) | (with_reducible apply Fr.drewN) | (with_reducible refine Fr.setCell ?_ (by simp) _)))⟩
  · have e0 : decide ((c : Int) ≤ 2) = false := by simpa using h0
    have HE := Lib.hid (show mayC 9 c = _ by rw [h, e0, Bool.false_or])
    clear h h0
    go_enter Try.func56, Try.ntmps56
    go_wp2_with fail
    refine (amongN_any (c : Int) w.heap.size [128, 131, 135, 143, 145, 151, 158, 161, 162] _ 9 rfl _ rfl (blk_new _ _) (by decide) (by decide)).mono ?_
    rintro _ _ ⟨rfl, rfl⟩
    obtain ⟨B, hB⟩ : ∃ B, ([128, 131, 135, 143, 145, 151, 158, 161, 162] : List Nat).any (fun x => decide ((x : Int) = (c : Int))) = B := ⟨_, rfl⟩
    rw [hB]
    have HB := Lib.hid hB
    clear hB
    go_wp2
    go_ret
    rw [HE.out, HB.out]
    exact ⟨rfl, (Fr.refl _ _).alloc _⟩
theorem rmayr2_any (c : Nat) (hc : c < 256) (w : World) : Calls Try.prog 56 #[.int .i64 2, .int .i64 (c : Int)] w fun e w' => e = .returned (.bool (mayC 2 c)) ∧ Fr [] w w' := by
  have h := may2_fin ⟨c, hc⟩
  dsimp only at h
  by_cases h0 : (c : Int) = 0
  · have e0 : ((c : Int) == 0) = true := by simpa using h0
    have HE : Hid (mayC 2 c = true) := Lib.hid (by rw [h]; simp [h0])
    clear h h0
    go_enter Try.func56, Try.ntmps56
    go_wp2
    go_ret
    rw [HE.out]
    exact ⟨rfl, (by repeat (first | exact Fr.refl _ _ | (with_reducible apply Fr.alloc) | (with_reducible apply Fr.drew) | (with_reducible apply Fr.drewN) | (with_reducible refine Fr.setCell ?_ (by simp) _)))⟩
  have e0 : ((c : Int) == 0) = false := by simpa using h0
  have d0 : decide ((c : Int) = 0) = false := by simpa using h0
  by_cases h1 : 128 ≤ (c : Int)
  · have e1 : decide (128 ≤ (c : Int)) = true := by simpa using h1
    by_cases h2 : (c : Int) ≤ 138
    · have e2 : decide ((c : Int) ≤ 138) = true := by simpa using h2
      have HE : Hid (mayC 2 c = true) := Lib.hid (by rw [h, e1, e2]; simp)
      clear h h0 h1 h2 d0
      go_enter Try.func56, Try.ntmps56
      go_wp2
      go_ret
      rw [HE.out]
      exact ⟨rfl, (by repeat (first | exact Fr.refl _ _ | (with_reducible apply Fr.alloc) | (with_reducible apply Fr.drew) | (with_reducible apply Fr.drewN) | (with_reducible refine Fr.setCell ?_ (by simp) _)))⟩
    · have e2 : decide ((c : Int) ≤ 138) = false := by simpa using h2
      have HE := Lib.hid (show mayC 2 c = _ by rw [h, d0, e1, e2, Bool.and_false, Bool.false_or, Bool.false_or])
      clear h h0 h1 h2 d0
      go_enter Try.func56, Try.ntmps56
      go_wp2_with fail
      refine (amongN_any (c : Int) w.heap.size [140, 144, 149, 151, 153, 154, 155, 156, 157, 159] _ 10 rfl _ rfl (blk_new _ _) (by decide) (by decide)).mono ?_
      rintro _ _ ⟨rfl, rfl⟩
      obtain ⟨B, hB⟩ : ∃ B, ([140, 144, 149, 151, 153, 154, 155, 156, 157, 159] : List Nat).any (fun x => decide ((x : Int) = (c : Int))) = B := ⟨_, rfl⟩
      rw [hB]
      have HB := Lib.hid hB
      clear hB
      go_wp2
      go_ret
      rw [HE.out, HB.out]
      exact ⟨rfl, (Fr.refl _ _).alloc _⟩
  · have e1 : decide (128 ≤ (c : Int)) = false := by simpa using h1
    have HE := Lib.hid (show mayC 2 c = _ by rw [h, d0, e1, Bool.false_and, Bool.false_or, Bool.false_or])
    clear h h0 h1 d0
    go_enter Try.func56, Try.ntmps56
    go_wp2_with fail
    refine (amongN_any (c : Int) w.heap.size [140, 144, 149, 151, 153, 154, 155, 156, 157, 159] _ 10 rfl _ rfl (blk_new _ _) (by decide) (by decide)).mono ?_
    rintro _ _ ⟨rfl, rfl⟩
    obtain ⟨B, hB⟩ : ∃ B, ([140, 144, 149, 151, 153, 154, 155, 156, 157, 159] : List Nat).any (fun x => decide ((x : Int) = (c : Int))) = B := ⟨_, rfl⟩
    rw [hB]
    have HB := Lib.hid hB
    clear hB
    go_wp2
    go_ret
    rw [HE.out, HB.out]
    exact ⟨rfl, (Fr.refl _ _).alloc _⟩
theorem rmayr14_any (c : Nat) (hc : c < 256) (w : World) : Calls Try.prog 56 #[.int .i64 14, .int .i64 (c : Int)] w fun e w' => e = .returned (.bool (mayC 14 c)) ∧ Fr [] w w' := by
  have h := may14_fin ⟨c, hc⟩
  dsimp only at h
  by_cases h0 : (c : Int) = 0
  · have e0 : ((c : Int) == 0) = true := by simpa using h0
    have HE : Hid (mayC 14 c = true) := Lib.hid (by rw [h]; simp [h0])
    clear h h0
    go_enter Try.func56, Try.ntmps56
    go_wp2
    go_ret
    rw [HE.out]
    exact ⟨rfl, (by repeat (first | exact Fr.refl _ _ | (with_reducible apply Fr.alloc) | (with_reducible apply Fr.drew) | (with_reducible apply Fr.drewN) | (with_reducible refine Fr.setCell ?_ (by simp) _)))⟩
  have e0 : ((c : Int) == 0) = false := by simpa using h0
  have d0 : decide ((c : Int) = 0) = false := by simpa using h0
  by_cases h4 : (c : Int) = 4
  · have e4 : ((c : Int) == 4) = true := by simpa using h4
    have HE : Hid (mayC 14 c = true) := Lib.hid (by rw [h]; simp [h4])
    clear h h0 h4 d0
    go_enter Try.func56, Try.ntmps56
    go_wp2
    go_ret
    rw [HE.out]
    exact ⟨rfl, (by repeat (first | exact Fr.refl _ _ | (with_reducible apply Fr.alloc) | (with_reducible apply Fr.drew) | (with_reducible apply Fr.drewN) | (with_reducible refine Fr.setCell ?_ (by simp) _)))⟩
  have e4 : ((c : Int) == 4) = false := by simpa using h4
  have d4 : decide ((c : Int) = 4) = false := by simpa using h4
  clear h0 h4
  by_cases h1 : 128 ≤ (c : Int)
  · have e1 : decide (128 ≤ (c : Int)) = true := by simpa using h1
    by_cases h2 : (c : Int) ≤ 131
    · have e2 : decide ((c : Int) ≤ 131) = true := by simpa using h2
      have HE : Hid (mayC 14 c = true) := Lib.hid (by rw [h, e1, e2]; simp)
      clear h h1 h2 d0 d4
      go_enter Try.func56, Try.ntmps56
      go_wp2
      go_ret
      rw [HE.out]
      exact ⟨rfl, (by repeat (first | exact Fr.refl _ _ | (with_reducible apply Fr.alloc) | (with_reducible apply Fr.drew) | (with_reducible apply Fr.drewN) | (with_reducible refine Fr.setCell ?_ (by simp) _)))⟩
    have e2 : decide ((c : Int) ≤ 131) = false := by simpa using h2
    by_cases h3 : 147 ≤ (c : Int)
    · have e3 : decide (147 ≤ (c : Int)) = true := by simpa using h3
      by_cases h5 : (c : Int) ≤ 162
      · have e5 : decide ((c : Int) ≤ 162) = true := by simpa using h5
        have HE : Hid (mayC 14 c = true) := Lib.hid (by rw [h, e3, e5]; simp)
        clear h h1 h2 h3 h5 d0 d4
        go_enter Try.func56, Try.ntmps56
        go_wp2
        go_ret
        rw [HE.out]
        exact ⟨rfl, (by repeat (first | exact Fr.refl _ _ | (with_reducible apply Fr.alloc) | (with_reducible apply Fr.drew) | (with_reducible apply Fr.drewN) | (with_reducible refine Fr.setCell ?_ (by simp) _)))⟩
      · have e5 : decide ((c : Int) ≤ 162) = false := by simpa using h5
        have HE := Lib.hid (show mayC 14 c = _ by rw [h, d0, d4, e1, e2, e3, e5, Bool.and_false, Bool.false_or, Bool.false_or, Bool.false_or, Bool.false_or])
        clear h h1 h2 h3 h5 d0 d4
        go_enter Try.func56, Try.ntmps56
        go_wp2_with fail
        refine (amongN_any (c : Int) w.heap.size [135, 137, 139, 141, 142, 143, 144] _ 7 rfl _ rfl (blk_new _ _) (by decide) (by decide)).mono ?_
        rintro _ _ ⟨rfl, rfl⟩
        obtain ⟨B, hB⟩ : ∃ B, ([135, 137, 139, 141, 142, 143, 144] : List Nat).any (fun x => decide ((x : Int) = (c : Int))) = B := ⟨_, rfl⟩
        rw [hB]
        have HB := Lib.hid hB
        clear hB
        go_wp2
        go_ret
        rw [HE.out, HB.out]
        exact ⟨rfl, (Fr.refl _ _).alloc _⟩
    · have e3 : decide (147 ≤ (c : Int)) = false := by simpa using h3
      have HE := Lib.hid (show mayC 14 c = _ by rw [h, d0, d4, e1, e2, e3, Bool.and_false, Bool.false_and, Bool.false_or, Bool.false_or, Bool.false_or, Bool.false_or])
      clear h h1 h2 h3 d0 d4
      go_enter Try.func56, Try.ntmps56
      go_wp2_with fail
      refine (amongN_any (c : Int) w.heap.size [135, 137, 139, 141, 142, 143, 144] _ 7 rfl _ rfl (blk_new _ _) (by decide) (by decide)).mono ?_
      rintro _ _ ⟨rfl, rfl⟩
      obtain ⟨B, hB⟩ : ∃ B, ([135, 137, 139, 141, 142, 143, 144] : List Nat).any (fun x => decide ((x : Int) = (c : Int))) = B := ⟨_, rfl⟩
      rw [hB]
      have HB := Lib.hid hB
      clear hB
      go_wp2
      go_ret
      rw [HE.out, HB.out]
      exact ⟨rfl, (Fr.refl _ _).alloc _⟩
  · have e1 : decide (128 ≤ (c : Int)) = false := by simpa using h1
    have e3 : decide (147 ≤ (c : Int)) = false := by simp; omega
    have HE := Lib.hid (show mayC 14 c = _ by rw [h, d0, d4, e1, e3, Bool.false_and, Bool.false_and, Bool.false_or, Bool.false_or, Bool.false_or, Bool.false_or])
    clear h h1 d0 d4
    go_enter Try.func56, Try.ntmps56
    go_wp2_with fail
    refine (amongN_any (c : Int) w.heap.size [135, 137, 139, 141, 142, 143, 144] _ 7 rfl _ rfl (blk_new _ _) (by decide) (by decide)).mono ?_
    rintro _ _ ⟨rfl, rfl⟩
    obtain ⟨B, hB⟩ : ∃ B, ([135, 137, 139, 141, 142, 143, 144] : List Nat).any (fun x => decide ((x : Int) = (c : Int))) = B := ⟨_, rfl⟩
    rw [hB]
    have HB := Lib.hid hB
    clear hB
    go_wp2
    go_ret
    rw [HE.out, HB.out]
    exact ⟨rfl, (Fr.refl _ _).alloc _⟩
theorem rmayr_any (k : Int) (c : Nat) (hc : c < 256) (w : World) : Calls Try.prog 56 #[.int .i64 k, .int .i64 (c : Int)] w fun e w' => e = .returned (.bool (mayC k c)) ∧ Fr [] w w' := by
  by_cases h2 : k = 2
  · subst h2; exact rmayr2_any c hc w
  by_cases h4 : k = 4
  · subst h4; exact rmayr4_any c hc w
  by_cases h5 : k = 5
  · subst h5; exact rmayr5_any c hc w
  by_cases h6 : k = 6
  · subst h6; exact rmayr6_any c hc w
  by_cases h7 : k = 7
  · subst h7; exact rmayr7_any c hc w
  by_cases h9 : k = 9
  · subst h9; exact rmayr9_any c hc w
  by_cases h11 : k = 11
  · subst h11; exact rmayr11_any c hc w
  by_cases h14 : k = 14
  · subst h14; exact rmayr14_any c hc w
  by_cases h15 : k = 15
  · subst h15; exact rmayr15_any c hc w
  have e2 : (k == 2) = false := by simpa using h2
  have e4 : (k == 4) = false := by simpa using h4
  have e5 : (k == 5) = false := by simpa using h5
  have e6 : (k == 6) = false := by simpa using h6
  have e7 : (k == 7) = false := by simpa using h7
  have e9 : (k == 9) = false := by simpa using h9
  have e11 : (k == 11) = false := by simpa using h11
  have e14 : (k == 14) = false := by simpa using h14
  have e15 : (k == 15) = false := by simpa using h15
  have HE : Hid (mayC k c = false) := Lib.hid (by simp [mayC, codesB, h2, h4, h5, h6, h7, h9, h11, h14, h15])
  clear h2 h4 h5 h6 h7 h9 h11 h14 h15
  go_enter Try.func56, Try.ntmps56
  go_wp2
  go_ret
  rw [HE.out]
  exact ⟨rfl, Fr.refl _ _⟩
end Go.Proofs.Ythioageiebchlaa
