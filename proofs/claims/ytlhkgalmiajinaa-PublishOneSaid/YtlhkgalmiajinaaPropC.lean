/- What of, set, Kind, May of package prop come to, of any identifier. No condition. -/
import Derived.Test.YtlhkgalmiajinaaPropB
namespace Go.Proofs.Ytlhkgalmiajinaa
open Go.RowKit

theorem of_any (id : Int) (w : World) : Calls Try.prog 99 #[.int .i64 id] w fun e w' => e = .returned (.agg #[.int .i64 (ruleOf id).kind, .int .i64 (ruleOf id).inn, .int .u32 (ruleOf id).least, .int .u32 (ruleOf id).most, .int .i64 (ruleOf id).many]) ∧ Fr [] w w' := by
  by_cases h1 : id = 1
  · subst h1; exact of1_any w
  by_cases h2 : id = 2
  · subst h2; exact of2_any w
  by_cases h3 : id = 3
  · subst h3; exact of3_any w
  by_cases h8 : id = 8
  · subst h8; exact of8_any w
  by_cases h9 : id = 9
  · subst h9; exact of9_any w
  by_cases h11 : id = 11
  · subst h11; exact of11_any w
  by_cases h17 : id = 17
  · subst h17; exact of17_any w
  by_cases h18 : id = 18
  · subst h18; exact of18_any w
  by_cases h19 : id = 19
  · subst h19; exact of19_any w
  by_cases h21 : id = 21
  · subst h21; exact of21_any w
  by_cases h22 : id = 22
  · subst h22; exact of22_any w
  by_cases h23 : id = 23
  · subst h23; exact of23_any w
  by_cases h25 : id = 25
  · subst h25; exact of25_any w
  by_cases h24 : id = 24
  · subst h24; exact of24_any w
  by_cases h26 : id = 26
  · subst h26; exact of26_any w
  by_cases h28 : id = 28
  · subst h28; exact of28_any w
  by_cases h31 : id = 31
  · subst h31; exact of31_any w
  by_cases h33 : id = 33
  · subst h33; exact of33_any w
  by_cases h34 : id = 34
  · subst h34; exact of34_any w
  by_cases h35 : id = 35
  · subst h35; exact of35_any w
  by_cases h36 : id = 36
  · subst h36; exact of36_any w
  by_cases h37 : id = 37
  · subst h37; exact of37_any w
  by_cases h40 : id = 40
  · subst h40; exact of40_any w
  by_cases h41 : id = 41
  · subst h41; exact of41_any w
  by_cases h42 : id = 42
  · subst h42; exact of42_any w
  by_cases h38 : id = 38
  · subst h38; exact of38_any w
  by_cases h39 : id = 39
  · subst h39; exact of39_any w
  have e : ruleOf id = ⟨0, 0, 0, 0, 0⟩ := by
    unfold ruleOf
    rw [if_neg h1, if_neg h2, if_neg h3, if_neg h8, if_neg h9, if_neg h11, if_neg h17, if_neg h18, if_neg h19, if_neg h21, if_neg h22, if_neg h23, if_neg h25, if_neg h24, if_neg h26, if_neg h28, if_neg h31, if_neg h33, if_neg h34, if_neg h35, if_neg h36, if_neg h37, if_neg h40, if_neg h41, if_neg h42, if_neg h38, if_neg h39]
  rw [e]
  exact of0_any id w h1 h2 h3 h8 h9 h11 h17 h18 h19 h21 h22 h23 h25 h24 h26 h28 h31 h33 h34 h35 h36 h37 h40 h41 h42 h38 h39
theorem field_kind (W : World) (a b e : Int) (c d : Int) : (Instr.field 142 (.agg #[.int .i64 a, .int .i64 b, .int .u32 c, .int .u32 d, .int .i64 e]) 0).run Try.prog W = .ok (.int .i64 a) W := by kernel_rfl
theorem field_in (W : World) (a b e : Int) (c d : Int) : (Instr.field 142 (.agg #[.int .i64 a, .int .i64 b, .int .u32 c, .int .u32 d, .int .i64 e]) 1).run Try.prog W = .ok (.int .i64 b) W := by kernel_rfl
/-- The bit of a packet. -/
def setN (kind : Int) (isWill : Bool) : Int := if isWill = true then 65536 else if kind < 1 ∨ 15 < kind then 0 else 2 ^ kind.toNat
theorem set_any (kind : Int) (isWill : Bool) (w : World) : Calls Try.prog 100 #[.int .i64 kind, .bool isWill] w fun e w' => e = .returned (.int .i64 (setN kind isWill)) ∧ w = w' := by
  cases isWill
  · by_cases h1 : kind < 1
    · have H : Hid (setN kind false = 0) := Lib.hid (by rw [setN, if_neg (by decide), if_pos (Or.inl h1)])
      go_enter Try.func100, Try.ntmps100
      go_wp2
      go_ret
      rw [H.out]
      exact ⟨rfl, rfl⟩
    by_cases h2 : 15 < kind
    · have H : Hid (setN kind false = 0) := Lib.hid (by rw [setN, if_neg (by decide), if_pos (Or.inr h2)])
      go_enter Try.func100, Try.ntmps100
      go_wp2
      go_ret
      rw [H.out]
      exact ⟨rfl, rfl⟩
    · obtain ⟨k, rfl⟩ := Int.eq_ofNat_of_zero_le (show 0 ≤ kind by omega)
      have H : Hid (setN k false = 2 ^ k) := Lib.hid (by rw [setN, if_neg (by decide), if_neg (by omega), Int.toNat_natCast])
      have H2 : Hid (wrap64 (2 ^ k) = 2 ^ k) := Lib.hid (wrap_pow k (by omega))
      go_enter Try.func100, Try.ntmps100
      go_wp2
      go_ret
      rw [H.out]
      exact ⟨ret_int (by rw [H2.out]), rfl⟩
  · go_enter Try.func100, Try.ntmps100
    go_wp2
    go_ret
    exact ⟨rfl, rfl⟩
set_option maxRecDepth 100000 in
theorem pkind_any (id : Int) (w : World) : Calls Try.prog 87 #[.int .i64 id] w fun e w' => e = .returned (.int .i64 (ruleOf id).kind) ∧ Fr [] w w' := by
  have hfl := field_kind
  go_enter Try.func87, Try.ntmps87
  go_wp2_with fail
  refine (of_any id _).mono ?_
  rintro _ w1 ⟨rfl, hf⟩
  go_wp2
  go_ret
  exact ⟨rfl, hf⟩
/-- May it be there? -/
def mayB (id kind : Int) (isWill : Bool) : Bool := !(bits .and .i64 (ruleOf id).inn (setN kind isWill) == 0)
def manyB (id kind : Int) (isWill : Bool) : Bool := !(bits .and .i64 (ruleOf id).many (setN kind isWill) == 0)
end Go.Proofs.Ytlhkgalmiajinaa
