/- What awake of the law package of layer 16 comes to: true; messages handed in, as a list. No condition. -/
import Derived.Test.YtnplinohoflabaaQueG
import Derived.Test.YtnplinohoflabaaQueW
import Derived.Test.YtnplinohoflabaaMsG
import Derived.Test.YtnplinohoflabaaPropOpen
namespace Go.Proofs.Ytnplinohoflabaa
open Go.RowKit
set_option linter.unusedVariables false
set_option linter.unusedSimpArgs false

theorem qpush_eq (base q : Nat) (v : Value) (L : List Ms) (most : Nat) (x : Ms) (w : World) (h : QAt w base q v L most) (hb : base ≤ w.heap.size) (hl : L.length < 1000000) (hm : most ≤ 9223372036854775807)
    (L' : List Ms) (d : Option Ms) (out : Ms) (ok : Bool) (hR : pushG ltMs L x most = (L', d)) (ho : d.getD ms0 = out) (hk : d.isSome = ok) :
    Calls Try.prog 17 #[.pointer (some ⟨q, 0, none⟩), .agg (msC x).toArray] w fun e w' => ∃ v', e = .returned (.tuple #[.agg (msC out).toArray, .bool ok]) ∧ QAt w' base q v' L' most ∧ Fr (q :: v.ownBlock.toList) w w' := by
  refine (qpush_any base q v L most x w h hb hl hm).mono fun e w' hp => ?_
  obtain ⟨v', he, h1, h2⟩ := hp
  rw [hR] at he h1
  subst ho hk
  exact ⟨v', he, h1, h2⟩
theorem Fr.que {a b c : World} {base q : Nat} {v : Value} {L : List Ms} {most : Nat} (h : Fr [] a b) (k : Fr (q :: v.ownBlock.toList) b c) (H : QAt b base q v L most) (hb : a.heap.size ≤ base) (hq : a.heap.size ≤ q) : Fr [] a c :=
  h.trans k fun x hx hm => by
    rcases List.mem_cons.1 hm with rfl | hm
    · omega
    · have := (H.2.lt x (by simpa using hm)).1
      omega
theorem f32_int : ∀ n : Fin 64, floatToIntVal .f32 (f32n n.val) .i64 = some (n.val : Int) := by decide +kernel
set_option maxHeartbeats 1000000 in
theorem awake16_any (w : World) : Calls Try.prog 13 #[] w fun e w' => e = .returned (.bool true) ∧ Fr [] w w' := by
  have hq0 := blk_new w (.cells #[.slice none 0 0, .int .i64 2] 100)
  have H0 : QAt (w.alloc (.cells #[.slice none 0 0, .int .i64 2] 100)) w.heap.size w.heap.size (.slice none 0 0) [] 2 := ⟨hq0, World.ownsRow_nil _ _ _ _⟩
  have F0 : Fr [] w (w.alloc (.cells #[.slice none 0 0, .int .i64 2] 100)) := (Fr.refl _ _).alloc _
  have hceq : ∀ W, (binOp .eql 32 (.complex .f32 0 1073741824) (.complex .f32 0 1073741824)).run Try.prog W = .ok (.bool true) W := fun W => by kernel_rfl
  clear hq0
  go_enter Try.func13, Try.ntmps13
  go_wp2_with fail
  refine (qnew_any 2 w).mono ?_
  rintro _ y ⟨rfl, rfl⟩
  rw [show max (2 : Int) 0 = 2 from rfl]
  go_wp2_with fail
  refine (qpush_eq w.heap.size w.heap.size _ [] 2 ⟨[], 0, 0, false, none, 0, 0, [97], []⟩ _ H0 (by simp) (by decide) (by decide) _ _ _ _ rfl rfl rfl).mono ?_
  rintro _ w1 ⟨v1, rfl, H1, f1⟩
  have F1 := F0.que f1 H0 (Nat.le_refl _) (Nat.le_refl _)
  clear f1 H0 F0
  go_wp2_with fail
  refine (qpush_eq w.heap.size w.heap.size _ _ 2 ⟨[], 0, 1, false, none, 0, 0, [98], []⟩ _ H1 F1.size (by decide) (by decide) _ _ _ _ rfl rfl rfl).mono ?_
  rintro _ w2 ⟨v2, rfl, H2, f2⟩
  have F2 := F1.que f2 H1 (Nat.le_refl _) (Nat.le_refl _)
  clear f2 H1 F1
  go_wp2_with fail
  refine (qpush_eq w.heap.size w.heap.size _ _ 2 ⟨[], 0, 1, false, none, 0, 0, [99], []⟩ _ H2 F2.size (by decide) (by decide) _ _ ⟨[], 0, 0, false, none, 0, 0, [97], []⟩ true rfl rfl rfl).mono ?_
  rintro _ w3 ⟨v3, rfl, H3, f3⟩
  have F3 := F2.que f3 H2 (Nat.le_refl _) (Nat.le_refl _)
  clear f3 H2 F2
  dsimp only [msC]
  have hlow := Lib.hid (fun k hk => (H3.2.lt k hk).2)
  have hqw := Lib.hid (blk_lt H3.1)
  have H4 := H3.fr0 ((Fr.refl [] w3).alloc (.cells #[.string ⟨#[]⟩, .int .i64 0, .int .u8 0, .bool false, .slice none 0 0, .string ⟨#[97]⟩, .string ⟨#[]⟩] 29))
  have F4 := F3.alloc (.cells #[.string ⟨#[]⟩, .int .i64 0, .int .u8 0, .bool false, .slice none 0 0, .string ⟨#[97]⟩, .string ⟨#[]⟩] 29)
  have hc := blk_new w3 (.cells #[.string ⟨#[]⟩, .int .i64 0, .int .u8 0, .bool false, .slice none 0 0, .string ⟨#[97]⟩, .string ⟨#[]⟩] 29)
  clear H3 F3
  go_wp2_with fail
  refine (qpush_eq w.heap.size w.heap.size _ _ 2 ⟨[], 0, 0, false, none, 0, 0, [100], []⟩ _ H4 F4.size (by decide) (by decide) _ _ ⟨[], 0, 0, false, none, 0, 0, [100], []⟩ true rfl rfl rfl).mono ?_
  rintro _ w4 ⟨v4, rfl, H5, f5⟩
  dsimp only [msC]
  have F5 := F4.que f5 H4 (Nat.le_refl _) (Nat.le_refl _)
  have hc5 := blk_old (f5.blk hc (by intro h; rcases List.mem_cons.1 h with h | h; (have := hqw.out; omega); (have := hlow.out _ (by simpa using h); omega))) (.cells #[.string ⟨#[]⟩, .int .i64 0, .int .u8 0, .bool false, .slice none 0 0, .string ⟨#[100]⟩, .string ⟨#[]⟩] 29)
  have hd5 := blk_new w4 (.cells #[.string ⟨#[]⟩, .int .i64 0, .int .u8 0, .bool false, .slice none 0 0, .string ⟨#[100]⟩, .string ⟨#[]⟩] 29)
  have H6 := Lib.hid (H5.fr0 ((Fr.refl [] w4).alloc (.cells #[.string ⟨#[]⟩, .int .i64 0, .int .u8 0, .bool false, .slice none 0 0, .string ⟨#[100]⟩, .string ⟨#[]⟩] 29)))
  have F6 := Lib.hid (F5.alloc (.cells #[.string ⟨#[]⟩, .int .i64 0, .int .u8 0, .bool false, .slice none 0 0, .string ⟨#[100]⟩, .string ⟨#[]⟩] 29))
  clear f5 H4 F4 hc H5 F5
  go_upto_region 8 with (fail)
  obtain ⟨z, hz⟩ : ∃ z, w4.alloc (.cells #[.string ⟨#[]⟩, .int .i64 0, .int .u8 0, .bool false, .slice none 0 0, .string ⟨#[100]⟩, .string ⟨#[]⟩] 29) = z := ⟨_, rfl⟩
  rw [hz] at hc5 hd5 H6 F6 ⊢
  clear hz
  obtain ⟨⟨e0, e1, e2, e3, e4, e5, e6⟩, _, _⟩ := blk7_facts hc5
  obtain ⟨⟨d0, d1, d2, d3, d4, d5, d6⟩, _, _⟩ := blk7_facts hd5
  clear hc5 hd5
  go_wp2_with fail
  refine (qlen_any _ _ _ _ _ _ H6.out).mono ?_
  rintro _ _ ⟨rfl, rfl⟩
  go_wp2_with fail
  refine (qweigh_any _ _ _ _ _ _ H6.out (by decide)).mono ?_
  rintro _ w6 ⟨rfl, g6⟩
  rw [show ∀ a b : Nat, Value.complex .f32 a b = .complex .f32 a b from fun _ _ => rfl]
  have hh : ∀ a b, a = 0 → b = 1073741824 → Value.complex .f32 a b = .complex .f32 0 1073741824 := fun a b h h' => by rw [h, h']
  rw [hh _ _ (by decide +kernel) (by decide +kernel)]
  go_wp2
  go_ret
  exact ⟨rfl, F6.out.trans g6 (by simp)⟩
end Go.Proofs.Ytnplinohoflabaa
