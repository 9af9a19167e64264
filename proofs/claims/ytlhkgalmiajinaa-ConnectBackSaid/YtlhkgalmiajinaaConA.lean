/- What package connect writes: a connect's flags, its body; a connack's. Conditions: numbers within their kinds, strings that may be. -/
import Derived.Test.YtlhkgalmiajinaaCn
import Derived.Test.YtlhkgalmiajinaaBlks
import Derived.Test.YtlhkgalmiajinaaPropG
import Derived.Test.YtlhkgalmiajinaaIn
namespace Go.Proofs.Ytlhkgalmiajinaa
open Go.RowKit
set_option linter.unusedVariables false
set_option linter.unusedSimpArgs false

def bitI (b : Bool) (n : Int) : Int := if b = true then n else 0
theorem bit_any (b : Bool) (n : Int) (w : World) : Calls Try.prog 72 #[.bool b, .int .u8 n] w fun e w' => e = .returned (.int .u8 (bitI b n)) ∧ w = w' := by
  have HB : Hid (bitI b n = if b = true then n else 0) := Lib.hid rfl
  go_enter Try.func72, Try.ntmps72
  cases b
  all_goals
    go_wp2
    go_ret
    rw [HB.out]
    exact ⟨rfl, rfl⟩
theorem cn_or4 : ∀ a b c d : Bool, bits .or .u8 (bits .or .u8 (bits .or .u8 (bitI a 2) (bitI b 4)) (bitI c 64)) (bitI d 128) = ((bitN a 2 + bitN b 4 + bitN c 64 + bitN d 128 : Nat) : Int) := by decide +kernel
theorem cn_or2 : ∀ a c d r : Bool, ∀ q : Fin 256, bits .or .u8 ((bitN a 2 : Nat) + (bitN true 4 : Nat) + (bitN c 64 : Nat) + (bitN d 128 : Nat) : Int) (bits .or .u8 (bits .and .u8 (q.val : Int) 3 * 8 % 256) (bitI r 32)) = ((bitN a 2 + bitN true 4 + bitN c 64 + bitN d 128 + (q.val % 4 * 8 + bitN r 32) : Nat) : Int) := by decide +kernel
set_option maxRecDepth 100000 in
theorem cnflags_any (c : Cn) (v u : Value) (w : World) (hq : c.qos < 256) :
    Calls Try.prog 60 #[.agg (cnC c v u).toArray] w fun e w' => e = .returned (.int .u8 (cnFlags c : Nat)) ∧ Fr [] w w' := by
  obtain ⟨clean, keep, props, id, hasWill, wp, topic, pay, qos, ret, hasUser, hasPass, user, pass⟩ := c
  dsimp only at hq
  have h4 := Lib.hid (cn_or4 clean hasWill hasPass hasUser)
  have h2 := Lib.hid (cn_or2 clean hasPass hasUser ret ⟨qos, hq⟩)
  have HF : Hid (cnFlags ⟨clean, keep, props, id, hasWill, wp, topic, pay, qos, ret, hasUser, hasPass, user, pass⟩ = bitN clean 2 + bitN hasWill 4 + bitN hasPass 64 + bitN hasUser 128 + (if hasWill = true then qos % 4 * 8 + bitN ret 32 else 0)) := Lib.hid rfl
  have hb0 := blk_new w (.cells (cnC ⟨clean, keep, props, id, hasWill, wp, topic, pay, qos, ret, hasUser, hasPass, user, pass⟩ v u).toArray 48)
  have F0 : Fr [] w (w.alloc (.cells (cnC ⟨clean, keep, props, id, hasWill, wp, topic, pay, qos, ret, hasUser, hasPass, user, pass⟩ v u).toArray 48)) := (Fr.refl _ _).alloc _
  unfold cnC at hb0 F0 ⊢
  go_enter Try.func60, Try.ntmps60
  go_upto_region 1 with (fail)
  obtain ⟨y, hy⟩ : ∃ y, w.alloc (.cells #[.bool clean, .int .u32 (keep : Int), v, .string ⟨id.toArray⟩, .bool hasWill, u, .string ⟨topic.toArray⟩, .string ⟨pay.toArray⟩, .int .u8 (qos : Int), .bool ret, .bool hasUser, .bool hasPass, .string ⟨user.toArray⟩, .string ⟨pass.toArray⟩] 48) = y := ⟨_, rfl⟩
  rw [hy] at hb0 F0 ⊢
  clear hy
  have HB := Lib.hid hb0
  have HF0 := Lib.hid F0
  clear F0 hb0
  obtain ⟨⟨e0, e1, e2, e3, e4, e5, e6, e7, e8, e9, e10, e11, e12, e13⟩, ⟨k0, k1, k2, k3, k4, k5, k6, k7, k8, k9, k10, k11, k12, k13⟩, _⟩ := blk14n_facts (HB.out)
  go_quiet ((go_at_call 72; exact qsame (bit_any _ _ _)))
  obtain ⟨z, hz⟩ : ∃ z, y.drewN nq = z := ⟨_, rfl⟩
  have hb1 : z.heap[w.heap.size]? = some (.cells #[.bool clean, .int .u32 (keep : Int), v, .string ⟨id.toArray⟩, .bool hasWill, u, .string ⟨topic.toArray⟩, .string ⟨pay.toArray⟩, .int .u8 (qos : Int), .bool ret, .bool hasUser, .bool hasPass, .string ⟨user.toArray⟩, .string ⟨pass.toArray⟩] 48 (0, 0)) := by rw [← hz]; exact HB.out
  have F1 : Fr [] w z := by rw [← hz]; exact HF0.out.drewN nq
  rw [hz]
  rw [h4.out]
  clear h4 hz HB HF0
  clear e0 e1 e2 e3 e4 e5 e6 e7 e8 e9 e10 e11 e12 e13 k0 k1 k2 k3 k4 k5 k6 k7 k8 k9 k10 k11 k12 k13
  have HB := Lib.hid hb1
  have HF0 := Lib.hid F1
  clear hb1 F1
  obtain ⟨⟨e0, e1, e2, e3, e4, e5, e6, e7, e8, e9, e10, e11, e12, e13⟩, ⟨k0, k1, k2, k3, k4, k5, k6, k7, k8, k9, k10, k11, k12, k13⟩, _⟩ := blk14n_facts (HB.out)
  cases hasWill
  · go_wp2
    go_ret
    rw [HF.out, if_neg (by decide), Nat.add_zero]
    exact ⟨rfl, HF0.out⟩
  · go_upto_region 3 with (fail)
    go_quiet ((go_at_call 72; exact qsame (bit_any _ _ _)))
    have h2' := h2.out
    dsimp only at h2'
    go_wp2
    go_ret
    rw [HF.out]
    exact ⟨ret_int (by have e := h2'; simp only [if_true]; push_cast at e ⊢; omega), HF0.out.drewN _⟩
/-- What a connect's numbers, texts and properties may be. -/
structure CnOk (w : World) (c : Cn) (v u : Value) : Prop where
  k : c.keep < 4294967296
  q : c.qos < 256
  v : View w v c.props.length (c.props.flatMap prE)
  u : View w u c.wp.length (c.wp.flatMap prE)
  vl : c.props.length ≤ 1000
  ul : c.wp.length ≤ 1000
  vo : ∀ x ∈ c.props, x.n < 4294967296 ∧ x.s.length ≤ 9223372036854775807 ∧ x.t.length ≤ 9223372036854775807
  uo : ∀ x ∈ c.wp, x.n < 4294967296 ∧ x.s.length ≤ 9223372036854775807 ∧ x.t.length ≤ 9223372036854775807
  id : c.id.length ≤ 9223372036854775807
  topic : c.topic.length ≤ 9223372036854775807
  pay : c.pay.length ≤ 9223372036854775807
  user : c.user.length ≤ 9223372036854775807
  pass : c.pass.length ≤ 9223372036854775807
theorem CnOk.fr {w w' : World} {c : Cn} {v u : Value} (h : CnOk w c v u) (g : Fr [] w w') : CnOk w' c v u :=
  ⟨h.k, h.q, h.v.old g (by simp), h.u.old g (by simp), h.vl, h.ul, h.vo, h.uo, h.id, h.topic, h.pay, h.user, h.pass⟩
/-- A connect's text is being written: l so far, into the block behind the connect's. -/
structure TxS (w : World) (c : Cn) (v u : Value) (y : World) (l : List UInt8) : Prop where
  o : ∃ o, OutAt y (w.heap.size + 1) o l ∧ w.heap.size + 1 ≤ o
  c : y.heap[w.heap.size]? = some (.cells (cnC c v u).toArray 48 (0, 0))
  f : Fr [] w y
theorem TxS.go {w y y' : World} {c : Cn} {v u : Value} {l l' : List UInt8} (h : TxS w c v u y l) {o o' : Nat} (hb : w.heap.size + 1 ≤ o) (ho : OutAt y' (w.heap.size + 1) o' l') (hn : o' = o ∨ y.heap.size ≤ o') (g : Fr [w.heap.size + 1, o] y y') : TxS w c v u y' l' := by
  have hz := blk_lt h.c
  refine ⟨⟨o', ho, by omega⟩, g.blk h.c (by simp; omega), h.f.trans g (by intro x hx e; simp at e; omega)⟩
theorem TxS.still {w y y' : World} {c : Cn} {v u : Value} {l : List UInt8} (h : TxS w c v u y l) (g : Fr [] y y') : TxS w c v u y' l := by
  obtain ⟨⟨o, ho, hb⟩, h2, h3⟩ := h
  exact ⟨⟨o, ho.fr g (by simp) (by simp), hb⟩, g.blk h2 (by simp), h3.trans g (by simp)⟩
theorem TxS.data {w y : World} {c : Cn} {v u : Value} {l : List UInt8} (h : TxS w c v u y l) (s : List UInt8) (hs : s.length ≤ 9223372036854775807) (hl : l.length < 70368744100000) :
    Calls Try.prog 50 #[.pointer (some ⟨w.heap.size + 1, 0, none⟩), .string ⟨s.toArray⟩] y fun e y' => e = .returned (.pointer (some ⟨w.heap.size + 1, 0, none⟩)) ∧ TxS w c v u y' (l ++ dataB s) := by
  obtain ⟨o, ho, hb⟩ := h.o
  refine (outdata_any _ o l s y ho hs hl).mono ?_
  rintro _ y' ⟨rfl, o', h1, h2, h3⟩
  exact ⟨rfl, h.go hb h1 h2 h3⟩
theorem TxS.byte {w y : World} {c : Cn} {v u : Value} {l : List UInt8} (h : TxS w c v u y l) (n : Int) (h0 : 0 ≤ n) (h1 : n < 256) (hl : l.length < 70368744177664) :
    Calls Try.prog 58 #[.pointer (some ⟨w.heap.size + 1, 0, none⟩), .int .u8 n] y fun e y' => e = .returned (.pointer (some ⟨w.heap.size + 1, 0, none⟩)) ∧ TxS w c v u y' (l ++ [b8 n.toNat]) := by
  obtain ⟨o, ho, hb⟩ := h.o
  refine (outbyte_any _ o l n y ho h0 h1 hl).mono ?_
  rintro _ y' ⟨rfl, o', h1, h2, h3⟩
  exact ⟨rfl, h.go hb h1 h2 h3⟩
theorem TxS.two {w y : World} {c : Cn} {v u : Value} {l : List UInt8} (h : TxS w c v u y l) (n : Nat) (h1 : n < 4294967296) (hl : l.length < 70368744177663) :
    Calls Try.prog 51 #[.pointer (some ⟨w.heap.size + 1, 0, none⟩), .int .u32 (n : Int)] y fun e y' => e = .returned (.pointer (some ⟨w.heap.size + 1, 0, none⟩)) ∧ TxS w c v u y' (l ++ two n) := by
  obtain ⟨o, ho, hb⟩ := h.o
  refine (outtwo_any _ o l n y ho (by omega) (by omega) hl).mono ?_
  rintro _ y' ⟨rfl, o', h1, h2, h3⟩
  exact ⟨rfl, h.go hb h1 h2 h3⟩
theorem TxS.puts {w y : World} {c : Cn} {v u : Value} {l : List UInt8} (h : TxS w c v u y l) (p : List Pr) (x : Value) (hx : View w x p.length (p.flatMap prE)) (hp : p.length ≤ 1000) (hok : ∀ x ∈ p, x.n < 4294967296 ∧ x.s.length ≤ 9223372036854775807 ∧ x.t.length ≤ 9223372036854775807) (hl : l.length < 1000000000) :
    Calls Try.prog 52 #[.pointer (some ⟨w.heap.size + 1, 0, none⟩), x] y fun e y' => e = .returned (.tuple #[]) ∧ TxS w c v u y' (l ++ propsB p) := by
  obtain ⟨o, ho, hb⟩ := h.o
  refine (puts_any _ o l x p y ho (hx.old h.f (by simp)) hp hok (by omega)).mono ?_
  rintro _ y' ⟨rfl, o', h1, h2, h3⟩
  exact ⟨rfl, h.go hb (by simpa [propsB] using h1) h2 h3⟩
theorem TxS.flags {w y : World} {c : Cn} {v u : Value} {l : List UInt8} (h : TxS w c v u y l) (hq : c.qos < 256) :
    Calls Try.prog 60 #[.agg (cnC c v u).toArray] y fun e y' => e = .returned (.int .u8 (cnFlags c : Nat)) ∧ TxS w c v u y' l := by
  refine (cnflags_any c v u y hq).mono ?_
  rintro _ y' ⟨rfl, g⟩
  exact ⟨rfl, h.still g⟩
end Go.Proofs.Ytlhkgalmiajinaa
