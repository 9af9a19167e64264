/- What right of law06 comes to. Conditions: numbers within their kinds, strings that may be. -/
import Derived.Test.YtlhkgalmiajinaaConT
import Derived.Test.YtlhkgalmiajinaaPlainR
import Derived.Test.YtlhkgalmiajinaaLetters
import Derived.Test.YtlhkgalmiajinaaRes
namespace Go.Proofs.Ytlhkgalmiajinaa
open Go.RowKit
set_option linter.unusedVariables false
set_option linter.unusedSimpArgs false

theorem and65535 (k : Nat) : bits .and .u32 (k : Int) 65535 = ((k % 65536 : Nat) : Int) := by
  simp only [bits, BitVec.toNat_and, BitVec.toNat_ofInt]
  show IntKind.u32.wrap (((((k : Int) % ((2 : Nat) ^ 32 : Nat)).toNat &&& ((65535 : Int) % ((2 : Nat) ^ 32 : Nat)).toNat : Nat)) : Int) = _
  rw [show ((65535 : Int) % ((2 : Nat) ^ 32 : Nat)).toNat = 2 ^ 16 - 1 from by decide, Nat.and_two_pow_sub_one_eq_mod, IntKind.wrap_u32]
  omega
def rg1 (c : Cn) : Cn := ⟨c.clean, c.keep % 65536, [], lettersB (c.id.take 20), c.hasWill, [], [], [], 0, false, c.hasUser, c.hasPass, [], []⟩
def rg2 (c : Cn) : Cn := ⟨c.clean, c.keep % 65536, [], lettersB (c.id.take 20), c.hasWill, [], if c.hasWill = true then lettersB (c.topic.take 20) else [], if c.hasWill = true then c.pay.take 30 else [], if c.hasWill = true then c.qos % 3 else 0, c.hasWill && c.ret, c.hasUser, c.hasPass, [], []⟩
def rg3 (c : Cn) : Cn := ⟨c.clean, c.keep % 65536, [], lettersB (c.id.take 20), c.hasWill, [], if c.hasWill = true then lettersB (c.topic.take 20) else [], if c.hasWill = true then c.pay.take 30 else [], if c.hasWill = true then c.qos % 3 else 0, c.hasWill && c.ret, c.hasUser, c.hasPass, if c.hasUser = true then lettersB (c.user.take 20) else [], []⟩
theorem step_store_mid {P : Program} {ops : Array Oper} {o : Oper} {a : Act} {w : World} {K : Act → World → Prop} {Q : Exit → Act → World → Prop} {E : Prop} (hgd : o.guard = none) (ty : TypeId) (x y : Operand) (ho : o.op = .store ty x y)
    (b off : Nat) (cells : Array Value) (hx : a.eval x = .pointer (some ⟨b, off, none⟩)) (hy : a.eval y = .agg cells)
    (ht : w.there b off cells.size) (hi : (P.info? ty).map (·.size) = some cells.size) (h1 : cells.all (·.oneCell') = true)
    (h : K (a.put o.dst undef) (w.setCells b off cells.toList)) : if Region.wanted o (yielded ops a.tmps) = true then Oper.wp P o a w K Q else E := by
  have hw : Region.wanted o (yielded ops a.tmps) = true := by simp [Region.wanted, hgd]
  rw [if_pos hw]
  exact wp_store_mid ty x y ho b off cells hx hy ht hi h1 h
theorem there_blk {w : World} {b : Nat} {t : TypeId} {cs : Array Value} (h : w.heap[b]? = some (.cells cs t (0, 0))) (off n : Nat) (hn : off + n ≤ cs.size) : w.there b off n := fun j hj =>
  ⟨by rw [blk_cell h, Array.getElem?_eq_getElem (by omega)]; rfl, blk_frozen h _⟩
theorem set_five (w : World) (b : Nat) (v0 v1 v2 v3 v4 : Value) : w.setCells b 5 [v0, v1, v2, v3, v4] = ((((w.setCell ⟨b, 5, none⟩ v0).setCell ⟨b, 6, none⟩ v1).setCell ⟨b, 7, none⟩ v2).setCell ⟨b, 8, none⟩ v3).setCell ⟨b, 9, none⟩ v4 := by
  rw [← sets_eq]; rfl
theorem rem3 (q : Nat) (h : q < 256) : (q : Int).tmod 3 = ((q % 3 : Nat) : Int) := by rw [Int.tmod_eq_emod_of_nonneg (by omega)]; omega
def RgX (b0 : Nat) (c : Cn) (y : World) (v : Value) (wx : World) : Prop := ∃ X, v = .pointer (some ⟨X, 0, none⟩) ∧ wx.heap[X]? = some (.cells (cnC c (.slice none 0 0) (.slice none 0 0)).toArray 48 (0, 0)) ∧ b0 + 1 < X ∧ y.heap.size ≤ X ∧ Fr [] y wx
def RgY (X : Nat) (c : Cn) (y : World) (wx : World) : Prop := wx.heap[X]? = some (.cells (cnC c (.slice none 0 0) (.slice none 0 0)).toArray 48 (0, 0)) ∧ Fr [X] y wx
set_option maxRecDepth 100000 in
set_option maxHeartbeats 8000000 in
theorem right_any (c : Cn) (v u : Value) (w : World) (h2 : c.qos < 256) (hi : c.id.length ≤ 9223372036854775807) (ht : c.topic.length ≤ 9223372036854775807) (hp : c.pay.length ≤ 9223372036854775807) (hus : c.user.length ≤ 9223372036854775807) (hps : c.pass.length ≤ 9223372036854775807) :
    Calls Try.prog 25 #[.agg (cnC c v u).toArray] w fun e w' => e = .returned (.agg (cnC (rightC c) (.slice none 0 0) (.slice none 0 0)).toArray) ∧ Fr [] w w' := by
  have hb0 := blk_old (blk_new w (.cells (cnC c v u).toArray 48)) (.cells #[.bool false, .int .u32 0, .slice none 0 0, .string ⟨#[]⟩, .bool false, .slice none 0 0, .string ⟨#[]⟩, .string ⟨#[]⟩, .int .u8 0, .bool false, .bool false, .bool false, .string ⟨#[]⟩, .string ⟨#[]⟩] 48)
  have hr0 := blk_at1 w (.cells (cnC c v u).toArray 48) (.cells #[.bool false, .int .u32 0, .slice none 0 0, .string ⟨#[]⟩, .bool false, .slice none 0 0, .string ⟨#[]⟩, .string ⟨#[]⟩, .int .u8 0, .bool false, .bool false, .bool false, .string ⟨#[]⟩, .string ⟨#[]⟩] 48)
  have F0 : Fr [] w ((w.alloc (.cells (cnC c v u).toArray 48)).alloc (.cells #[.bool false, .int .u32 0, .slice none 0 0, .string ⟨#[]⟩, .bool false, .slice none 0 0, .string ⟨#[]⟩, .string ⟨#[]⟩, .int .u8 0, .bool false, .bool false, .bool false, .string ⟨#[]⟩, .string ⟨#[]⟩] 48)) := ((Fr.refl _ _).alloc _).alloc _
  have HC : Hid (rightC c = ⟨c.clean, c.keep % 65536, [], lettersB (c.id.take 20), c.hasWill, [], if c.hasWill = true then lettersB (c.topic.take 20) else [], if c.hasWill = true then c.pay.take 30 else [], if c.hasWill = true then c.qos % 3 else 0, c.hasWill && c.ret, c.hasUser, c.hasPass, if c.hasUser = true then lettersB (c.user.take 20) else [], if c.hasPass = true then c.pass.take 30 else []⟩) := Lib.hid rfl
  obtain ⟨C0, hC0⟩ : ∃ C0, c = C0 := ⟨_, rfl⟩
  obtain ⟨clean, keep, props, id, hasWill, wp, topic, pay, qos, ret, hasUser, hasPass, user, pass⟩ := c
  have HC1 : Hid (rg1 C0 = ⟨clean, keep % 65536, [], lettersB (id.take 20), hasWill, [], [], [], 0, false, hasUser, hasPass, [], []⟩) := Lib.hid (by rw [← hC0]; rfl)
  have HC2 : Hid (rg2 C0 = ⟨clean, keep % 65536, [], lettersB (id.take 20), hasWill, [], if hasWill = true then lettersB (topic.take 20) else [], if hasWill = true then pay.take 30 else [], if hasWill = true then qos % 3 else 0, hasWill && ret, hasUser, hasPass, [], []⟩) := Lib.hid (by rw [← hC0]; rfl)
  have HC3 : Hid (rg3 C0 = ⟨clean, keep % 65536, [], lettersB (id.take 20), hasWill, [], if hasWill = true then lettersB (topic.take 20) else [], if hasWill = true then pay.take 30 else [], if hasWill = true then qos % 3 else 0, hasWill && ret, hasUser, hasPass, if hasUser = true then lettersB (user.take 20) else [], []⟩) := Lib.hid (by rw [← hC0]; rfl)
  have HR0 : Hid (rightC C0 = ⟨clean, keep % 65536, [], lettersB (id.take 20), hasWill, [], if hasWill = true then lettersB (topic.take 20) else [], if hasWill = true then pay.take 30 else [], if hasWill = true then qos % 3 else 0, hasWill && ret, hasUser, hasPass, if hasUser = true then lettersB (user.take 20) else [], if hasPass = true then pass.take 30 else []⟩) := Lib.hid (by rw [← hC0]; rfl)
  have HC0 := Lib.hid hC0
  clear HC hC0
  dsimp only at h2 hi ht hp hus hps
  unfold cnC at hb0 F0 hr0 ⊢
  dsimp only at hb0 F0 hr0 ⊢
  go_enter Try.func25, Try.ntmps25
  go_upto_region 1 with (fail)
  obtain ⟨y, hy⟩ : ∃ y, (w.alloc (.cells #[.bool clean, .int .u32 (keep : Int), v, .string ⟨id.toArray⟩, .bool hasWill, u, .string ⟨topic.toArray⟩, .string ⟨pay.toArray⟩, .int .u8 (qos : Int), .bool ret, .bool hasUser, .bool hasPass, .string ⟨user.toArray⟩, .string ⟨pass.toArray⟩] 48)).alloc (.cells #[.bool false, .int .u32 0, .slice none 0 0, .string ⟨#[]⟩, .bool false, .slice none 0 0, .string ⟨#[]⟩, .string ⟨#[]⟩, .int .u8 0, .bool false, .bool false, .bool false, .string ⟨#[]⟩, .string ⟨#[]⟩] 48) = y := ⟨_, rfl⟩
  rw [hy] at hb0 hr0 F0 ⊢
  clear hy
  have HB := Lib.hid hb0
  have HRR := Lib.hid hr0
  have HF := Lib.hid F0
  have hyl := blk_lt hr0
  have hka := and65535 keep
  clear hr0 F0
  go_cut [3] (fun v3 wx => RgX w.heap.size (rg1 C0) y v3 wx)
  case first =>
    obtain ⟨⟨e0, e1, e2, e3, e4, e5, e6, e7, e8, e9, e10, e11, e12, e13⟩, ⟨k0, k1, k2, k3, k4, k5, k6, k7, k8, k9, k10, k11, k12, k13⟩, _⟩ := blk14n_facts (hb0)
    refine wp_region_late [] (S := fun w' => w'.cell? ⟨w.heap.size, 0, none⟩ = some (.bool clean) ∧ w'.cell? ⟨w.heap.size, 1, none⟩ = some (.int .u32 (keep : Int)) ∧ w'.cell? ⟨w.heap.size, 3, none⟩ = some (.string ⟨id.toArray⟩) ∧ w'.cell? ⟨w.heap.size, 4, none⟩ = some (.bool hasWill) ∧ w'.cell? ⟨w.heap.size, 10, none⟩ = some (.bool hasUser) ∧ w'.cell? ⟨w.heap.size, 11, none⟩ = some (.bool hasPass)) (by kernel_rfl) ⟨e0, e1, e3, e4, e10, e11⟩ (fun hHeld => ?_)
    have fd := (Fr.refl [] y).drew
    obtain ⟨wd, hwd⟩ : ∃ wd, y.drew = wd := ⟨_, rfl⟩
    rw [hwd] at hHeld fd ⊢
    clear hwd hb0
    clear e0 e1 e2 e3 e4 e5 e6 e7 e8 e9 e10 e11 e12 e13 k0 k1 k2 k3 k4 k5 k6 k7 k8 k9 k10 k11 k12 k13
    obtain ⟨e0, e1, e3, e4, e10, e11⟩ := hHeld
    have hHeld := And.intro e0 (And.intro e1 (And.intro e3 (And.intro e4 (And.intro e10 e11))))
    refine wpLate_take (i := 0) (oi := _) (v := ?_) rfl (by kernel_rfl) (by kernel_rfl) (by kernel_rfl) (by kernel_rfl) (fun _ _ _ h => h) (Gives.load (by rfl) ?_) hHeld ?_
    rotate_left
    · intro w hSw
      (try dsimp only at hSw)
      go_simp
      try with_reducible rfl
    try simp only [Act.put, List.getElem_toArray, List.getElem_cons_succ, List.getElem_cons_zero, List.setIfInBounds_toArray, List.set_cons_zero, List.set_cons_succ]
    refine wpLate_take (i := 1) (oi := _) (v := ?_) rfl (by kernel_rfl) (by kernel_rfl) (by kernel_rfl) (by kernel_rfl) (fun _ _ _ h => h) (Gives.load (by rfl) ?_) hHeld ?_
    rotate_left
    · intro w hSw
      (try dsimp only at hSw)
      go_simp
      try with_reducible rfl
    try simp only [Act.put, List.getElem_toArray, List.getElem_cons_succ, List.getElem_cons_zero, List.setIfInBounds_toArray, List.set_cons_zero, List.set_cons_succ]
    refine wpLate_take (i := 2) (oi := _) (v := ?_) rfl (by kernel_rfl) (by kernel_rfl) (by kernel_rfl) (by kernel_rfl) (fun _ _ _ h => h) (Gives.load (by rfl) ?_) hHeld ?_
    rotate_left
    · intro w hSw
      (try dsimp only at hSw)
      go_simp
      try with_reducible rfl
    try simp only [Act.put, List.getElem_toArray, List.getElem_cons_succ, List.getElem_cons_zero, List.setIfInBounds_toArray, List.set_cons_zero, List.set_cons_succ]
    refine wpLate_take (i := 3) (oi := _) (v := ?_) rfl (by kernel_rfl) (by kernel_rfl) (by kernel_rfl) (by kernel_rfl) (fun _ _ _ h => h) (Gives.load (by rfl) ?_) hHeld ?_
    rotate_left
    · intro w hSw
      (try dsimp only at hSw)
      go_simp
      try with_reducible rfl
    try simp only [Act.put, List.getElem_toArray, List.getElem_cons_succ, List.getElem_cons_zero, List.setIfInBounds_toArray, List.set_cons_zero, List.set_cons_succ]
    refine wpLate_take (i := 4) (oi := _) (v := ?_) rfl (by kernel_rfl) (by kernel_rfl) (by kernel_rfl) (by kernel_rfl) (fun _ _ _ h => h) (Gives.load (by rfl) ?_) hHeld ?_
    rotate_left
    · intro w hSw
      (try dsimp only at hSw)
      go_simp
      try with_reducible rfl
    try simp only [Act.put, List.getElem_toArray, List.getElem_cons_succ, List.getElem_cons_zero, List.setIfInBounds_toArray, List.set_cons_zero, List.set_cons_succ]
    try rw [hka]
    refine wpLate_take (i := 5) (oi := _) (v := ?_) rfl (by kernel_rfl) (by kernel_rfl) (by kernel_rfl) (by kernel_rfl) (fun _ _ _ h => h) (Gives.load (by rfl) ?_) hHeld ?_
    rotate_left
    · intro w hSw
      (try dsimp only at hSw)
      go_simp
      try with_reducible rfl
    try simp only [Act.put, List.getElem_toArray, List.getElem_cons_succ, List.getElem_cons_zero, List.setIfInBounds_toArray, List.set_cons_zero, List.set_cons_succ]
    refine wpLate_take (i := 6) (oi := _) (v := ?_) rfl (by kernel_rfl) (by kernel_rfl) (by kernel_rfl) (by kernel_rfl) (fun _ _ _ h => h) (Gives.load (by rfl) ?_) hHeld ?_
    rotate_left
    · intro w hSw
      (try dsimp only at hSw)
      go_simp
      try with_reducible rfl
    try simp only [Act.put, List.getElem_toArray, List.getElem_cons_succ, List.getElem_cons_zero, List.setIfInBounds_toArray, List.set_cons_zero, List.set_cons_succ]
    refine wpLate_take (i := 8) (oi := _) (v := ?_) rfl (by kernel_rfl) (by kernel_rfl) (by kernel_rfl) (by kernel_rfl) (fun _ _ _ h => h) (Gives.load (by rfl) ?_) hHeld ?_
    rotate_left
    · intro w hSw
      (try dsimp only at hSw)
      go_simp
      try with_reducible rfl
    try simp only [Act.put, List.getElem_toArray, List.getElem_cons_succ, List.getElem_cons_zero, List.setIfInBounds_toArray, List.set_cons_zero, List.set_cons_succ]
    refine wpLate_take (i := 9) (oi := _) (v := ?_) rfl (by kernel_rfl) (by kernel_rfl) (by kernel_rfl) (by kernel_rfl) (fun _ _ _ h => h) (Gives.load (by rfl) ?_) hHeld ?_
    rotate_left
    · intro w hSw
      (try dsimp only at hSw)
      go_simp
      try with_reducible rfl
    try simp only [Act.put, List.getElem_toArray, List.getElem_cons_succ, List.getElem_cons_zero, List.setIfInBounds_toArray, List.set_cons_zero, List.set_cons_succ]
    refine wpLate_take (i := 10) (oi := _) (v := ?_) rfl (by kernel_rfl) (by kernel_rfl) (by kernel_rfl) (by kernel_rfl) (fun _ _ _ h => h) (Gives.load (by rfl) ?_) hHeld ?_
    rotate_left
    · intro w hSw
      (try dsimp only at hSw)
      go_simp
      try with_reducible rfl
    try simp only [Act.put, List.getElem_toArray, List.getElem_cons_succ, List.getElem_cons_zero, List.setIfInBounds_toArray, List.set_cons_zero, List.set_cons_succ]
    refine wpLate_take (i := 11) (oi := _) (v := ?_) rfl (by kernel_rfl) (by kernel_rfl) (by kernel_rfl) (by kernel_rfl) (fun _ _ _ h => h) (Gives.load (by rfl) ?_) hHeld ?_
    rotate_left
    · intro w hSw
      (try dsimp only at hSw)
      go_simp
      try with_reducible rfl
    try simp only [Act.put, List.getElem_toArray, List.getElem_cons_succ, List.getElem_cons_zero, List.setIfInBounds_toArray, List.set_cons_zero, List.set_cons_succ]
    refine wpLate_take (i := 12) (oi := _) (v := ?_) rfl (by kernel_rfl) (by kernel_rfl) (by kernel_rfl) (by kernel_rfl) (fun _ _ _ h => h) (Gives.load (by rfl) ?_) hHeld ?_
    rotate_left
    · intro w hSw
      (try dsimp only at hSw)
      go_simp
      try with_reducible rfl
    try simp only [Act.put, List.getElem_toArray, List.getElem_cons_succ, List.getElem_cons_zero, List.setIfInBounds_toArray, List.set_cons_zero, List.set_cons_succ]
    refine wpLate_take (i := 13) (oi := _) (v := ?_) rfl (by kernel_rfl) (by kernel_rfl) (by kernel_rfl) (by kernel_rfl) (fun _ _ _ h => h) (Gives.load (by rfl) ?_) hHeld ?_
    rotate_left
    · intro w hSw
      (try dsimp only at hSw)
      go_simp
      try with_reducible rfl
    try simp only [Act.put, List.getElem_toArray, List.getElem_cons_succ, List.getElem_cons_zero, List.setIfInBounds_toArray, List.set_cons_zero, List.set_cons_succ]
    refine wpLate_ready (rs := [7, 15]) (by kernel_rfl) (by simp) ?_
    refine AllLate.cons (o := _) rfl (fun K hK => ?_) ?_
    · go_simp
      refine (letters_law06 id hi _).mono ?_
      rintro _ x1 ⟨rfl, f⟩
      go_wp2_with fail
      have f1 := fd.trans f (by simp)
      refine hK.out _ _ (fun _ => ⟨(f).cell e0 (by simp), (f).cell e1 (by simp), (f).cell e3 (by simp), (f).cell e4 (by simp), (f).cell e10 (by simp), (f).cell e11 (by simp)⟩) (fun hHeld => ?_)
      replace hHeld := hHeld (by kernel_rfl)
      clear hK K
      try simp only [Act.put, List.getElem_toArray, List.getElem_cons_succ, List.getElem_cons_zero, List.setIfInBounds_toArray, List.set_cons_zero, List.set_cons_succ]
      refine wpLate_pure (i := 14) (oi := _) (v := ?_) rfl (by kernel_rfl) (by kernel_rfl) (by kernel_rfl) (by kernel_rfl) (fun _ _ _ h => h) (Gives.load (by rfl) ?_) (fun _ => hHeld) ?_
      rotate_left
      · intro w hSw
        clear hSw
        go_simp
        try with_reducible rfl
      try simp only [Act.put, List.getElem_toArray, List.getElem_cons_succ, List.getElem_cons_zero, List.setIfInBounds_toArray, List.set_cons_zero, List.set_cons_succ]
      refine wpLate_ready (rs := [15]) (by kernel_rfl) (by simp) ?_
      refine AllLate.cons (o := _) rfl (fun K hK => ?_) (by exact AllLate.nil)
      go_simp
      have ga := f.alloc (.cells #[.bool false, .int .u32 0, .slice none 0 0, .string ⟨#[]⟩, .bool false, .slice none 0 0, .string ⟨#[]⟩, .string ⟨#[]⟩, .int .u8 0, .bool false, .bool false, .bool false, .string ⟨#[]⟩, .string ⟨#[]⟩] 48)
      refine hK.out _ _ (fun _ => ⟨(ga).cell e0 (by simp), (ga).cell e1 (by simp), (ga).cell e3 (by simp), (ga).cell e4 (by simp), (ga).cell e10 (by simp), (ga).cell e11 (by simp)⟩) (fun hHeld => ?_)
      replace hHeld := hHeld (by kernel_rfl)
      clear hK K
      try simp only [Act.put, List.getElem_toArray, List.getElem_cons_succ, List.getElem_cons_zero, List.setIfInBounds_toArray, List.set_cons_zero, List.set_cons_succ]
      refine wpLate_ready (rs := [16]) (by kernel_rfl) (by simp) ?_
      refine AllLate.cons (o := _) rfl (fun K hK => ?_) (by exact AllLate.nil)
      have gs := fr_row ga (g := x1.heap.size) (Or.inl f.size) (cnC (rg1 C0) (.slice none 0 0) (.slice none 0 0)).toArray
      refine step_store_row rfl 48 _ _ rfl x1.heap.size (cnC (rg1 C0) (.slice none 0 0) (.slice none 0 0)).toArray (by rfl) (by rw [HC1.out]; rfl) _ _ (blk_new x1 _) (by kernel_rfl) rfl (cn_one _ _ _ rfl rfl) ?_
      refine hK.out _ _ (fun _ => ⟨(gs).cell e0 (by simp), (gs).cell e1 (by simp), (gs).cell e3 (by simp), (gs).cell e4 (by simp), (gs).cell e10 (by simp), (gs).cell e11 (by simp)⟩) (fun hHeld => ?_)
      replace hHeld := hHeld (by kernel_rfl)
      clear hK K
      try simp only [Act.put, List.getElem_toArray, List.getElem_cons_succ, List.getElem_cons_zero, List.setIfInBounds_toArray, List.set_cons_zero, List.set_cons_succ]
      refine wpLate_done (by kernel_rfl) ?_ _
      go_wp2_with fail
      go_meet
      exact ⟨x1.heap.size, rfl, setRow_heap _ _ _ _ _ _ (blk_new x1 _), by have := f1.size; omega, f1.size, fd.trans gs (by simp)⟩
    refine AllLate.cons (o := _) rfl (fun K hK => ?_) (by exact AllLate.nil)
    go_simp
    have ga := (Fr.refl [] wd).alloc (.cells #[.bool false, .int .u32 0, .slice none 0 0, .string ⟨#[]⟩, .bool false, .slice none 0 0, .string ⟨#[]⟩, .string ⟨#[]⟩, .int .u8 0, .bool false, .bool false, .bool false, .string ⟨#[]⟩, .string ⟨#[]⟩] 48)
    have hbn := blk_new wd (.cells #[.bool false, .int .u32 0, .slice none 0 0, .string ⟨#[]⟩, .bool false, .slice none 0 0, .string ⟨#[]⟩, .string ⟨#[]⟩, .int .u8 0, .bool false, .bool false, .bool false, .string ⟨#[]⟩, .string ⟨#[]⟩] 48)
    refine hK.out _ _ (fun _ => ⟨(ga).cell e0 (by simp), (ga).cell e1 (by simp), (ga).cell e3 (by simp), (ga).cell e4 (by simp), (ga).cell e10 (by simp), (ga).cell e11 (by simp)⟩) (fun hHeld => ?_)
    replace hHeld := hHeld (by kernel_rfl)
    clear hK K
    try simp only [Act.put, List.getElem_toArray, List.getElem_cons_succ, List.getElem_cons_zero, List.setIfInBounds_toArray, List.set_cons_zero, List.set_cons_succ]
    obtain ⟨C, hC⟩ : ∃ C, wd.heap.size = C := ⟨_, rfl⟩
    obtain ⟨X, hX⟩ : ∃ X, wd.alloc (.cells #[.bool false, .int .u32 0, .slice none 0 0, .string ⟨#[]⟩, .bool false, .slice none 0 0, .string ⟨#[]⟩, .string ⟨#[]⟩, .int .u8 0, .bool false, .bool false, .bool false, .string ⟨#[]⟩, .string ⟨#[]⟩] 48) = X := ⟨_, rfl⟩
    have hwC : wd.heap.size ≤ C := by omega
    have hyC : y.heap.size ≤ C := by rw [← hC]; exact fd.size
    rw [hC] at hbn ⊢
    rw [hX] at hHeld hbn ga ⊢
    clear hX hC
    refine wpLate_ready (rs := [7]) (by kernel_rfl) (by simp) ?_
    refine AllLate.cons (o := _) rfl (fun K hK => ?_) (by exact AllLate.nil)
    go_simp
    refine (letters_law06 id hi _).mono ?_
    rintro _ x1 ⟨rfl, f⟩
    go_wp2_with fail
    have gx := ga.trans f (by simp)
    have hb1 := f.blk hbn (by simp)
    refine hK.out _ _ (fun _ => ⟨(gx).cell e0 (by simp), (gx).cell e1 (by simp), (gx).cell e3 (by simp), (gx).cell e4 (by simp), (gx).cell e10 (by simp), (gx).cell e11 (by simp)⟩) (fun hHeld => ?_)
    replace hHeld := hHeld (by kernel_rfl)
    clear hK K
    try simp only [Act.put, List.getElem_toArray, List.getElem_cons_succ, List.getElem_cons_zero, List.setIfInBounds_toArray, List.set_cons_zero, List.set_cons_succ]
    refine wpLate_pure (i := 14) (oi := _) (v := ?_) rfl (by kernel_rfl) (by kernel_rfl) (by kernel_rfl) (by kernel_rfl) (fun _ _ _ h => h) (Gives.load (by rfl) ?_) (fun _ => hHeld) ?_
    rotate_left
    · intro w hSw
      clear hSw
      go_simp
      try with_reducible rfl
    try simp only [Act.put, List.getElem_toArray, List.getElem_cons_succ, List.getElem_cons_zero, List.setIfInBounds_toArray, List.set_cons_zero, List.set_cons_succ]
    refine wpLate_ready (rs := [16]) (by kernel_rfl) (by simp) ?_
    refine AllLate.cons (o := _) rfl (fun K hK => ?_) (by exact AllLate.nil)
    have gs := fr_row gx (g := C) (Or.inl hwC) (cnC (rg1 C0) (.slice none 0 0) (.slice none 0 0)).toArray
    refine step_store_row rfl 48 _ _ rfl C (cnC (rg1 C0) (.slice none 0 0) (.slice none 0 0)).toArray (by rfl) (by rw [HC1.out]; rfl) _ _ hb1 (by kernel_rfl) rfl (cn_one _ _ _ rfl rfl) ?_
    refine hK.out _ _ (fun _ => ⟨(gs).cell e0 (by simp), (gs).cell e1 (by simp), (gs).cell e3 (by simp), (gs).cell e4 (by simp), (gs).cell e10 (by simp), (gs).cell e11 (by simp)⟩) (fun hHeld => ?_)
    replace hHeld := hHeld (by kernel_rfl)
    clear hK K
    try simp only [Act.put, List.getElem_toArray, List.getElem_cons_succ, List.getElem_cons_zero, List.setIfInBounds_toArray, List.set_cons_zero, List.set_cons_succ]
    refine wpLate_done (by kernel_rfl) ?_ _
    go_wp2_with fail
    go_meet
    exact ⟨C, rfl, setRow_heap _ _ _ _ _ _ hb1, by omega, hyC, fd.trans gs (by simp)⟩
  case rest =>
    obtain ⟨X, rfl, hX, hbX, hyX, G⟩ := hcut
    rw [HC1.out] at hX
    unfold cnC at hX
    dsimp only at hX
    generalize wc = z at *
    have HB1 := Lib.hid (G.blk HB.out (by simp))
    have HR1 := Lib.hid (G.blk HRR.out (by simp))
    have HF1 := Lib.hid (HF.out.trans G (by simp))
    have HX1 := Lib.hid hX
    clear hb0 HB HRR HF G hX HC1
    have hXB : ¬ (X = w.heap.size) := by omega
    have hBX : ¬ (w.heap.size = X) := by omega
    obtain ⟨⟨e0, e1, e2, e3, e4, e5, e6, e7, e8, e9, e10, e11, e12, e13⟩, ⟨k0, k1, k2, k3, k4, k5, k6, k7, k8, k9, k10, k11, k12, k13⟩, _⟩ := blk14n_facts (HB1.out)
    clear e0 e1 e2 e3 k0 k1 k2 k3 k4 k5 k6 k7 k8 k9 k10 k11 k12 k13
    go_upto_if 20 with (fail)
    go_cut [] (fun wx => RgY X (rg2 C0) z wx)
    case first =>
      cases hasWill
      · go_wp2_with fail
        go_meet
        refine ⟨?_, Fr.refl _ _⟩
        rw [HC2.out]
        exact HX1.out
      · go_upto_region 3 with (fail)
        refine wp_region_late [] (S := fun w' => w'.cell? ⟨w.heap.size, 6, none⟩ = some (.string ⟨topic.toArray⟩) ∧ w'.cell? ⟨w.heap.size, 7, none⟩ = some (.string ⟨pay.toArray⟩) ∧ w'.cell? ⟨w.heap.size, 8, none⟩ = some (.int .u8 (qos : Int)) ∧ w'.cell? ⟨w.heap.size, 9, none⟩ = some (.bool ret)) (by kernel_rfl) ⟨e6, e7, e8, e9⟩ (fun hHeld => ?_)
        have fd := (Fr.refl [] z).drew
        obtain ⟨wd, hwd⟩ : ∃ wd, z.drew = wd := ⟨_, rfl⟩
        rw [hwd] at hHeld fd ⊢
        clear hwd e4 e5 e6 e7 e8 e9 e10 e11 e12 e13
        obtain ⟨e6, e7, e8, e9⟩ := hHeld
        have hHeld := And.intro e6 (And.intro e7 (And.intro e8 e9))
        have hrem := rem3 qos h2
        refine wpLate_take (i := 0) (oi := _) (v := ?_) rfl (by kernel_rfl) (by kernel_rfl) (by kernel_rfl) (by kernel_rfl) (fun _ _ _ h => h) (Gives.load (by rfl) ?_) hHeld ?_
        rotate_left
        · intro w hSw
          (try dsimp only at hSw)
          go_simp
          try with_reducible rfl
        try simp only [Act.put, List.getElem_toArray, List.getElem_cons_succ, List.getElem_cons_zero, List.setIfInBounds_toArray, List.set_cons_zero, List.set_cons_succ]
        refine wpLate_take (i := 1) (oi := _) (v := ?_) rfl (by kernel_rfl) (by kernel_rfl) (by kernel_rfl) (by kernel_rfl) (fun _ _ _ h => h) (Gives.load (by rfl) ?_) hHeld ?_
        rotate_left
        · intro w hSw
          (try dsimp only at hSw)
          go_simp
          try with_reducible rfl
        try simp only [Act.put, List.getElem_toArray, List.getElem_cons_succ, List.getElem_cons_zero, List.setIfInBounds_toArray, List.set_cons_zero, List.set_cons_succ]
        refine wpLate_take (i := 2) (oi := _) (v := ?_) rfl (by kernel_rfl) (by kernel_rfl) (by kernel_rfl) (by kernel_rfl) (fun _ _ _ h => h) (Gives.load (by rfl) ?_) hHeld ?_
        rotate_left
        · intro w hSw
          (try dsimp only at hSw)
          go_simp
          try with_reducible rfl
        try simp only [Act.put, List.getElem_toArray, List.getElem_cons_succ, List.getElem_cons_zero, List.setIfInBounds_toArray, List.set_cons_zero, List.set_cons_succ]
        refine wpLate_take (i := 4) (oi := _) (v := ?_) rfl (by kernel_rfl) (by kernel_rfl) (by kernel_rfl) (by kernel_rfl) (fun _ _ _ h => h) (Gives.load (by rfl) ?_) hHeld ?_
        rotate_left
        · intro w hSw
          (try dsimp only at hSw)
          go_simp
          try with_reducible rfl
        try simp only [Act.put, List.getElem_toArray, List.getElem_cons_succ, List.getElem_cons_zero, List.setIfInBounds_toArray, List.set_cons_zero, List.set_cons_succ]
        refine wpLate_take (i := 5) (oi := _) (v := ?_) rfl (by kernel_rfl) (by kernel_rfl) (by kernel_rfl) (by kernel_rfl) (fun _ _ _ h => h) (Gives.load (by rfl) ?_) hHeld ?_
        rotate_left
        · intro w hSw
          (try dsimp only at hSw)
          go_simp
          try with_reducible rfl
        try simp only [Act.put, List.getElem_toArray, List.getElem_cons_succ, List.getElem_cons_zero, List.setIfInBounds_toArray, List.set_cons_zero, List.set_cons_succ]
        refine wpLate_take (i := 6) (oi := _) (v := ?_) rfl (by kernel_rfl) (by kernel_rfl) (by kernel_rfl) (by kernel_rfl) (fun _ _ _ h => h) (Gives.load (by rfl) ?_) hHeld ?_
        rotate_left
        · intro w hSw
          (try dsimp only at hSw)
          go_simp
          try with_reducible rfl
        try simp only [Act.put, List.getElem_toArray, List.getElem_cons_succ, List.getElem_cons_zero, List.setIfInBounds_toArray, List.set_cons_zero, List.set_cons_succ]
        refine wpLate_take (i := 8) (oi := _) (v := ?_) rfl (by kernel_rfl) (by kernel_rfl) (by kernel_rfl) (by kernel_rfl) (fun _ _ _ h => h) (Gives.load (by rfl) ?_) hHeld ?_
        rotate_left
        · intro w hSw
          (try dsimp only at hSw)
          go_simp
          try with_reducible rfl
        try simp only [Act.put, List.getElem_toArray, List.getElem_cons_succ, List.getElem_cons_zero, List.setIfInBounds_toArray, List.set_cons_zero, List.set_cons_succ]
        refine wpLate_take (i := 9) (oi := _) (v := ?_) rfl (by kernel_rfl) (by kernel_rfl) (by kernel_rfl) (by kernel_rfl) (fun _ _ _ h => h) (Gives.load (by rfl) ?_) hHeld ?_
        rotate_left
        · intro w hSw
          (try dsimp only at hSw)
          go_simp
          try with_reducible rfl
        try simp only [Act.put, List.getElem_toArray, List.getElem_cons_succ, List.getElem_cons_zero, List.setIfInBounds_toArray, List.set_cons_zero, List.set_cons_succ]
        refine wpLate_take (i := 10) (oi := _) (v := ?_) rfl (by kernel_rfl) (by kernel_rfl) (by kernel_rfl) (by kernel_rfl) (fun _ _ _ h => h) (Gives.load (by rfl) ?_) hHeld ?_
        rotate_left
        · intro w hSw
          (try dsimp only at hSw)
          go_simp
          try with_reducible rfl
        try simp only [Act.put, List.getElem_toArray, List.getElem_cons_succ, List.getElem_cons_zero, List.setIfInBounds_toArray, List.set_cons_zero, List.set_cons_succ]
        refine wpLate_take (i := 11) (oi := _) (v := ?_) rfl (by kernel_rfl) (by kernel_rfl) (by kernel_rfl) (by kernel_rfl) (fun _ _ _ h => h) (Gives.load (by rfl) ?_) hHeld ?_
        rotate_left
        · intro w hSw
          (try dsimp only at hSw)
          go_simp
          try with_reducible rfl
        try simp only [Act.put, List.getElem_toArray, List.getElem_cons_succ, List.getElem_cons_zero, List.setIfInBounds_toArray, List.set_cons_zero, List.set_cons_succ]
        try rw [hrem]
        refine wpLate_take (i := 12) (oi := _) (v := ?_) rfl (by kernel_rfl) (by kernel_rfl) (by kernel_rfl) (by kernel_rfl) (fun _ _ _ h => h) (Gives.load (by rfl) ?_) hHeld ?_
        rotate_left
        · intro w hSw
          (try dsimp only at hSw)
          go_simp
          try with_reducible rfl
        try simp only [Act.put, List.getElem_toArray, List.getElem_cons_succ, List.getElem_cons_zero, List.setIfInBounds_toArray, List.set_cons_zero, List.set_cons_succ]
        refine wpLate_take (i := 13) (oi := _) (v := ?_) rfl (by kernel_rfl) (by kernel_rfl) (by kernel_rfl) (by kernel_rfl) (fun _ _ _ h => h) (Gives.load (by rfl) ?_) hHeld ?_
        rotate_left
        · intro w hSw
          (try dsimp only at hSw)
          go_simp
          try with_reducible rfl
        try simp only [Act.put, List.getElem_toArray, List.getElem_cons_succ, List.getElem_cons_zero, List.setIfInBounds_toArray, List.set_cons_zero, List.set_cons_succ]
        refine wpLate_take (i := 14) (oi := _) (v := ?_) rfl (by kernel_rfl) (by kernel_rfl) (by kernel_rfl) (by kernel_rfl) (fun _ _ _ h => h) (Gives.load (by rfl) ?_) hHeld ?_
        rotate_left
        · intro w hSw
          (try dsimp only at hSw)
          go_simp
          try with_reducible rfl
        try simp only [Act.put, List.getElem_toArray, List.getElem_cons_succ, List.getElem_cons_zero, List.setIfInBounds_toArray, List.set_cons_zero, List.set_cons_succ]
        refine wpLate_ready (rs := [3]) (by kernel_rfl) (by simp) ?_
        refine AllLate.cons (o := _) rfl (fun K hK => ?_) (by exact AllLate.nil)
        go_simp
        refine (letters_law06 topic ht _).mono ?_
        rintro _ x1 ⟨rfl, f⟩
        go_wp2_with fail
        have hX2 := f.blk (fd.blk HX1.out (by simp)) (by simp)
        refine hK.out _ _ (fun _ => ⟨f.cell e6 (by simp), f.cell e7 (by simp), f.cell e8 (by simp), f.cell e9 (by simp)⟩) (fun hHeld => ?_)
        replace hHeld := hHeld (by kernel_rfl)
        clear hK K
        try simp only [Act.put, List.getElem_toArray, List.getElem_cons_succ, List.getElem_cons_zero, List.setIfInBounds_toArray, List.set_cons_zero, List.set_cons_succ]
        refine wpLate_pure (i := 7) (oi := _) (v := .string ⟨(pay.take 30).toArray⟩) rfl (by kernel_rfl) (by kernel_rfl) (by kernel_rfl) (by kernel_rfl) (fun _ _ _ h => h) (Gives.quiet 36 #[.string ⟨pay.toArray⟩, .int .i64 30] (by rfl) ?_ (fun w => cut_any pay 30 w hp (by decide))) (fun _ => hHeld) ?_
        · intro w
          go_simp
        try simp only [Act.put, List.getElem_toArray, List.getElem_cons_succ, List.getElem_cons_zero, List.setIfInBounds_toArray, List.set_cons_zero, List.set_cons_succ]
        refine wpLate_pure (i := 15) (oi := _) (v := ?_) rfl (by kernel_rfl) (by kernel_rfl) (by kernel_rfl) (by kernel_rfl) (fun _ _ _ h => h) (Gives.load (by rfl) ?_) (fun _ => hHeld) ?_
        rotate_left
        · intro w hSw
          clear hSw
          go_simp
          try with_reducible rfl
        try simp only [Act.put, List.getElem_toArray, List.getElem_cons_succ, List.getElem_cons_zero, List.setIfInBounds_toArray, List.set_cons_zero, List.set_cons_succ]
        refine wpLate_pure (i := 16) (oi := _) (v := ?_) rfl (by kernel_rfl) (by kernel_rfl) (by kernel_rfl) (by kernel_rfl) (fun _ _ _ h => h) (Gives.load (by rfl) ?_) (fun _ => hHeld) ?_
        rotate_left
        · intro w hSw
          clear hSw
          go_simp
          try with_reducible rfl
        try simp only [Act.put, List.getElem_toArray, List.getElem_cons_succ, List.getElem_cons_zero, List.setIfInBounds_toArray, List.set_cons_zero, List.set_cons_succ]
        refine wpLate_ready (rs := [17]) (by kernel_rfl) (by simp) ?_
        refine AllLate.cons (o := _) rfl (fun K hK => ?_) (by exact AllLate.nil)
        refine step_store_mid rfl 46 _ _ rfl X 5 #[(.slice none 0 0), .string ⟨(lettersB (topic.take 20)).toArray⟩, .string ⟨(pay.take 30).toArray⟩, .int .u8 ((qos % 3 : Nat) : Int), .bool ret] (by rfl) (by rfl) (there_blk hX2 5 5 (by show 5 + 5 ≤ 14; decide)) (by kernel_rfl) (wl_one none 0 0 _ _ _ _) ?_
        rw [show (#[(.slice none 0 0), .string ⟨(lettersB (topic.take 20)).toArray⟩, .string ⟨(pay.take 30).toArray⟩, .int .u8 ((qos % 3 : Nat) : Int), .bool ret] : Array Value).toList = [(.slice none 0 0), .string ⟨(lettersB (topic.take 20)).toArray⟩, .string ⟨(pay.take 30).toArray⟩, .int .u8 ((qos % 3 : Nat) : Int), .bool ret] from rfl, set_five]
        have gX : Fr [X] x1 (((((x1.setCell ⟨X, 5, none⟩ (.slice none 0 0)).setCell ⟨X, 6, none⟩ (.string ⟨(lettersB (topic.take 20)).toArray⟩)).setCell ⟨X, 7, none⟩ (.string ⟨(pay.take 30).toArray⟩)).setCell ⟨X, 8, none⟩ (.int .u8 ((qos % 3 : Nat) : Int))).setCell ⟨X, 9, none⟩ (.bool ret)) := (((((Fr.refl _ _).setCell (Or.inr (by simp)) _).setCell (Or.inr (by simp)) _).setCell (Or.inr (by simp)) _).setCell (Or.inr (by simp)) _).setCell (Or.inr (by simp)) _
        have hX3 := blk_set (blk_set (blk_set (blk_set (blk_set hX2 5 (.slice none 0 0)) 6 (.string ⟨(lettersB (topic.take 20)).toArray⟩)) 7 (.string ⟨(pay.take 30).toArray⟩)) 8 (.int .u8 ((qos % 3 : Nat) : Int))) 9 (.bool ret)
        refine hK.out _ _ (fun _ => ⟨gX.cell (f.cell e6 (by simp)) (by simp; omega), gX.cell (f.cell e7 (by simp)) (by simp; omega), gX.cell (f.cell e8 (by simp)) (by simp; omega), gX.cell (f.cell e9 (by simp)) (by simp; omega)⟩) (fun hHeld => ?_)
        replace hHeld := hHeld (by kernel_rfl)
        clear hK K
        try simp only [Act.put, List.getElem_toArray, List.getElem_cons_succ, List.getElem_cons_zero, List.setIfInBounds_toArray, List.set_cons_zero, List.set_cons_succ]
        refine wpLate_done (by kernel_rfl) ?_ _
        clear hHeld e6 e7 e8 e9
        go_wp2_with fail
        go_meet
        refine ⟨?_, (((fd.trans f (by simp)).mono (T := [X]) (by simp)).trans gX (by simp))⟩
        rw [HC2.out]
        exact hX3
    case rest =>
      obtain ⟨hX, G⟩ := hcut
      rw [HC2.out] at hX
      unfold cnC at hX
      dsimp only at hX
      have HB2 := Lib.hid (G.blk HB1.out (by simp; omega))
      have HR2 := Lib.hid (G.blk HR1.out (by simp; omega))
      have HF2 := Lib.hid (HF1.out.trans G (by intro x hx e; simp at e; omega))
      have HX2 := Lib.hid hX
      obtain ⟨⟨m0, m1, m2, m3, m4, m5, m6, m7, m8, m9, m10, m11, m12, m13⟩, ⟨k0, k1, k2, k3, k4, k5, k6, k7, k8, k9, k10, k11, k12, k13⟩, _⟩ := blk14n_facts hX
      clear e4 e5 e6 e7 e8 e9 e10 e11 e12 e13 m0 m1 m2 m3 m4 m5 m6 m7 m8 m9 m10 m11 m13 k0 k1 k2 k3 k4 k5 k6 k7 k8 k9 k10 k11 k13
      obtain ⟨⟨e0, e1, e2, e3, e4, e5, e6, e7, e8, e9, e10, e11, e12, e13⟩, ⟨k0, k1, k2, k3, k4, k5, k6, k7, k8, k9, k10, k11, k12, k13⟩, _⟩ := blk14n_facts (HB2.out)
      clear e0 e1 e2 e3 e4 e5 e6 e7 e8 e9 k0 k1 k2 k3 k4 k5 k6 k7 k8 k9 k10 k11 k13
      clear hX G HB1 HR1 HF1 HX1 HC2
      generalize wc = z2 at *
      have hXB' : ¬ (X = w.heap.size) := hXB
      go_upto_if 39 with (fail)
      go_cut [] (fun wx => RgY X (rg3 C0) z2 wx)
      case first =>
        cases hasUser
        · go_wp2_with fail
          go_meet
          refine ⟨?_, Fr.refl _ _⟩
          rw [HC3.out]
          exact HX2.out
        · go_wp2_with fail
          refine (letters_law06 user hus _).mono ?_
          rintro _ x1 ⟨rfl, f⟩
          have hX3 := f.blk HX2.out (by simp)
          obtain ⟨⟨n0, n1, n2, n3, n4, n5, n6, n7, n8, n9, n10, n11, n12, n13⟩, ⟨q0, q1, q2, q3, q4, q5, q6, q7, q8, q9, q10, q11, q12, q13⟩, _⟩ := blk14n_facts hX3
          clear m12 k12 n0 n1 n2 n3 n4 n5 n6 n7 n8 n9 n10 n11 n13 q0 q1 q2 q3 q4 q5 q6 q7 q8 q9 q10 q11 q13
          go_wp2_with fail
          go_meet
          refine ⟨?_, (f.mono (by simp)).setCell (Or.inr (by simp)) _⟩
          rw [HC3.out]
          exact blk_set hX3 12 _
      case rest =>
        obtain ⟨hX, G⟩ := hcut
        rw [HC3.out] at hX
        unfold cnC at hX
        dsimp only at hX
        have HB3 := Lib.hid (G.blk HB2.out (by simp; omega))
        have HR3 := Lib.hid (G.blk HR2.out (by simp; omega))
        have HF3 := Lib.hid (HF2.out.trans G (by intro x hx e; simp at e; omega))
        have HX3 := Lib.hid hX
        clear e10 e11 e12 e13 k12 m12
        obtain ⟨⟨m0, m1, m2, m3, m4, m5, m6, m7, m8, m9, m10, m11, m12, m13⟩, ⟨k0, k1, k2, k3, k4, k5, k6, k7, k8, k9, k10, k11, k12, k13⟩, _⟩ := blk14n_facts hX
        clear m0 m1 m2 m3 m4 m5 m6 m7 m8 m9 m10 m11 m12 k0 k1 k2 k3 k4 k5 k6 k7 k8 k9 k10 k11 k12
        have hk13 := k13
        clear k13
        obtain ⟨⟨e0, e1, e2, e3, e4, e5, e6, e7, e8, e9, e10, e11, e12, e13⟩, ⟨k0, k1, k2, k3, k4, k5, k6, k7, k8, k9, k10, k11, k12, k13⟩, _⟩ := blk14n_facts (HB3.out)
        clear e0 e1 e2 e3 e4 e5 e6 e7 e8 e9 e10 e12 k0 k1 k2 k3 k4 k5 k6 k7 k8 k9 k10 k11 k12 k13
        clear hX G HB2 HR2 HF2 HX2 HC3
        generalize wc = z3 at *
        go_upto_if 45 with (fail)
        go_cut [] (fun wx => RgY X (rightC C0) z3 wx)
        case first =>
          cases hasPass
          · go_wp2_with fail
            go_meet
            refine ⟨?_, Fr.refl _ _⟩
            rw [HR0.out]
            exact HX3.out
          · go_wp2_with fail
            refine (cut_any pass 30 _ hps (by decide)).mono ?_
            rintro _ x1 ⟨rfl, rfl⟩
            go_wp2_with fail
            go_meet
            refine ⟨?_, (Fr.refl _ _).setCell (Or.inr (by simp)) _⟩
            rw [HR0.out]
            exact blk_set HX3.out 13 _
        case rest =>
          obtain ⟨hX, G⟩ := hcut
          have HR4 := Lib.hid (G.blk HR3.out (by simp; omega))
          have HF4 := Lib.hid (HF3.out.trans G (by intro x hx e; simp at e; omega))
          have HX4 := Lib.hid hX
          clear e11 e13 m13 hk13 hX G HB3 HR3 HF3 HX3 HR0
          generalize wc = z4 at *
          go_upto_region 8 with (fail)
          refine wp_region_lit ?_
          refine wpList_load_mid rfl 48 _ rfl X 0 (by rfl) (cnC (rightC C0) (.slice none 0 0) (.slice none 0 0)) _ (range_blk HX4.out rfl) Try.underlying48 rfl (by kernel_rfl) ?_
          refine wpList_store_row rfl 48 _ _ rfl (w.heap.size + 1) (cnC (rightC C0) (.slice none 0 0) (.slice none 0 0)).toArray (by rfl) (by rfl) _ _ HR4.out (by kernel_rfl) rfl (cn_one _ _ _ rfl rfl) ?_
          have HZ := Lib.hid (setRow_heap _ _ _ (cnC (rightC C0) (.slice none 0 0) (.slice none 0 0)).toArray _ _ HR4.out)
          have FZ := Lib.hid (fr_row HF4.out (g := w.heap.size + 1) (Or.inl (by omega)) (cnC (rightC C0) (.slice none 0 0) (.slice none 0 0)).toArray)
          go_wp2
          generalize z4.setRow (w.heap.size + 1) (cnC (rightC C0) (.slice none 0 0) (.slice none 0 0)).toArray = W5 at *
          have hz := (blk14n_facts (show W5.heap[w.heap.size + 1]? = some (.cells #[_, _, _, _, _, _, _, _, _, _, _, _, _, _] _ (0, 0)) from HZ.out)).1
          obtain ⟨e0, e1, e2, e3, e4, e5, e6, e7, e8, e9, e10, e11, e12, e13⟩ := hz
          refine bodyPost_ret (v := .agg (cnC (rightC C0) (.slice none 0 0) (.slice none 0 0)).toArray) (by simp [results, Try.results25, go_sem, e0, e1, e2, e3, e4, e5, e6, e7, e8, e9, e10, e11, e12, e13]; rfl) rfl ?_
          exact ⟨by rw [HC0.out]; rfl, FZ.out⟩
end Go.Proofs.Ytlhkgalmiajinaa
