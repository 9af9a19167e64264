/- Uns and Acks of the law package of layer 8. Conditions: bounds. -/
import Derived.Test.YthioageiebchlaaSuL
namespace Go.Proofs.Ythioageiebchlaa
open Go.RowKit
set_option linter.unusedVariables false
set_option linter.unusedSimpArgs false

def TdUn (s : Un) (x : Value) (w : World) (e : Ending) (w' : World) : Prop :=
  ∃ v, e = .returned (.agg (unC s v x).toArray) ∧ View w' v s.props.length (s.props.flatMap prE) ∧ Fr [] w w'
set_option maxRecDepth 100000 in
set_option maxHeartbeats 4000000 in
theorem uns8_any (s : Un) (v x : Value) (w : World) (hv : View w v s.props.length (s.props.flatMap prE)) (hl : s.props.length ≤ 1000000) (hx : ∃ A n c, x = .slice A n c) :
    Calls Try.prog 20 #[.agg (unC s v x).toArray] w (TdUn s x w) := by
  obtain ⟨id, l, fs⟩ := s
  dsimp only at hv hl
  obtain ⟨A3, n3, c3, rfl⟩ := hx
  have HV := Lib.hid hv
  obtain ⟨A, cp, rfl⟩ := view_shp hv
  have hb0 := blk_old (blk_new w (.cells #[.int .u32 (id : Int), .slice A l.length cp, .slice A3 n3 c3] 43)) (.cells #[.int .u32 0, .slice none 0 0, .slice none 0 0] 55)
  have hr0 := blk_at1 w (.cells #[.int .u32 (id : Int), .slice A l.length cp, .slice A3 n3 c3] 43) (.cells #[.int .u32 0, .slice none 0 0, .slice none 0 0] 55)
  have F0 : Fr [] w ((w.alloc (.cells #[.int .u32 (id : Int), .slice A l.length cp, .slice A3 n3 c3] 43)).alloc (.cells #[.int .u32 0, .slice none 0 0, .slice none 0 0] 55)) := ((Fr.refl _ _).alloc _).alloc _
  unfold unC
  dsimp only
  go_enter Try.func20, Try.ntmps20
  go_upto_region 1 with (fail)
  obtain ⟨y, hy⟩ : ∃ y, (w.alloc (.cells #[.int .u32 (id : Int), .slice A l.length cp, .slice A3 n3 c3] 43)).alloc (.cells #[.int .u32 0, .slice none 0 0, .slice none 0 0] 55) = y := ⟨_, rfl⟩
  rw [hy] at hb0 hr0 F0 ⊢
  clear hy
  refine wp_region_late [] (S := fun w' => w'.cell? ⟨w.heap.size, 0, none⟩ = some (.int .u32 (id : Int)) ∧ w'.cell? ⟨w.heap.size, 1, none⟩ = some (.slice A l.length cp) ∧ w'.cell? ⟨w.heap.size, 2, none⟩ = some (.slice A3 n3 c3)) (by kernel_rfl) (blk3_facts hb0).1 (fun hHeld => ?_)
  have fd := (Fr.refl [] y).drew
  have HB := Lib.hid (fd.blk hb0 (by simp))
  have HR := Lib.hid (fd.blk hr0 (by simp))
  have HF := Lib.hid (F0.trans fd (by simp))
  obtain ⟨wd, hwd⟩ : ∃ wd, y.drew = wd := ⟨_, rfl⟩
  rw [hwd] at hHeld HB HR HF ⊢
  clear hwd fd hb0 hr0 F0
  refine wpLate_take (i := 0) (oi := _) (v := ?_) rfl (by kernel_rfl) (by kernel_rfl) (by kernel_rfl) (by kernel_rfl) (fun _ _ _ h => h) (Gives.load (by rfl) ?_) hHeld ?_
  rotate_left
  · intro w hSw
    (try dsimp only at hSw)
    go_simp
    try with_reducible rfl
  try simp only [Act.put, List.getElem_toArray, List.getElem_cons_succ, List.getElem_cons_zero, List.setIfInBounds_toArray, List.set_cons_zero, List.set_cons_succ]
  refine wpLate_take (i := 1) (oi := _) (v := ?_) rfl (by kernel_rfl) (by kernel_rfl) (by kernel_rfl) (by kernel_rfl) (fun _ _ _ h => h) (Gives.load (by rfl) ?_) hHeld ?_
  rotate_left
  · intro w hSw
    (try dsimp only at hSw)
    go_simp
    try with_reducible rfl
  try simp only [Act.put, List.getElem_toArray, List.getElem_cons_succ, List.getElem_cons_zero, List.setIfInBounds_toArray, List.set_cons_zero, List.set_cons_succ]
  refine wpLate_take (i := 2) (oi := _) (v := ?_) rfl (by kernel_rfl) (by kernel_rfl) (by kernel_rfl) (by kernel_rfl) (fun _ _ _ h => h) (Gives.load (by rfl) ?_) hHeld ?_
  rotate_left
  · intro w hSw
    (try dsimp only at hSw)
    go_simp
    try with_reducible rfl
  try simp only [Act.put, List.getElem_toArray, List.getElem_cons_succ, List.getElem_cons_zero, List.setIfInBounds_toArray, List.set_cons_zero, List.set_cons_succ]
  refine wpLate_take (i := 3) (oi := _) (v := ?_) rfl (by kernel_rfl) (by kernel_rfl) (by kernel_rfl) (by kernel_rfl) (fun _ _ _ h => h) (Gives.load (by rfl) ?_) hHeld ?_
  rotate_left
  · intro w hSw
    (try dsimp only at hSw)
    go_simp
    try with_reducible rfl
  try simp only [Act.put, List.getElem_toArray, List.getElem_cons_succ, List.getElem_cons_zero, List.setIfInBounds_toArray, List.set_cons_zero, List.set_cons_succ]
  refine wpLate_take (i := 5) (oi := _) (v := ?_) rfl (by kernel_rfl) (by kernel_rfl) (by kernel_rfl) (by kernel_rfl) (fun _ _ _ h => h) (Gives.load (by rfl) ?_) hHeld ?_
  rotate_left
  · intro w hSw
    (try dsimp only at hSw)
    go_simp
    try with_reducible rfl
  try simp only [Act.put, List.getElem_toArray, List.getElem_cons_succ, List.getElem_cons_zero, List.setIfInBounds_toArray, List.set_cons_zero, List.set_cons_succ]
  refine wpLate_take (i := 6) (oi := _) (v := ?_) rfl (by kernel_rfl) (by kernel_rfl) (by kernel_rfl) (by kernel_rfl) (fun _ _ _ h => h) (Gives.load (by rfl) ?_) hHeld ?_
  rotate_left
  · intro w hSw
    (try dsimp only at hSw)
    go_simp
    try with_reducible rfl
  try simp only [Act.put, List.getElem_toArray, List.getElem_cons_succ, List.getElem_cons_zero, List.setIfInBounds_toArray, List.set_cons_zero, List.set_cons_succ]
  refine wpLate_ready (rs := [4]) (by kernel_rfl) (by simp) ?_
  refine AllLate.cons (o := _) rfl (fun K hK => ?_) (by exact AllLate.nil)
  go_simp
  refine (told_any _ l _ (HV.out.old HF.out (by simp)) hl).mono ?_
  rintro _ x1 ⟨v2, rfl, own2, f⟩
  obtain ⟨A2, n2, rfl⟩ := own_shape own2
  go_wp2_with fail
  have V2 := own_view own2
  have hlow := fun k hk => (own2.lt k hk).1
  have hb1 := f.blk HB.out (by simp)
  have hr1 := f.blk HR.out (by simp)
  have F1 := HF.out.trans f (by simp)
  have hw1 := HF.out.size
  have hrl := blk_lt HR.out
  refine hK.out _ _ (fun _ => (blk3_facts hb1).1) (fun hHeld => ?_)
  replace hHeld := hHeld (by kernel_rfl)
  clear hK K f own2
  try simp only [Act.put, List.getElem_toArray, List.getElem_cons_succ, List.getElem_cons_zero, List.setIfInBounds_toArray, List.set_cons_zero, List.set_cons_succ]
  refine wpLate_pure (i := 7) (oi := _) (v := ?_) rfl (by kernel_rfl) (by kernel_rfl) (by kernel_rfl) (by kernel_rfl) (fun _ _ _ h => h) (Gives.load (by rfl) ?_) (fun _ => hHeld) ?_
  rotate_left
  · intro w hSw
    clear hSw
    go_simp
    try with_reducible rfl
  try simp only [Act.put, List.getElem_toArray, List.getElem_cons_succ, List.getElem_cons_zero, List.setIfInBounds_toArray, List.set_cons_zero, List.set_cons_succ]
  refine wpLate_ready (rs := [8]) (by kernel_rfl) (by simp) ?_
  refine AllLate.cons (o := _) rfl (fun K hK => ?_) (by exact AllLate.nil)
  have gs := fr_row (Fr.refl [w.heap.size + 1] x1) (g := w.heap.size + 1) (Or.inr (by simp)) #[.int .u32 (id : Int), .slice A2 l.length n2, .slice A3 n3 c3]
  refine step_store_row rfl 55 _ _ rfl (w.heap.size + 1) #[.int .u32 (id : Int), .slice A2 l.length n2, .slice A3 n3 c3] (by rfl) (by rfl) _ _ hr1 (by kernel_rfl) rfl (su_row _ _ _ _ _ _ _) ?_
  have HZ := Lib.hid (setRow_heap _ _ _ #[.int .u32 (id : Int), .slice A2 l.length n2, .slice A3 n3 c3] _ _ hr1)
  have FZ := Lib.hid (F1.trans gs (by intro x hx e; simp at e; omega))
  have VZ := Lib.hid (V2.fr gs (by intro k hk e; have := hlow k hk; simp at e; omega))
  refine hK.out _ _ (fun _ => (blk3_facts (gs.blk hb1 (by simp))).1) (fun hHeld => ?_)
  replace hHeld := hHeld (by kernel_rfl)
  clear hK K hHeld gs hb1 hr1 F1 V2
  try simp only [Act.put, List.getElem_toArray, List.getElem_cons_succ, List.getElem_cons_zero, List.setIfInBounds_toArray, List.set_cons_zero, List.set_cons_succ]
  refine wpLate_done (by kernel_rfl) ?_ _
  go_wp2
  generalize World.setRow _ (w.heap.size + 1) #[.int .u32 (id : Int), .slice A2 l.length n2, .slice A3 n3 c3] = W5 at *
  obtain ⟨⟨e0, e1, e2⟩, _, _⟩ := blk3_facts HZ.out
  refine bodyPost_ret (v := .agg #[.int .u32 (id : Int), .slice A2 l.length n2, .slice A3 n3 c3]) (by simp [results, Try.results20, go_sem, e0, e1, e2]) rfl ?_
  exact ⟨_, rfl, VZ.out, FZ.out⟩
def TdSa (s : Sa) (w : World) (e : Ending) (w' : World) : Prop :=
  ∃ v, e = .returned (.agg (saC s v).toArray) ∧ View w' v s.props.length (s.props.flatMap prE) ∧ Fr [] w w'
set_option maxRecDepth 100000 in
set_option maxHeartbeats 4000000 in
theorem acks8_any (s : Sa) (v : Value) (w : World) (hv : View w v s.props.length (s.props.flatMap prE)) (hl : s.props.length ≤ 1000000) :
    Calls Try.prog 23 #[.agg (saC s v).toArray] w (TdSa s w) := by
  obtain ⟨k, id, l, c⟩ := s
  dsimp only at hv hl
  have HV := Lib.hid hv
  obtain ⟨A, cp, rfl⟩ := view_shp hv
  have hb0 := blk_old (blk_new w (.cells #[.int .i64 k, .int .u32 (id : Int), .slice A l.length cp, .string ⟨c.toArray⟩] 45)) (.cells #[.int .i64 0, .int .u32 0, .slice none 0 0, .string ⟨#[]⟩] 59)
  have hr0 := blk_at1 w (.cells #[.int .i64 k, .int .u32 (id : Int), .slice A l.length cp, .string ⟨c.toArray⟩] 45) (.cells #[.int .i64 0, .int .u32 0, .slice none 0 0, .string ⟨#[]⟩] 59)
  have F0 : Fr [] w ((w.alloc (.cells #[.int .i64 k, .int .u32 (id : Int), .slice A l.length cp, .string ⟨c.toArray⟩] 45)).alloc (.cells #[.int .i64 0, .int .u32 0, .slice none 0 0, .string ⟨#[]⟩] 59)) := ((Fr.refl _ _).alloc _).alloc _
  unfold saC
  dsimp only
  go_enter Try.func23, Try.ntmps23
  go_upto_region 1 with (fail)
  obtain ⟨y, hy⟩ : ∃ y, (w.alloc (.cells #[.int .i64 k, .int .u32 (id : Int), .slice A l.length cp, .string ⟨c.toArray⟩] 45)).alloc (.cells #[.int .i64 0, .int .u32 0, .slice none 0 0, .string ⟨#[]⟩] 59) = y := ⟨_, rfl⟩
  rw [hy] at hb0 hr0 F0 ⊢
  clear hy
  refine wp_region_late [] (S := fun w' => w'.cell? ⟨w.heap.size, 0, none⟩ = some (.int .i64 k) ∧ w'.cell? ⟨w.heap.size, 1, none⟩ = some (.int .u32 (id : Int)) ∧ w'.cell? ⟨w.heap.size, 2, none⟩ = some (.slice A l.length cp) ∧ w'.cell? ⟨w.heap.size, 3, none⟩ = some (.string ⟨c.toArray⟩)) (by kernel_rfl) (blk4_facts hb0).1 (fun hHeld => ?_)
  have fd := (Fr.refl [] y).drew
  have HB := Lib.hid (fd.blk hb0 (by simp))
  have HR := Lib.hid (fd.blk hr0 (by simp))
  have HF := Lib.hid (F0.trans fd (by simp))
  obtain ⟨wd, hwd⟩ : ∃ wd, y.drew = wd := ⟨_, rfl⟩
  rw [hwd] at hHeld HB HR HF ⊢
  clear hwd fd hb0 hr0 F0
  refine wpLate_take (i := 0) (oi := _) (v := ?_) rfl (by kernel_rfl) (by kernel_rfl) (by kernel_rfl) (by kernel_rfl) (fun _ _ _ h => h) (Gives.load (by rfl) ?_) hHeld ?_
  rotate_left
  · intro w hSw
    (try dsimp only at hSw)
    go_simp
    try with_reducible rfl
  try simp only [Act.put, List.getElem_toArray, List.getElem_cons_succ, List.getElem_cons_zero, List.setIfInBounds_toArray, List.set_cons_zero, List.set_cons_succ]
  refine wpLate_take (i := 1) (oi := _) (v := ?_) rfl (by kernel_rfl) (by kernel_rfl) (by kernel_rfl) (by kernel_rfl) (fun _ _ _ h => h) (Gives.load (by rfl) ?_) hHeld ?_
  rotate_left
  · intro w hSw
    (try dsimp only at hSw)
    go_simp
    try with_reducible rfl
  try simp only [Act.put, List.getElem_toArray, List.getElem_cons_succ, List.getElem_cons_zero, List.setIfInBounds_toArray, List.set_cons_zero, List.set_cons_succ]
  refine wpLate_take (i := 2) (oi := _) (v := ?_) rfl (by kernel_rfl) (by kernel_rfl) (by kernel_rfl) (by kernel_rfl) (fun _ _ _ h => h) (Gives.load (by rfl) ?_) hHeld ?_
  rotate_left
  · intro w hSw
    (try dsimp only at hSw)
    go_simp
    try with_reducible rfl
  try simp only [Act.put, List.getElem_toArray, List.getElem_cons_succ, List.getElem_cons_zero, List.setIfInBounds_toArray, List.set_cons_zero, List.set_cons_succ]
  refine wpLate_take (i := 3) (oi := _) (v := ?_) rfl (by kernel_rfl) (by kernel_rfl) (by kernel_rfl) (by kernel_rfl) (fun _ _ _ h => h) (Gives.load (by rfl) ?_) hHeld ?_
  rotate_left
  · intro w hSw
    (try dsimp only at hSw)
    go_simp
    try with_reducible rfl
  try simp only [Act.put, List.getElem_toArray, List.getElem_cons_succ, List.getElem_cons_zero, List.setIfInBounds_toArray, List.set_cons_zero, List.set_cons_succ]
  refine wpLate_take (i := 4) (oi := _) (v := ?_) rfl (by kernel_rfl) (by kernel_rfl) (by kernel_rfl) (by kernel_rfl) (fun _ _ _ h => h) (Gives.load (by rfl) ?_) hHeld ?_
  rotate_left
  · intro w hSw
    (try dsimp only at hSw)
    go_simp
    try with_reducible rfl
  try simp only [Act.put, List.getElem_toArray, List.getElem_cons_succ, List.getElem_cons_zero, List.setIfInBounds_toArray, List.set_cons_zero, List.set_cons_succ]
  refine wpLate_take (i := 5) (oi := _) (v := ?_) rfl (by kernel_rfl) (by kernel_rfl) (by kernel_rfl) (by kernel_rfl) (fun _ _ _ h => h) (Gives.load (by rfl) ?_) hHeld ?_
  rotate_left
  · intro w hSw
    (try dsimp only at hSw)
    go_simp
    try with_reducible rfl
  try simp only [Act.put, List.getElem_toArray, List.getElem_cons_succ, List.getElem_cons_zero, List.setIfInBounds_toArray, List.set_cons_zero, List.set_cons_succ]
  refine wpLate_take (i := 7) (oi := _) (v := ?_) rfl (by kernel_rfl) (by kernel_rfl) (by kernel_rfl) (by kernel_rfl) (fun _ _ _ h => h) (Gives.load (by rfl) ?_) hHeld ?_
  rotate_left
  · intro w hSw
    (try dsimp only at hSw)
    go_simp
    try with_reducible rfl
  try simp only [Act.put, List.getElem_toArray, List.getElem_cons_succ, List.getElem_cons_zero, List.setIfInBounds_toArray, List.set_cons_zero, List.set_cons_succ]
  refine wpLate_take (i := 8) (oi := _) (v := ?_) rfl (by kernel_rfl) (by kernel_rfl) (by kernel_rfl) (by kernel_rfl) (fun _ _ _ h => h) (Gives.load (by rfl) ?_) hHeld ?_
  rotate_left
  · intro w hSw
    (try dsimp only at hSw)
    go_simp
    try with_reducible rfl
  try simp only [Act.put, List.getElem_toArray, List.getElem_cons_succ, List.getElem_cons_zero, List.setIfInBounds_toArray, List.set_cons_zero, List.set_cons_succ]
  refine wpLate_ready (rs := [6]) (by kernel_rfl) (by simp) ?_
  refine AllLate.cons (o := _) rfl (fun K hK => ?_) (by exact AllLate.nil)
  go_simp
  refine (told_any _ l _ (HV.out.old HF.out (by simp)) hl).mono ?_
  rintro _ x1 ⟨v2, rfl, own2, f⟩
  obtain ⟨A2, n2, rfl⟩ := own_shape own2
  go_wp2_with fail
  have V2 := own_view own2
  have hlow := fun k hk => (own2.lt k hk).1
  have hb1 := f.blk HB.out (by simp)
  have hr1 := f.blk HR.out (by simp)
  have F1 := HF.out.trans f (by simp)
  have hw1 := HF.out.size
  have hrl := blk_lt HR.out
  refine hK.out _ _ (fun _ => (blk4_facts hb1).1) (fun hHeld => ?_)
  replace hHeld := hHeld (by kernel_rfl)
  clear hK K f own2
  try simp only [Act.put, List.getElem_toArray, List.getElem_cons_succ, List.getElem_cons_zero, List.setIfInBounds_toArray, List.set_cons_zero, List.set_cons_succ]
  refine wpLate_pure (i := 9) (oi := _) (v := ?_) rfl (by kernel_rfl) (by kernel_rfl) (by kernel_rfl) (by kernel_rfl) (fun _ _ _ h => h) (Gives.load (by rfl) ?_) (fun _ => hHeld) ?_
  rotate_left
  · intro w hSw
    clear hSw
    go_simp
    try with_reducible rfl
  try simp only [Act.put, List.getElem_toArray, List.getElem_cons_succ, List.getElem_cons_zero, List.setIfInBounds_toArray, List.set_cons_zero, List.set_cons_succ]
  refine wpLate_ready (rs := [10]) (by kernel_rfl) (by simp) ?_
  refine AllLate.cons (o := _) rfl (fun K hK => ?_) (by exact AllLate.nil)
  have gs := fr_row (Fr.refl [w.heap.size + 1] x1) (g := w.heap.size + 1) (Or.inr (by simp)) #[.int .i64 k, .int .u32 (id : Int), .slice A2 l.length n2, .string ⟨c.toArray⟩]
  refine step_store_row rfl 59 _ _ rfl (w.heap.size + 1) #[.int .i64 k, .int .u32 (id : Int), .slice A2 l.length n2, .string ⟨c.toArray⟩] (by rfl) (by rfl) _ _ hr1 (by kernel_rfl) rfl (sa_one4 _ _ _ _ _ _) ?_
  have HZ := Lib.hid (setRow_heap _ _ _ #[.int .i64 k, .int .u32 (id : Int), .slice A2 l.length n2, .string ⟨c.toArray⟩] _ _ hr1)
  have FZ := Lib.hid (F1.trans gs (by intro x hx e; simp at e; omega))
  have VZ := Lib.hid (V2.fr gs (by intro k hk e; have := hlow k hk; simp at e; omega))
  refine hK.out _ _ (fun _ => (blk4_facts (gs.blk hb1 (by simp))).1) (fun hHeld => ?_)
  replace hHeld := hHeld (by kernel_rfl)
  clear hK K hHeld gs hb1 hr1 F1 V2
  try simp only [Act.put, List.getElem_toArray, List.getElem_cons_succ, List.getElem_cons_zero, List.setIfInBounds_toArray, List.set_cons_zero, List.set_cons_succ]
  refine wpLate_done (by kernel_rfl) ?_ _
  go_wp2
  generalize World.setRow _ (w.heap.size + 1) #[.int .i64 k, .int .u32 (id : Int), .slice A2 l.length n2, .string ⟨c.toArray⟩] = W5 at *
  obtain ⟨⟨e0, e1, e2, e3⟩, _, _⟩ := blk4_facts HZ.out
  refine bodyPost_ret (v := .agg #[.int .i64 k, .int .u32 (id : Int), .slice A2 l.length n2, .string ⟨c.toArray⟩]) (by simp [results, Try.results23, go_sem, e0, e1, e2, e3]) rfl ?_
  exact ⟨_, rfl, VZ.out, FZ.out⟩
end Go.Proofs.Ythioageiebchlaa
