/- What the reference of layer 8 writes: the same bytes. Conditions: numbers within their kinds, strings that may be. -/
import Derived.Test.YthioageiebchlaaPlainT
import Derived.Test.YthioageiebchlaaSuA
import Derived.Test.YthioageiebchlaaPropN
import Derived.Test.YthioageiebchlaaRefA
import Derived.Test.YthioageiebchlaaDrawn
import Derived.Test.YthioageiebchlaaStep
namespace Go.Proofs.Ythioageiebchlaa
open Go.RowKit
set_option linter.unusedVariables false
set_option linter.unusedSimpArgs false

theorem rsopt_fin : ∀ (q h : Fin 4), ((q.val : Int) + (h.val : Int) * 16 % 256) % 256 = (q.val : Int) + (h.val : Int) * 16 := by decide +kernel
set_option maxRecDepth 100000 in
theorem rsopt_any (x : Sb) (w : World) (hq : x.qos < 256) (hh : x.handling < 256) :
    Calls Try.prog 48 #[.agg (sbE x).toArray] w fun e w' => e = .returned (.int .u8 (sbOpt x : Nat)) ∧ Fr [] w w' := by
  obtain ⟨f, q, nl, ap, h⟩ := x
  dsimp only at hq hh
  obtain ⟨m, hm⟩ : ∃ m, q % 4 = m := ⟨_, rfl⟩
  obtain ⟨n, hn⟩ : ∃ n, h % 4 = n := ⟨_, rfl⟩
  have hm4 : m < 4 := by rw [← hm]; exact Nat.mod_lt _ (by decide)
  have hn4 : n < 4 := by rw [← hn]; exact Nat.mod_lt _ (by decide)
  have HF : Hid (sbOpt ⟨f, q, nl, ap, h⟩ = m + n * 16 + (if nl = true then 4 else 0) + (if ap = true then 8 else 0)) := Lib.hid (by rw [← hm, ← hn]; rfl)
  have h1 : (q : Int) % 4 = (m : Int) := by omega
  have h2 : (h : Int) % 4 = (n : Int) := by omega
  have h1' : (q : Int).tmod 4 = (m : Int) := by rw [Int.tmod_eq_emod_of_nonneg (by omega)]; exact h1
  have h2' : (h : Int).tmod 4 = (n : Int) := by rw [Int.tmod_eq_emod_of_nonneg (by omega)]; exact h2
  clear hm hn
  cases nl <;> cases ap
  all_goals
    unfold sbE
    go_enter Try.func48, Try.ntmps48
    go_wp2
    go_ret
    rw [HF.out]
    exact ⟨ret_int (by first | (simp; done) | (simp; omega)), (Fr.refl _ _).alloc _⟩
set_option maxRecDepth 100000 in
set_option maxHeartbeats 4000000 in
theorem rsutext_any (s : Su) (v u : Value) (w : World) (hb : SuB s) (hv : View w v s.props.length (s.props.flatMap prE)) (hu : View w u s.subs.length (s.subs.flatMap sbE)) :
    Calls Try.prog 16 #[.agg (suC s v u).toArray] w fun e w' => e = .returned (.string ⟨(suText s).toArray⟩) ∧ Fr [] w w' := by
  obtain ⟨id, l, ss⟩ := s
  obtain ⟨b1, b2, b3, b4, b5⟩ := hb
  dsimp only at hv hu b1 b2 b3 b4 b5
  have HV := Lib.hid hv
  have HSO := Lib.hid b5
  have HC : Hid (0 < ss.length → ∃ bb off c, u = .slice (some ⟨bb, off, none⟩) ss.length c ∧ bb < w.heap.size ∧ ∀ (i : Nat) (hi : i < ss.length) j x, (sbE ss[i])[j]? = some x → w.cell? ⟨bb, off + i * 5 + j, none⟩ = some x) := Lib.hid (fun hl => hu.at sbE_len (by decide) hl)
  obtain ⟨A, cp, rfl, _⟩ := hv
  obtain ⟨AU, cu, rfl, _⟩ := hu
  have HT : Hid (suText ⟨id, l, ss⟩ = headB id l ++ subsB ss) := Lib.hid rfl
  have HH : Hid ((ByteArray.mk (two id).toArray) ++ (ByteArray.mk (var (putsB l).length ++ putsB l).toArray) = ⟨(headB id l).toArray⟩) := Lib.hid (by rw [ByteArray.mk_append_mk]; unfold headB propsB; simp)
  have hb0 := blk_new w (.cells (suC ⟨id, l, ss⟩ (.slice A l.length cp) (.slice AU ss.length cu)).toArray 51)
  have F0 : Fr [] w (w.alloc (.cells (suC ⟨id, l, ss⟩ (.slice A l.length cp) (.slice AU ss.length cu)).toArray 51)) := (Fr.refl _ _).alloc _
  have hhl := headB_le id l b2
  have hh2 : ¬ 9223372036854775807 < (two id).length + (var (putsB l).length ++ putsB l).length := by
    have : (headB id l).length = (two id).length + (var (putsB l).length ++ putsB l).length := by unfold headB propsB; rw [List.length_append]
    omega
  unfold suC at hb0 F0 ⊢
  dsimp only at hb0 F0 ⊢
  clear b5
  obtain ⟨PB, hPB⟩ : ∃ PB, var (putsB l).length ++ putsB l = PB := ⟨_, rfl⟩
  obtain ⟨TI, hTI⟩ : ∃ TI, two id = TI := ⟨_, rfl⟩
  rw [hPB, hTI] at HH hh2
  have HPB := Lib.hid hPB
  have HTI := Lib.hid hTI
  clear hPB hTI
  go_enter Try.func16, Try.ntmps16
  go_upto_region 1 with (fail)
  obtain ⟨y, hy⟩ : ∃ y, w.alloc (.cells #[.int .u32 (id : Int), .slice A l.length cp, .slice AU ss.length cu] 51) = y := ⟨_, rfl⟩
  rw [hy] at hb0 F0 ⊢
  clear hy
  obtain ⟨⟨e0, e1, e2⟩, _, _⟩ := blk3_facts hb0
  refine wp_region_late [] (S := fun w' => w'.cell? ⟨w.heap.size, 0, none⟩ = some (.int .u32 (id : Int)) ∧ w'.cell? ⟨w.heap.size, 1, none⟩ = some (.slice A l.length cp)) (by kernel_rfl) ⟨e0, e1⟩ (fun hHeld => ?_)
  have fd := (Fr.refl [] y).drew
  have HB := Lib.hid (fd.blk hb0 (by simp))
  have F1 := Lib.hid (F0.trans fd (by simp))
  obtain ⟨wd, hwd⟩ : ∃ wd, y.drew = wd := ⟨_, rfl⟩
  rw [hwd] at hHeld HB F1 ⊢
  clear hwd fd hb0 F0 e0 e1 e2
  refine wpLate_take (i := 0) (oi := _) (v := ?_) rfl (by kernel_rfl) (by kernel_rfl) (by kernel_rfl) (by kernel_rfl) (fun _ _ _ h => h) (Gives.load (by rfl) ?_) hHeld ?_
  rotate_left
  · intro w hSw
    (try dsimp only at hSw)
    go_simp
    try with_reducible rfl
  try simp only [Act.put, List.getElem_toArray, List.getElem_cons_succ, List.getElem_cons_zero, List.setIfInBounds_toArray, List.set_cons_zero, List.set_cons_succ]
  refine wpLate_take (i := 1) (oi := _) (v := ?_) rfl (by kernel_rfl) (by kernel_rfl) (by kernel_rfl) (by kernel_rfl) (fun _ _ _ h => h) (Gives.load (by rfl) ?_) hHeld ?_
  rotate_left
  · intro w hSw
    (try dsimp only at hSw)
    go_simp
    try with_reducible rfl
  try simp only [Act.put, List.getElem_toArray, List.getElem_cons_succ, List.getElem_cons_zero, List.setIfInBounds_toArray, List.set_cons_zero, List.set_cons_succ]
  refine wpLate_take (i := 3) (oi := _) (v := ?_) rfl (by kernel_rfl) (by kernel_rfl) (by kernel_rfl) (by kernel_rfl) (fun _ _ _ h => h) (Gives.load (by rfl) ?_) hHeld ?_
  rotate_left
  · intro w hSw
    (try dsimp only at hSw)
    go_simp
    try with_reducible rfl
  try simp only [Act.put, List.getElem_toArray, List.getElem_cons_succ, List.getElem_cons_zero, List.setIfInBounds_toArray, List.set_cons_zero, List.set_cons_succ]
  refine wpLate_take (i := 4) (oi := _) (v := ?_) rfl (by kernel_rfl) (by kernel_rfl) (by kernel_rfl) (by kernel_rfl) (fun _ _ _ h => h) (Gives.load (by rfl) ?_) hHeld ?_
  rotate_left
  · intro w hSw
    (try dsimp only at hSw)
    go_simp
    try with_reducible rfl
  try simp only [Act.put, List.getElem_toArray, List.getElem_cons_succ, List.getElem_cons_zero, List.setIfInBounds_toArray, List.set_cons_zero, List.set_cons_succ]
  refine wpLate_ready (rs := [2]) (by kernel_rfl) (by simp) ?_
  refine AllLate.cons (o := _) rfl (fun K hK => ?_) (by exact AllLate.nil)
  go_simp
  refine (rtwo_any (id : Int) _ (by omega) (by omega)).mono ?_
  rintro _ x1 ⟨rfl, g1⟩
  rw [Int.toNat_natCast, HTI.out]
  go_wp2_with fail
  have HB1 := Lib.hid (g1.blk HB.out (by simp))
  have F2 := Lib.hid (F1.out.trans g1 (by simp))
  refine hK.out _ _ (fun _ => ⟨(blk3_facts HB1.out).1.1, (blk3_facts HB1.out).1.2.1⟩) (fun hHeld => ?_)
  replace hHeld := hHeld (by kernel_rfl)
  clear hK K HB F1 g1
  try simp only [Act.put, List.getElem_toArray, List.getElem_cons_succ, List.getElem_cons_zero, List.setIfInBounds_toArray, List.set_cons_zero, List.set_cons_succ]
  refine wpLate_ready (rs := [5]) (by kernel_rfl) (by simp) ?_
  refine AllLate.cons (o := _) rfl (fun K hK => ?_) (by exact AllLate.nil)
  go_simp
  refine (rtext_pany _ l _ (HV.out.old F2.out (by simp)) b2 b3).mono ?_
  rintro _ x2 ⟨rfl, g2⟩
  rw [HPB.out]
  go_wp2_with fail
  have HB2 := Lib.hid (g2.blk HB1.out (by simp))
  have F3 := Lib.hid (F2.out.trans g2 (by simp))
  refine hK.out _ _ (fun _ => ⟨(blk3_facts HB2.out).1.1, (blk3_facts HB2.out).1.2.1⟩) (fun hHeld => ?_)
  replace hHeld := hHeld (by kernel_rfl)
  clear hK K HB1 F2 g2
  try simp only [Act.put, List.getElem_toArray, List.getElem_cons_succ, List.getElem_cons_zero, List.setIfInBounds_toArray, List.set_cons_zero, List.set_cons_succ]
  refine wpLate_pure (i := 6) (oi := _) (v := ?_) rfl (by kernel_rfl) (by kernel_rfl) (by kernel_rfl) (by kernel_rfl) (fun _ _ _ h => h) (Gives.load (by rfl) ?_) (fun _ => hHeld) ?_
  rotate_left
  · intro w hSw
    clear hSw
    go_simp
    try with_reducible rfl
  try simp only [Act.put, List.getElem_toArray, List.getElem_cons_succ, List.getElem_cons_zero, List.setIfInBounds_toArray, List.set_cons_zero, List.set_cons_succ]
  rw [HH.out]
  refine wpLate_pure (i := 7) (oi := _) (v := ?_) rfl (by kernel_rfl) (by kernel_rfl) (by kernel_rfl) (by kernel_rfl) (fun _ _ _ h => h) (Gives.load (by rfl) ?_) (fun _ => hHeld) ?_
  rotate_left
  · intro w hSw
    clear hSw
    go_simp
    try with_reducible rfl
  try simp only [Act.put, List.getElem_toArray, List.getElem_cons_succ, List.getElem_cons_zero, List.setIfInBounds_toArray, List.set_cons_zero, List.set_cons_succ]
  refine wpLate_done (by kernel_rfl) ?_ _
  clear hHeld hh2
  obtain ⟨⟨e0, e1, e2⟩, _, _⟩ := blk3_facts HB2.out
  generalize hHB : headB id l = HBy at *
  clear hHB
  go_wp2
  go_loopw [3, 16] (fun o i wr => ∃ (k : Nat), i = .int .i64 k ∧ k ≤ ss.length ∧ o = .string ⟨(HBy ++ subsB (ss.take k)).toArray⟩ ∧ Fr [] w wr) (fun _ i _ => ss.length - (intOf i).toNat)
  case atStart => exact ⟨0, rfl, by omega, by simp [subsB], F3.out⟩
  case round =>
    obtain ⟨k, rfl, hk, rfl, hfr⟩ := hrel
    have HF := Lib.hid hfr
    have hpl := subsB_len (ss.take k)
    have htl : (ss.take k).length ≤ 1000 := Nat.le_trans (List.length_take_le _ _) (by omega)
    have hrl : (HBy ++ subsB (ss.take k)).length ≤ 200000000 := by rw [List.length_append]; omega
    clear hfr e0 e1 e2
    by_cases hlt : k < ss.length
    · obtain ⟨bb, off, c', hsl, hbb, hc⟩ := HC.out (by omega)
      cases hsl
      have hcell := hc k hlt
      have hso := HSO.out ss[k] (List.getElem_mem hlt)
      have hsn : Hid (HBy ++ subsB (ss.take (k + 1)) = (HBy ++ subsB (ss.take k)) ++ (dataB ss[k].filter ++ [b8 (sbOpt ss[k])])) := Lib.hid (by rw [subsB_snoc _ _ hlt, sbB]; simp only [List.append_assoc])
      generalize HBy ++ subsB (ss.take k) = L at *
      generalize ss[k] = x at *
      obtain ⟨q1, q2, q3⟩ := hso
      have HOP := fun W => rsopt_any x W q1 q2
      have hol : (sbOpt x : Int) < 256 := by unfold sbOpt; split <;> split <;> omega
      obtain ⟨f, q, nl, ap, h⟩ := x
      dsimp only at hsn q1 q2 q3
      have hfl := dataB_len f
      replace HOP := Lib.hid HOP
      generalize hO : sbOpt ⟨f, q, nl, ap, h⟩ = O at *
      clear hO
      have c0 : wr.cell? ⟨bb, off + k * 5, none⟩ = some (.string ⟨f.toArray⟩) := HF.out.cell (hcell 0 _ rfl) (by simp)
      have c1 : wr.cell? ⟨bb, off + k * 5 + 1, none⟩ = some (.int .u8 (q : Int)) := HF.out.cell (hcell 1 _ rfl) (by simp)
      have c2 : wr.cell? ⟨bb, off + k * 5 + 2, none⟩ = some (.bool nl) := HF.out.cell (hcell 2 _ rfl) (by simp)
      have c3 : wr.cell? ⟨bb, off + k * 5 + 3, none⟩ = some (.bool ap) := HF.out.cell (hcell 3 _ rfl) (by simp)
      have c4 : wr.cell? ⟨bb, off + k * 5 + 4, none⟩ = some (.int .u8 (h : Int)) := HF.out.cell (hcell 4 _ rfl) (by simp)
      clear hcell hc
      have hp := blk_new wr (.cells #[.string ⟨f.toArray⟩, .int .u8 (q : Int), .bool nl, .bool ap, .int .u8 (h : Int)] 92)
      have fr1 := HF.out.alloc (.cells #[.string ⟨f.toArray⟩, .int .u8 (q : Int), .bool nl, .bool ap, .int .u8 (h : Int)] 92)
      go_upto_region 5 with (fail)
      obtain ⟨y, hy⟩ : ∃ y, wr.alloc (.cells #[.string ⟨f.toArray⟩, .int .u8 (q : Int), .bool nl, .bool ap, .int .u8 (h : Int)] 92) = y := ⟨_, rfl⟩
      obtain ⟨P, hP⟩ : ∃ P, wr.heap.size = P := ⟨_, rfl⟩
      rw [hy] at hp fr1 ⊢
      rw [hP] at hp ⊢
      clear hy hP c0 c1 c2 c3 c4
      refine wp_region_late [] (S := fun w' => w'.cell? ⟨P, 0, none⟩ = some (.string ⟨f.toArray⟩) ∧ w'.cell? ⟨P, 1, none⟩ = some (.int .u8 (q : Int)) ∧ w'.cell? ⟨P, 2, none⟩ = some (.bool nl) ∧ w'.cell? ⟨P, 3, none⟩ = some (.bool ap) ∧ w'.cell? ⟨P, 4, none⟩ = some (.int .u8 (h : Int))) (by kernel_rfl) (blk5n_facts hp).1 (fun hHeld => ?_)
      have fd := (Fr.refl [] y).drew
      have hpd := fd.blk hp (by simp)
      have fr2 := fr1.trans fd (by simp)
      obtain ⟨wd, hwd⟩ : ∃ wd, y.drew = wd := ⟨_, rfl⟩
      rw [hwd] at hHeld hpd fr2 ⊢
      clear hwd fd hp fr1
      obtain ⟨DF, hDF⟩ : ∃ DF, dataB f = DF := ⟨_, rfl⟩
      obtain ⟨OB, hOB⟩ : ∃ OB : List UInt8, [b8 O] = OB := ⟨_, rfl⟩
      obtain ⟨DO, hDO⟩ : ∃ DO, DF ++ OB = DO := ⟨_, rfl⟩
      obtain ⟨LN, hLN⟩ : ∃ LN, L ++ DO = LN := ⟨_, rfl⟩
      rw [hDF] at hfl
      have hob : OB.length = 1 := by rw [← hOB]; rfl
      have hdo : DO.length = DF.length + OB.length := by rw [← hDO, List.length_append]
      have hadd1 : ¬ 9223372036854775807 < DF.length + OB.length := by omega
      have hadd2 : ¬ 9223372036854775807 < L.length + DO.length := by omega
      have HC1 : Hid ((ByteArray.mk DF.toArray) ++ (ByteArray.mk OB.toArray) = ⟨DO.toArray⟩) := Lib.hid (by rw [ByteArray.mk_append_mk, ← hDO])
      have HC2 : Hid ((ByteArray.mk L.toArray) ++ (ByteArray.mk DO.toArray) = ⟨LN.toArray⟩) := Lib.hid (by rw [ByteArray.mk_append_mk, ← hLN])
      rw [hDF, hOB, hDO, hLN] at hsn
      have HDF := Lib.hid hDF
      have HOB := Lib.hid hOB
      clear hDF hOB hDO hLN hob hdo
      refine wpLate_take (i := 0) (oi := _) (v := ?_) rfl (by kernel_rfl) (by kernel_rfl) (by kernel_rfl) (by kernel_rfl) (fun _ _ _ h => h) (Gives.load (by rfl) ?_) hHeld ?_
      rotate_left
      · intro w hSw
        (try dsimp only at hSw)
        go_simp
        try with_reducible rfl
      try simp only [Act.put, List.getElem_toArray, List.getElem_cons_succ, List.getElem_cons_zero, List.setIfInBounds_toArray, List.set_cons_zero, List.set_cons_succ]
      refine wpLate_take (i := 1) (oi := _) (v := ?_) rfl (by kernel_rfl) (by kernel_rfl) (by kernel_rfl) (by kernel_rfl) (fun _ _ _ h => h) (Gives.load (by rfl) ?_) hHeld ?_
      rotate_left
      · intro w hSw
        (try dsimp only at hSw)
        go_simp
        try with_reducible rfl
      try simp only [Act.put, List.getElem_toArray, List.getElem_cons_succ, List.getElem_cons_zero, List.setIfInBounds_toArray, List.set_cons_zero, List.set_cons_succ]
      refine wpLate_take (i := 2) (oi := _) (v := ?_) rfl (by kernel_rfl) (by kernel_rfl) (by kernel_rfl) (by kernel_rfl) (fun _ _ _ h => h) (Gives.load (by rfl) ?_) hHeld ?_
      rotate_left
      · intro w hSw
        (try dsimp only at hSw)
        go_simp
        try with_reducible rfl
      try simp only [Act.put, List.getElem_toArray, List.getElem_cons_succ, List.getElem_cons_zero, List.setIfInBounds_toArray, List.set_cons_zero, List.set_cons_succ]
      refine wpLate_take (i := 4) (oi := _) (v := ?_) rfl (by kernel_rfl) (by kernel_rfl) (by kernel_rfl) (by kernel_rfl) (fun _ _ _ h => h) (Gives.load (by rfl) ?_) hHeld ?_
      rotate_left
      · intro w hSw
        (try dsimp only at hSw)
        go_simp
        try with_reducible rfl
      try simp only [Act.put, List.getElem_toArray, List.getElem_cons_succ, List.getElem_cons_zero, List.setIfInBounds_toArray, List.set_cons_zero, List.set_cons_succ]
      refine wpLate_ready (rs := [3]) (by kernel_rfl) (by simp) ?_
      refine AllLate.cons (o := _) rfl (fun K hK => ?_) (by exact AllLate.nil)
      go_simp
      refine (rdata_any f _ q3).mono ?_
      rintro _ x1 ⟨rfl, g1⟩
      rw [HDF.out]
      go_wp2_with fail
      have hp1 := g1.blk hpd (by simp)
      have fr3 := fr2.trans g1 (by simp)
      refine hK.out _ _ (fun _ => (blk5n_facts hp1).1) (fun hHeld => ?_)
      replace hHeld := hHeld (by kernel_rfl)
      clear hK K g1
      try simp only [Act.put, List.getElem_toArray, List.getElem_cons_succ, List.getElem_cons_zero, List.setIfInBounds_toArray, List.set_cons_zero, List.set_cons_succ]
      refine wpLate_ready (rs := [5]) (by kernel_rfl) (by simp) ?_
      refine AllLate.cons (o := _) rfl (fun K hK => ?_) (by exact AllLate.nil)
      go_simp
      refine (HOP.out _).mono ?_
      rintro _ x2 ⟨rfl, g2⟩
      go_wp2_with fail
      have hp2 := g2.blk hp1 (by simp)
      have fr4 := fr3.trans g2 (by simp)
      refine hK.out _ _ (fun _ => (blk5n_facts hp2).1) (fun hHeld => ?_)
      replace hHeld := hHeld (by kernel_rfl)
      clear hK K g2
      try simp only [Act.put, List.getElem_toArray, List.getElem_cons_succ, List.getElem_cons_zero, List.setIfInBounds_toArray, List.set_cons_zero, List.set_cons_succ]
      refine wpLate_ready (rs := [6]) (by kernel_rfl) (by simp) ?_
      refine AllLate.cons (o := _) rfl (fun K hK => ?_) (by exact AllLate.nil)
      go_simp
      have hp3 := blk_old hp2 (.cells #[.int .u8 (O : Int)] 5)
      have fr5 := fr4.alloc (.cells #[.int .u8 (O : Int)] 5)
      have hcv := conv1 (O : Int) ⟨by omega, hol⟩ x2
      rw [Int.toNat_natCast, HOB.out] at hcv
      have HCV := Lib.hid hcv
      clear hcv
      refine hK.out _ _ (fun _ => (blk5n_facts hp3).1) (fun hHeld => ?_)
      replace hHeld := hHeld (by kernel_rfl)
      clear hK K
      try simp only [Act.put, List.getElem_toArray, List.getElem_cons_succ, List.getElem_cons_zero, List.setIfInBounds_toArray, List.set_cons_zero, List.set_cons_succ]
      refine wpLate_ready (rs := [7]) (by kernel_rfl) (by simp) ?_
      refine AllLate.cons (o := _) rfl (fun K hK => ?_) (by exact AllLate.nil)
      have hcv := HCV.out
      go_simp
      refine hK.out _ _ (fun _ => (blk5n_facts hp3).1) (fun hHeld => ?_)
      replace hHeld := hHeld (by kernel_rfl)
      clear hK K hcv HCV
      try simp only [Act.put, List.getElem_toArray, List.getElem_cons_succ, List.getElem_cons_zero, List.setIfInBounds_toArray, List.set_cons_zero, List.set_cons_succ]
      refine wpLate_pure (i := 8) (oi := _) (v := ?_) rfl (by kernel_rfl) (by kernel_rfl) (by kernel_rfl) (by kernel_rfl) (fun _ _ _ h => h) (Gives.load (by rfl) ?_) (fun _ => hHeld) ?_
      rotate_left
      · intro w hSw
        clear hSw
        go_simp
        try with_reducible rfl
      try simp only [Act.put, List.getElem_toArray, List.getElem_cons_succ, List.getElem_cons_zero, List.setIfInBounds_toArray, List.set_cons_zero, List.set_cons_succ]
      rw [HC1.out]
      refine wpLate_pure (i := 9) (oi := _) (v := ?_) rfl (by kernel_rfl) (by kernel_rfl) (by kernel_rfl) (by kernel_rfl) (fun _ _ _ h => h) (Gives.load (by rfl) ?_) (fun _ => hHeld) ?_
      rotate_left
      · intro w hSw
        clear hSw
        go_simp
        try with_reducible rfl
      try simp only [Act.put, List.getElem_toArray, List.getElem_cons_succ, List.getElem_cons_zero, List.setIfInBounds_toArray, List.set_cons_zero, List.set_cons_succ]
      rw [HC2.out]
      refine wpLate_pure (i := 10) (oi := _) (v := ?_) rfl (by kernel_rfl) (by kernel_rfl) (by kernel_rfl) (by kernel_rfl) (fun _ _ _ h => h) (Gives.load (by rfl) ?_) (fun _ => hHeld) ?_
      rotate_left
      · intro w hSw
        clear hSw
        go_simp
        try with_reducible rfl
      try simp only [Act.put, List.getElem_toArray, List.getElem_cons_succ, List.getElem_cons_zero, List.setIfInBounds_toArray, List.set_cons_zero, List.set_cons_succ]
      refine wpLate_done (by kernel_rfl) ?_ _
      clear hHeld hp1 hp2 hp3 hpd fr2 fr3 fr4 hadd1 hadd2
      go_wp2
      go_roundw
      case rel => exact ⟨k + 1, by go_num, by omega, by rw [hsn.out], fr5⟩
      case measure => simp [intOf]; omega
    · obtain rfl : k = ss.length := by omega
      rw [List.take_length] at *
      go_wp2
      go_ret
      rw [HT.out]
      exact ⟨rfl, HF.out⟩
set_option maxRecDepth 100000 in
set_option maxHeartbeats 4000000 in
theorem runtext_any (s : Un) (v u : Value) (w : World) (hb : UnB s) (hv : View w v s.props.length (s.props.flatMap prE)) (hu : View w u s.filters.length (s.filters.flatMap strE)) :
    Calls Try.prog 19 #[.agg (unC s v u).toArray] w fun e w' => e = .returned (.string ⟨(unText s).toArray⟩) ∧ Fr [] w w' := by
  obtain ⟨id, l, ss⟩ := s
  obtain ⟨b1, b2, b3, b4, b5⟩ := hb
  dsimp only at hv hu b1 b2 b3 b4 b5
  have HV := Lib.hid hv
  have HSO := Lib.hid b5
  have HC : Hid (0 < ss.length → ∃ bb off c, u = .slice (some ⟨bb, off, none⟩) ss.length c ∧ bb < w.heap.size ∧ ∀ (i : Nat) (hi : i < ss.length) j x, (strE ss[i])[j]? = some x → w.cell? ⟨bb, off + i * 1 + j, none⟩ = some x) := Lib.hid (fun hl => hu.at strE_len (by decide) hl)
  obtain ⟨A, cp, rfl, _⟩ := hv
  obtain ⟨AU, cu, rfl, _⟩ := hu
  have HT : Hid (unText ⟨id, l, ss⟩ = headB id l ++ filtersB ss) := Lib.hid rfl
  have HH : Hid ((ByteArray.mk (two id).toArray) ++ (ByteArray.mk (var (putsB l).length ++ putsB l).toArray) = ⟨(headB id l).toArray⟩) := Lib.hid (by rw [ByteArray.mk_append_mk]; unfold headB propsB; simp)
  have hb0 := blk_new w (.cells (unC ⟨id, l, ss⟩ (.slice A l.length cp) (.slice AU ss.length cu)).toArray 55)
  have F0 : Fr [] w (w.alloc (.cells (unC ⟨id, l, ss⟩ (.slice A l.length cp) (.slice AU ss.length cu)).toArray 55)) := (Fr.refl _ _).alloc _
  have hhl := headB_le id l b2
  have hh2 : ¬ 9223372036854775807 < (two id).length + (var (putsB l).length ++ putsB l).length := by
    have : (headB id l).length = (two id).length + (var (putsB l).length ++ putsB l).length := by unfold headB propsB; rw [List.length_append]
    omega
  unfold unC at hb0 F0 ⊢
  dsimp only at hb0 F0 ⊢
  clear b5
  obtain ⟨PB, hPB⟩ : ∃ PB, var (putsB l).length ++ putsB l = PB := ⟨_, rfl⟩
  obtain ⟨TI, hTI⟩ : ∃ TI, two id = TI := ⟨_, rfl⟩
  rw [hPB, hTI] at HH hh2
  have HPB := Lib.hid hPB
  have HTI := Lib.hid hTI
  clear hPB hTI
  go_enter Try.func19, Try.ntmps19
  go_upto_region 1 with (fail)
  obtain ⟨y, hy⟩ : ∃ y, w.alloc (.cells #[.int .u32 (id : Int), .slice A l.length cp, .slice AU ss.length cu] 55) = y := ⟨_, rfl⟩
  rw [hy] at hb0 F0 ⊢
  clear hy
  obtain ⟨⟨e0, e1, e2⟩, _, _⟩ := blk3_facts hb0
  refine wp_region_late [] (S := fun w' => w'.cell? ⟨w.heap.size, 0, none⟩ = some (.int .u32 (id : Int)) ∧ w'.cell? ⟨w.heap.size, 1, none⟩ = some (.slice A l.length cp)) (by kernel_rfl) ⟨e0, e1⟩ (fun hHeld => ?_)
  have fd := (Fr.refl [] y).drew
  have HB := Lib.hid (fd.blk hb0 (by simp))
  have F1 := Lib.hid (F0.trans fd (by simp))
  obtain ⟨wd, hwd⟩ : ∃ wd, y.drew = wd := ⟨_, rfl⟩
  rw [hwd] at hHeld HB F1 ⊢
  clear hwd fd hb0 F0 e0 e1 e2
  refine wpLate_take (i := 0) (oi := _) (v := ?_) rfl (by kernel_rfl) (by kernel_rfl) (by kernel_rfl) (by kernel_rfl) (fun _ _ _ h => h) (Gives.load (by rfl) ?_) hHeld ?_
  rotate_left
  · intro w hSw
    (try dsimp only at hSw)
    go_simp
    try with_reducible rfl
  try simp only [Act.put, List.getElem_toArray, List.getElem_cons_succ, List.getElem_cons_zero, List.setIfInBounds_toArray, List.set_cons_zero, List.set_cons_succ]
  refine wpLate_take (i := 1) (oi := _) (v := ?_) rfl (by kernel_rfl) (by kernel_rfl) (by kernel_rfl) (by kernel_rfl) (fun _ _ _ h => h) (Gives.load (by rfl) ?_) hHeld ?_
  rotate_left
  · intro w hSw
    (try dsimp only at hSw)
    go_simp
    try with_reducible rfl
  try simp only [Act.put, List.getElem_toArray, List.getElem_cons_succ, List.getElem_cons_zero, List.setIfInBounds_toArray, List.set_cons_zero, List.set_cons_succ]
  refine wpLate_take (i := 3) (oi := _) (v := ?_) rfl (by kernel_rfl) (by kernel_rfl) (by kernel_rfl) (by kernel_rfl) (fun _ _ _ h => h) (Gives.load (by rfl) ?_) hHeld ?_
  rotate_left
  · intro w hSw
    (try dsimp only at hSw)
    go_simp
    try with_reducible rfl
  try simp only [Act.put, List.getElem_toArray, List.getElem_cons_succ, List.getElem_cons_zero, List.setIfInBounds_toArray, List.set_cons_zero, List.set_cons_succ]
  refine wpLate_take (i := 4) (oi := _) (v := ?_) rfl (by kernel_rfl) (by kernel_rfl) (by kernel_rfl) (by kernel_rfl) (fun _ _ _ h => h) (Gives.load (by rfl) ?_) hHeld ?_
  rotate_left
  · intro w hSw
    (try dsimp only at hSw)
    go_simp
    try with_reducible rfl
  try simp only [Act.put, List.getElem_toArray, List.getElem_cons_succ, List.getElem_cons_zero, List.setIfInBounds_toArray, List.set_cons_zero, List.set_cons_succ]
  refine wpLate_ready (rs := [2]) (by kernel_rfl) (by simp) ?_
  refine AllLate.cons (o := _) rfl (fun K hK => ?_) (by exact AllLate.nil)
  go_simp
  refine (rtwo_any (id : Int) _ (by omega) (by omega)).mono ?_
  rintro _ x1 ⟨rfl, g1⟩
  rw [Int.toNat_natCast, HTI.out]
  go_wp2_with fail
  have HB1 := Lib.hid (g1.blk HB.out (by simp))
  have F2 := Lib.hid (F1.out.trans g1 (by simp))
  refine hK.out _ _ (fun _ => ⟨(blk3_facts HB1.out).1.1, (blk3_facts HB1.out).1.2.1⟩) (fun hHeld => ?_)
  replace hHeld := hHeld (by kernel_rfl)
  clear hK K HB F1 g1
  try simp only [Act.put, List.getElem_toArray, List.getElem_cons_succ, List.getElem_cons_zero, List.setIfInBounds_toArray, List.set_cons_zero, List.set_cons_succ]
  refine wpLate_ready (rs := [5]) (by kernel_rfl) (by simp) ?_
  refine AllLate.cons (o := _) rfl (fun K hK => ?_) (by exact AllLate.nil)
  go_simp
  refine (rtext_pany _ l _ (HV.out.old F2.out (by simp)) b2 b3).mono ?_
  rintro _ x2 ⟨rfl, g2⟩
  rw [HPB.out]
  go_wp2_with fail
  have HB2 := Lib.hid (g2.blk HB1.out (by simp))
  have F3 := Lib.hid (F2.out.trans g2 (by simp))
  refine hK.out _ _ (fun _ => ⟨(blk3_facts HB2.out).1.1, (blk3_facts HB2.out).1.2.1⟩) (fun hHeld => ?_)
  replace hHeld := hHeld (by kernel_rfl)
  clear hK K HB1 F2 g2
  try simp only [Act.put, List.getElem_toArray, List.getElem_cons_succ, List.getElem_cons_zero, List.setIfInBounds_toArray, List.set_cons_zero, List.set_cons_succ]
  refine wpLate_pure (i := 6) (oi := _) (v := ?_) rfl (by kernel_rfl) (by kernel_rfl) (by kernel_rfl) (by kernel_rfl) (fun _ _ _ h => h) (Gives.load (by rfl) ?_) (fun _ => hHeld) ?_
  rotate_left
  · intro w hSw
    clear hSw
    go_simp
    try with_reducible rfl
  try simp only [Act.put, List.getElem_toArray, List.getElem_cons_succ, List.getElem_cons_zero, List.setIfInBounds_toArray, List.set_cons_zero, List.set_cons_succ]
  rw [HH.out]
  refine wpLate_pure (i := 7) (oi := _) (v := ?_) rfl (by kernel_rfl) (by kernel_rfl) (by kernel_rfl) (by kernel_rfl) (fun _ _ _ h => h) (Gives.load (by rfl) ?_) (fun _ => hHeld) ?_
  rotate_left
  · intro w hSw
    clear hSw
    go_simp
    try with_reducible rfl
  try simp only [Act.put, List.getElem_toArray, List.getElem_cons_succ, List.getElem_cons_zero, List.setIfInBounds_toArray, List.set_cons_zero, List.set_cons_succ]
  refine wpLate_done (by kernel_rfl) ?_ _
  clear hHeld hh2
  obtain ⟨⟨e0, e1, e2⟩, _, _⟩ := blk3_facts HB2.out
  generalize hHB : headB id l = HBy at *
  clear hHB
  go_wp2
  go_loopw [3, 16] (fun o i wr => ∃ (k : Nat), i = .int .i64 k ∧ k ≤ ss.length ∧ o = .string ⟨(HBy ++ filtersB (ss.take k)).toArray⟩ ∧ Fr [] w wr) (fun _ i _ => ss.length - (intOf i).toNat)
  case atStart => exact ⟨0, rfl, by omega, by simp [filtersB], F3.out⟩
  case round =>
    obtain ⟨k, rfl, hk, rfl, hfr⟩ := hrel
    have HF := Lib.hid hfr
    have hpl := filtersB_len (ss.take k)
    have htl : (ss.take k).length ≤ 1000 := Nat.le_trans (List.length_take_le _ _) (by omega)
    have hrl : (HBy ++ filtersB (ss.take k)).length ≤ 200000000 := by rw [List.length_append]; omega
    clear hfr e0 e1 e2
    by_cases hlt : k < ss.length
    · obtain ⟨bb, off, c', hsl, hbb, hc⟩ := HC.out (by omega)
      cases hsl
      have hcell := hc k hlt
      have q3 := HSO.out ss[k] (List.getElem_mem hlt)
      have hsn : Hid (HBy ++ filtersB (ss.take (k + 1)) = (HBy ++ filtersB (ss.take k)) ++ dataB ss[k]) := Lib.hid (by rw [filtersB_snoc _ _ hlt]; simp only [List.append_assoc])
      generalize HBy ++ filtersB (ss.take k) = L at *
      generalize ss[k] = f at *
      have hfl := dataB_len f
      have c0 : wr.cell? ⟨bb, off + k * 1, none⟩ = some (.string ⟨f.toArray⟩) := HF.out.cell (hcell 0 _ rfl) (by simp)
      rw [Nat.mul_one] at c0
      clear hcell hc
      obtain ⟨DF, hDF⟩ : ∃ DF, dataB f = DF := ⟨_, rfl⟩
      obtain ⟨LN, hLN⟩ : ∃ LN, L ++ DF = LN := ⟨_, rfl⟩
      rw [hDF] at hfl
      have hadd2 : ¬ 9223372036854775807 < L.length + DF.length := by omega
      have HC2 : Hid ((ByteArray.mk L.toArray) ++ (ByteArray.mk DF.toArray) = ⟨LN.toArray⟩) := Lib.hid (by rw [ByteArray.mk_append_mk, ← hLN])
      rw [hDF, hLN] at hsn
      have HDF := Lib.hid hDF
      clear hDF hLN
      go_wp2_with fail
      refine (rdata_any f _ q3).mono ?_
      rintro _ x1 ⟨rfl, g1⟩
      rw [HDF.out]
      have F9 := Lib.hid (HF.out.trans g1 (by simp))
      clear g1 c0
      go_wp2
      go_roundw
      case rel => exact ⟨k + 1, by go_num, by omega, by rw [HC2.out, hsn.out], F9.out⟩
      case measure => simp [intOf]; omega
    · obtain rfl : k = ss.length := by omega
      rw [List.take_length] at *
      go_wp2
      go_ret
      rw [HT.out]
      exact ⟨rfl, HF.out⟩
set_option maxRecDepth 100000 in
set_option maxHeartbeats 4000000 in
theorem rsatext_any (a : Sa) (v : Value) (w : World) (hb : SaB a) (hv : View w v a.props.length (a.props.flatMap prE)) :
    Calls Try.prog 22 #[.agg (saC a v).toArray] w fun e w' => e = .returned (.string ⟨(saText a).toArray⟩) ∧ Fr [] w w' := by
  obtain ⟨k, id, l, c⟩ := a
  obtain ⟨b1, b2, b3, b4⟩ := hb
  dsimp only at hv b1 b2 b3 b4
  have HV := Lib.hid hv
  obtain ⟨A, cp, rfl, _⟩ := hv
  have HT : Hid (saText ⟨k, id, l, c⟩ = headB id l ++ c) := Lib.hid rfl
  have hhl := headB_le id l b2
  obtain ⟨PB, hPB⟩ : ∃ PB, var (putsB l).length ++ putsB l = PB := ⟨_, rfl⟩
  obtain ⟨TI, hTI⟩ : ∃ TI, two id = TI := ⟨_, rfl⟩
  obtain ⟨HD, hHD⟩ : ∃ HD, headB id l = HD := ⟨_, rfl⟩
  have hsum : HD = TI ++ PB := by rw [← hHD, ← hTI, ← hPB]; rfl
  have hlen : HD.length = TI.length + PB.length := by rw [hsum, List.length_append]
  rw [hHD] at hhl HT
  have hadd1 : ¬ 9223372036854775807 < TI.length + PB.length := by omega
  have hadd2 : ¬ 9223372036854775807 < HD.length + c.length := by omega
  have HH : Hid ((ByteArray.mk TI.toArray) ++ (ByteArray.mk PB.toArray) = ⟨HD.toArray⟩) := Lib.hid (by rw [ByteArray.mk_append_mk, hsum])
  have HH2 : Hid ((ByteArray.mk HD.toArray) ++ (ByteArray.mk c.toArray) = ⟨(HD ++ c).toArray⟩) := Lib.hid (by rw [ByteArray.mk_append_mk])
  have HPB := Lib.hid hPB
  have HTI := Lib.hid hTI
  clear hPB hTI hHD hsum hlen
  have hb0 := blk_new w (.cells (saC ⟨k, id, l, c⟩ (.slice A l.length cp)).toArray 59)
  have F0 : Fr [] w (w.alloc (.cells (saC ⟨k, id, l, c⟩ (.slice A l.length cp)).toArray 59)) := (Fr.refl _ _).alloc _
  unfold saC at hb0 F0 ⊢
  dsimp only at hb0 F0 ⊢
  go_enter Try.func22, Try.ntmps22
  go_upto_region 1 with (fail)
  obtain ⟨y, hy⟩ : ∃ y, w.alloc (.cells #[.int .i64 k, .int .u32 (id : Int), .slice A l.length cp, .string ⟨c.toArray⟩] 59) = y := ⟨_, rfl⟩
  rw [hy] at hb0 F0 ⊢
  clear hy
  refine wp_region_late [] (S := fun w' => w'.cell? ⟨w.heap.size, 0, none⟩ = some (.int .i64 k) ∧ w'.cell? ⟨w.heap.size, 1, none⟩ = some (.int .u32 (id : Int)) ∧ w'.cell? ⟨w.heap.size, 2, none⟩ = some (.slice A l.length cp) ∧ w'.cell? ⟨w.heap.size, 3, none⟩ = some (.string ⟨c.toArray⟩)) (by kernel_rfl) (blk4_facts hb0).1 (fun hHeld => ?_)
  have fd := (Fr.refl [] y).drew
  have HB := Lib.hid (fd.blk hb0 (by simp))
  have F1 := Lib.hid (F0.trans fd (by simp))
  obtain ⟨wd, hwd⟩ : ∃ wd, y.drew = wd := ⟨_, rfl⟩
  rw [hwd] at hHeld HB F1 ⊢
  clear hwd fd hb0 F0
  refine wpLate_take (i := 0) (oi := _) (v := ?_) rfl (by kernel_rfl) (by kernel_rfl) (by kernel_rfl) (by kernel_rfl) (fun _ _ _ h => h) (Gives.load (by rfl) ?_) hHeld ?_
  rotate_left
  · intro w hSw
    (try dsimp only at hSw)
    go_simp
    try with_reducible rfl
  try simp only [Act.put, List.getElem_toArray, List.getElem_cons_succ, List.getElem_cons_zero, List.setIfInBounds_toArray, List.set_cons_zero, List.set_cons_succ]
  refine wpLate_take (i := 1) (oi := _) (v := ?_) rfl (by kernel_rfl) (by kernel_rfl) (by kernel_rfl) (by kernel_rfl) (fun _ _ _ h => h) (Gives.load (by rfl) ?_) hHeld ?_
  rotate_left
  · intro w hSw
    (try dsimp only at hSw)
    go_simp
    try with_reducible rfl
  try simp only [Act.put, List.getElem_toArray, List.getElem_cons_succ, List.getElem_cons_zero, List.setIfInBounds_toArray, List.set_cons_zero, List.set_cons_succ]
  refine wpLate_take (i := 3) (oi := _) (v := ?_) rfl (by kernel_rfl) (by kernel_rfl) (by kernel_rfl) (by kernel_rfl) (fun _ _ _ h => h) (Gives.load (by rfl) ?_) hHeld ?_
  rotate_left
  · intro w hSw
    (try dsimp only at hSw)
    go_simp
    try with_reducible rfl
  try simp only [Act.put, List.getElem_toArray, List.getElem_cons_succ, List.getElem_cons_zero, List.setIfInBounds_toArray, List.set_cons_zero, List.set_cons_succ]
  refine wpLate_take (i := 4) (oi := _) (v := ?_) rfl (by kernel_rfl) (by kernel_rfl) (by kernel_rfl) (by kernel_rfl) (fun _ _ _ h => h) (Gives.load (by rfl) ?_) hHeld ?_
  rotate_left
  · intro w hSw
    (try dsimp only at hSw)
    go_simp
    try with_reducible rfl
  try simp only [Act.put, List.getElem_toArray, List.getElem_cons_succ, List.getElem_cons_zero, List.setIfInBounds_toArray, List.set_cons_zero, List.set_cons_succ]
  refine wpLate_take (i := 7) (oi := _) (v := ?_) rfl (by kernel_rfl) (by kernel_rfl) (by kernel_rfl) (by kernel_rfl) (fun _ _ _ h => h) (Gives.load (by rfl) ?_) hHeld ?_
  rotate_left
  · intro w hSw
    (try dsimp only at hSw)
    go_simp
    try with_reducible rfl
  try simp only [Act.put, List.getElem_toArray, List.getElem_cons_succ, List.getElem_cons_zero, List.setIfInBounds_toArray, List.set_cons_zero, List.set_cons_succ]
  refine wpLate_take (i := 8) (oi := _) (v := ?_) rfl (by kernel_rfl) (by kernel_rfl) (by kernel_rfl) (by kernel_rfl) (fun _ _ _ h => h) (Gives.load (by rfl) ?_) hHeld ?_
  rotate_left
  · intro w hSw
    (try dsimp only at hSw)
    go_simp
    try with_reducible rfl
  try simp only [Act.put, List.getElem_toArray, List.getElem_cons_succ, List.getElem_cons_zero, List.setIfInBounds_toArray, List.set_cons_zero, List.set_cons_succ]
  refine wpLate_ready (rs := [2]) (by kernel_rfl) (by simp) ?_
  refine AllLate.cons (o := _) rfl (fun K hK => ?_) (by exact AllLate.nil)
  go_simp
  refine (rtwo_any (id : Int) _ (by omega) (by omega)).mono ?_
  rintro _ x1 ⟨rfl, g1⟩
  rw [Int.toNat_natCast, HTI.out]
  go_wp2_with fail
  have HB1 := Lib.hid (g1.blk HB.out (by simp))
  have F2 := Lib.hid (F1.out.trans g1 (by simp))
  refine hK.out _ _ (fun _ => (blk4_facts HB1.out).1) (fun hHeld => ?_)
  replace hHeld := hHeld (by kernel_rfl)
  clear hK K HB F1 g1
  try simp only [Act.put, List.getElem_toArray, List.getElem_cons_succ, List.getElem_cons_zero, List.setIfInBounds_toArray, List.set_cons_zero, List.set_cons_succ]
  refine wpLate_ready (rs := [5]) (by kernel_rfl) (by simp) ?_
  refine AllLate.cons (o := _) rfl (fun K hK => ?_) (by exact AllLate.nil)
  go_simp
  refine (rtext_pany _ l _ (HV.out.old F2.out (by simp)) b2 b3).mono ?_
  rintro _ x2 ⟨rfl, g2⟩
  rw [HPB.out]
  go_wp2_with fail
  have HB2 := Lib.hid (g2.blk HB1.out (by simp))
  have F3 := Lib.hid (F2.out.trans g2 (by simp))
  refine hK.out _ _ (fun _ => (blk4_facts HB2.out).1) (fun hHeld => ?_)
  replace hHeld := hHeld (by kernel_rfl)
  clear hK K HB1 F2 g2
  try simp only [Act.put, List.getElem_toArray, List.getElem_cons_succ, List.getElem_cons_zero, List.setIfInBounds_toArray, List.set_cons_zero, List.set_cons_succ]
  refine wpLate_pure (i := 6) (oi := _) (v := ?_) rfl (by kernel_rfl) (by kernel_rfl) (by kernel_rfl) (by kernel_rfl) (fun _ _ _ h => h) (Gives.load (by rfl) ?_) (fun _ => hHeld) ?_
  rotate_left
  · intro w hSw
    clear hSw
    go_simp
    try with_reducible rfl
  try simp only [Act.put, List.getElem_toArray, List.getElem_cons_succ, List.getElem_cons_zero, List.setIfInBounds_toArray, List.set_cons_zero, List.set_cons_succ]
  rw [HH.out]
  refine wpLate_pure (i := 9) (oi := _) (v := ?_) rfl (by kernel_rfl) (by kernel_rfl) (by kernel_rfl) (by kernel_rfl) (fun _ _ _ h => h) (Gives.load (by rfl) ?_) (fun _ => hHeld) ?_
  rotate_left
  · intro w hSw
    clear hSw
    go_simp
    try with_reducible rfl
  try simp only [Act.put, List.getElem_toArray, List.getElem_cons_succ, List.getElem_cons_zero, List.setIfInBounds_toArray, List.set_cons_zero, List.set_cons_succ]
  rw [HH2.out]
  refine wpLate_pure (i := 10) (oi := _) (v := ?_) rfl (by kernel_rfl) (by kernel_rfl) (by kernel_rfl) (by kernel_rfl) (fun _ _ _ h => h) (Gives.load (by rfl) ?_) (fun _ => hHeld) ?_
  rotate_left
  · intro w hSw
    clear hSw
    go_simp
    try with_reducible rfl
  try simp only [Act.put, List.getElem_toArray, List.getElem_cons_succ, List.getElem_cons_zero, List.setIfInBounds_toArray, List.set_cons_zero, List.set_cons_succ]
  refine wpLate_done (by kernel_rfl) ?_ _
  clear hHeld hadd1 hadd2
  go_wp2
  go_ret
  rw [HT.out]
  exact ⟨rfl, F3.out⟩
end Go.Proofs.Ythioageiebchlaa
