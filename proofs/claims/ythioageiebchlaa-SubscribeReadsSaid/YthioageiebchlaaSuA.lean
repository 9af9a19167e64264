/- What package subscribe writes: options, the head, the bodies. Conditions: numbers within their kinds, strings that may be. -/
import Derived.Test.YthioageiebchlaaSb
import Derived.Test.YthioageiebchlaaPlainT
import Derived.Test.YthioageiebchlaaBase
import Derived.Test.YthioageiebchlaaBlks
import Derived.Test.YthioageiebchlaaDrawn
import Derived.Test.YthioageiebchlaaStep
namespace Go.Proofs.Ythioageiebchlaa
open Go.RowKit
set_option linter.unusedVariables false
set_option linter.unusedSimpArgs false

theorem and3u8 : ∀ q : Fin 256, bits .and .u8 (q.val : Int) 3 = ((q.val % 4 : Nat) : Int) := by decide +kernel
theorem optor_fin : ∀ (q h : Fin 4), bits .or .u8 (q.val : Int) ((h.val : Int) * 16) = (q.val : Int) + (h.val : Int) * 16 ∧ bits .or .u8 ((q.val : Int) + (h.val : Int) * 16) 4 = (q.val : Int) + (h.val : Int) * 16 + 4 ∧ bits .or .u8 ((q.val : Int) + (h.val : Int) * 16) 8 = (q.val : Int) + (h.val : Int) * 16 + 8 ∧ bits .or .u8 ((q.val : Int) + (h.val : Int) * 16 + 4) 8 = (q.val : Int) + (h.val : Int) * 16 + 4 + 8 := by decide +kernel
set_option maxRecDepth 100000 in
theorem psopt_any (x : Sb) (w : World) (hq : x.qos < 256) (hh : x.handling < 256) :
    Calls Try.prog 11 #[.agg (sbE x).toArray] w fun e w' => e = .returned (.int .u8 (sbOpt x : Nat)) ∧ Fr [] w w' := by
  obtain ⟨f, q, nl, ap, h⟩ := x
  dsimp only at hq hh
  have h1 := and3u8 ⟨q, hq⟩
  have h5 := and3u8 ⟨h, hh⟩
  have h2 := optor_fin ⟨q % 4, Nat.mod_lt _ (by decide)⟩ ⟨h % 4, Nat.mod_lt _ (by decide)⟩
  dsimp only at h1 h2 h5
  obtain ⟨h2, h3, h4, h6⟩ := h2
  obtain ⟨m, hm⟩ : ∃ m, q % 4 = m := ⟨_, rfl⟩
  obtain ⟨n, hn⟩ : ∃ n, h % 4 = n := ⟨_, rfl⟩
  have hm4 : m < 4 := by rw [← hm]; exact Nat.mod_lt _ (by decide)
  have hn4 : n < 4 := by rw [← hn]; exact Nat.mod_lt _ (by decide)
  have HF : Hid (sbOpt ⟨f, q, nl, ap, h⟩ = m + n * 16 + (if nl = true then 4 else 0) + (if ap = true then 8 else 0)) := Lib.hid (by rw [← hm, ← hn]; rfl)
  rw [hm] at h1 h2 h3 h4 h6
  rw [hn] at h5 h2 h3 h4 h6
  clear hm hn
  cases nl <;> cases ap
  all_goals
    unfold sbE
    go_enter Try.func11, Try.ntmps11
    go_wp2
    go_ret
    rw [HF.out]
    exact ⟨ret_int (by first | (simp; done) | (simp; omega)), (Fr.refl _ _).alloc _⟩
/-- Behind head: a writer that holds these bytes. -/
def HdTo (l : List UInt8) (w : World) (e : Ending) (w' : World) : Prop := ∃ b o, e = .returned (.pointer (some ⟨b, 0, none⟩)) ∧ OutAt w' b o l ∧ w.heap.size ≤ b ∧ w.heap.size ≤ o ∧ Fr [] w w'
set_option maxRecDepth 100000 in
set_option maxHeartbeats 2000000 in
theorem phead_any (id : Nat) (v : Value) (l : List Pr) (w : World) (hid : id < 4294967296) (hv : View w v l.length (l.flatMap prE)) (hl : l.length ≤ 1000) (hok : PrsOk l) :
    Calls Try.prog 41 #[.int .u32 (id : Int), v] w (HdTo (headB id l) w) := by
  have HT : Hid (headB id l = two id ++ propsB l) := Lib.hid rfl
  have HV := Lib.hid hv
  obtain ⟨A, cp, rfl, _⟩ := hv
  have hno := OutAt.new w
  have F0 : Fr [] w (w.alloc (.cells #[.slice none 0 0] 118)) := (Fr.refl _ _).alloc _
  have h2l : (two id).length = 2 := rfl
  go_enter Try.func41, Try.ntmps41
  go_wp2_with fail
  refine (outtwo_any w.heap.size w.heap.size [] id _ hno (by omega) (by omega) (by simp)).mono ?_
  rintro _ w1 ⟨rfl, o1, h1, ho1, g1⟩
  rw [List.nil_append, Int.toNat_natCast] at h1
  have F1 := F0.trans g1 (by intro x hx h; simp at h; omega)
  have z1 := g1.size
  rw [World.size_alloc] at z1 ho1
  clear hno F0 g1
  go_wp2_with fail
  refine (puts_any w.heap.size o1 _ _ l _ h1 (HV.out.old F1 (by simp)) hl hok (by rw [h2l]; decide)).mono ?_
  rintro _ w3 ⟨rfl, o3, h3, ho3, g3⟩
  have F3 := F1.trans g3 (by intro x hx h; simp at h; omega)
  go_wp2
  go_ret
  rw [HT.out]
  exact ⟨w.heap.size, o3, rfl, h3, Nat.le_refl _, by omega, F3⟩
theorem headB_le (id : Nat) (l : List Pr) (hl : l.length ≤ 1000) : (headB id l).length ≤ 131079000 := by
  have h1 := putsB_len l
  have h2 := varB_len' (putsB l).length
  unfold headB propsB
  rw [List.length_append, List.length_append, two_len]
  omega
theorem sbB_len (x : Sb) : (sbB x).length ≤ 65538 := by
  have := dataB_len x.filter
  unfold sbB
  rw [List.length_append]
  simp; omega
theorem subsB_len (l : List Sb) : (subsB l).length ≤ 65538 * l.length := by
  induction l with
  | nil => simp [subsB]
  | cons x l ih =>
    have := sbB_len x
    rw [show subsB (x :: l) = sbB x ++ subsB l from rfl, List.length_append, List.length_cons]
    omega
theorem filtersB_len (l : List (List UInt8)) : (filtersB l).length ≤ 65538 * l.length := by
  induction l with
  | nil => simp [filtersB]
  | cons x l ih =>
    have := dataB_len x
    rw [show filtersB (x :: l) = dataB x ++ filtersB l from rfl, List.length_append, List.length_cons]
    omega
theorem subsB_snoc (l : List Sb) (k : Nat) (h : k < l.length) : subsB (l.take (k + 1)) = subsB (l.take k) ++ sbB l[k] := by
  unfold subsB
  rw [List.take_succ_eq_append_getElem h, List.flatMap_append, List.flatMap_cons, List.flatMap_nil, List.append_nil]
theorem filtersB_snoc (l : List (List UInt8)) (k : Nat) (h : k < l.length) : filtersB (l.take (k + 1)) = filtersB (l.take k) ++ dataB l[k] := by
  unfold filtersB
  rw [List.take_succ_eq_append_getElem h, List.flatMap_append, List.flatMap_cons, List.flatMap_nil, List.append_nil]
set_option maxRecDepth 100000 in
set_option maxHeartbeats 4000000 in
theorem sutext_any (s : Su) (v u : Value) (w : World) (hb : SuB s) (hv : View w v s.props.length (s.props.flatMap prE)) (hu : View w u s.subs.length (s.subs.flatMap sbE)) :
    Calls Try.prog 15 #[.agg (suC s v u).toArray] w fun e w' => e = .returned (.string ⟨(suText s).toArray⟩) ∧ Fr [] w w' := by
  obtain ⟨id, l, ss⟩ := s
  obtain ⟨b1, b2, b3, b4, b5⟩ := hb
  dsimp only at hv hu b1 b2 b3 b4 b5
  have HV := Lib.hid hv
  have HSO := Lib.hid b5
  have HC : Hid (0 < ss.length → ∃ bb off c, u = .slice (some ⟨bb, off, none⟩) ss.length c ∧ bb < w.heap.size ∧ ∀ (i : Nat) (hi : i < ss.length) j x, (sbE ss[i])[j]? = some x → w.cell? ⟨bb, off + i * 5 + j, none⟩ = some x) := Lib.hid (fun hl => hu.at sbE_len (by decide) hl)
  obtain ⟨A, cp, rfl, _⟩ := hv
  obtain ⟨AU, cu, rfl, _⟩ := hu
  have HT : Hid (suText ⟨id, l, ss⟩ = headB id l ++ subsB ss) := Lib.hid rfl
  have hb0 := blk_new w (.cells (suC ⟨id, l, ss⟩ (.slice A l.length cp) (.slice AU ss.length cu)).toArray 27)
  have F0 : Fr [] w (w.alloc (.cells (suC ⟨id, l, ss⟩ (.slice A l.length cp) (.slice AU ss.length cu)).toArray 27)) := (Fr.refl _ _).alloc _
  have hhl := headB_le id l b2
  unfold suC at hb0 F0 ⊢
  dsimp only at hb0 F0 ⊢
  clear b5
  obtain ⟨⟨e0, e1, e2⟩, _, _⟩ := blk3_facts hb0
  go_enter Try.func15, Try.ntmps15
  go_wp2_with fail
  refine (phead_any id _ l _ b1 (HV.out.old F0 (by simp)) b2 b3).mono ?_
  rintro _ w1 ⟨b, o1, rfl, h1, hb1, ho1, g1⟩
  have F1 := F0.trans g1 (by simp)
  have hbb := g1.blk hb0 (by simp)
  have hwb : w.heap.size < b := by simp at hb1; omega
  have hwo : w.heap.size ≤ o1 := by simp at ho1; omega
  clear hb0 F0 e0 e1 e2 g1 hb1 ho1
  obtain ⟨⟨e0, e1, e2⟩, _, _⟩ := blk3_facts hbb
  have HB := Lib.hid hbb
  have HH := Lib.hid F1
  clear hbb F1
  go_wp2
  go_loopw [14] (fun i wr => ∃ (k o' : Nat), i = .int .i64 k ∧ k ≤ ss.length ∧ OutAt wr b o' (headB id l ++ subsB (ss.take k)) ∧ w.heap.size ≤ o' ∧ Fr [] w wr) (fun i _ => ss.length - (intOf i).toNat)
  case atStart => exact ⟨0, o1, rfl, by omega, by simpa [subsB] using h1, hwo, HH.out⟩
  case round =>
    obtain ⟨k, o', rfl, hk, hout, hoo, hfr⟩ := hrel
    have HO := Lib.hid hout
    have HF := Lib.hid hfr
    have hpl := subsB_len (ss.take k)
    have htl : (ss.take k).length ≤ 1000 := Nat.le_trans (List.length_take_le _ _) (by omega)
    have hrl : (headB id l ++ subsB (ss.take k)).length ≤ 200000000 := by rw [List.length_append]; omega
    clear hout hfr h1
    by_cases hlt : k < ss.length
    · obtain ⟨bb, off, c', hsl, hbb, hc⟩ := HC.out (by omega)
      cases hsl
      have hcell := hc k hlt
      have hso := HSO.out ss[k] (List.getElem_mem hlt)
      have hsn : Hid (headB id l ++ subsB (ss.take (k + 1)) = (headB id l ++ subsB (ss.take k)) ++ dataB ss[k].filter ++ [b8 (sbOpt ss[k])]) := Lib.hid (by rw [subsB_snoc _ _ hlt, sbB]; simp only [List.append_assoc])
      generalize headB id l ++ subsB (ss.take k) = L at *
      generalize ss[k] = x at *
      obtain ⟨q1, q2, q3⟩ := hso
      have HOP := fun W => psopt_any x W q1 q2
      have hol : (sbOpt x : Int) < 256 := by unfold sbOpt; split <;> split <;> omega
      obtain ⟨f, q, nl, ap, h⟩ := x
      dsimp only at hsn q1 q2 q3
      have hfl := dataB_len f
      replace HOP := Lib.hid HOP
      have c0 : wr.cell? ⟨bb, off + k * 5, none⟩ = some (.string ⟨f.toArray⟩) := HF.out.cell (hcell 0 _ rfl) (by simp)
      have c1 : wr.cell? ⟨bb, off + k * 5 + 1, none⟩ = some (.int .u8 (q : Int)) := HF.out.cell (hcell 1 _ rfl) (by simp)
      have c2 : wr.cell? ⟨bb, off + k * 5 + 2, none⟩ = some (.bool nl) := HF.out.cell (hcell 2 _ rfl) (by simp)
      have c3 : wr.cell? ⟨bb, off + k * 5 + 3, none⟩ = some (.bool ap) := HF.out.cell (hcell 3 _ rfl) (by simp)
      have c4 : wr.cell? ⟨bb, off + k * 5 + 4, none⟩ = some (.int .u8 (h : Int)) := HF.out.cell (hcell 4 _ rfl) (by simp)
      clear hcell hc e0 e1 e2
      have hp := blk_new wr (.cells #[.string ⟨f.toArray⟩, .int .u8 (q : Int), .bool nl, .bool ap, .int .u8 (h : Int)] 35)
      have fr1 := HF.out.alloc (.cells #[.string ⟨f.toArray⟩, .int .u8 (q : Int), .bool nl, .bool ap, .int .u8 (h : Int)] 35)
      have q1o := HO.out.fr ((Fr.refl [] wr).alloc (.cells #[.string ⟨f.toArray⟩, .int .u8 (q : Int), .bool nl, .bool ap, .int .u8 (h : Int)] 35)) (by simp) (by simp)
      have hbw := HO.out.lt
      go_upto_region 5 with (fail)
      obtain ⟨y, hy⟩ : ∃ y, wr.alloc (.cells #[.string ⟨f.toArray⟩, .int .u8 (q : Int), .bool nl, .bool ap, .int .u8 (h : Int)] 35) = y := ⟨_, rfl⟩
      obtain ⟨P, hP⟩ : ∃ P, wr.heap.size = P := ⟨_, rfl⟩
      rw [hy] at hp fr1 q1o ⊢
      rw [hP] at hp hbw ⊢
      clear hy c0 c1 c2 c3 c4
      obtain ⟨⟨c0, c1, c2, c3, c4⟩, _, _⟩ := blk5n_facts hp
      have hS5 : (fun w' => w'.cell? ⟨P, 0, none⟩ = some (.string ⟨f.toArray⟩) ∧ w'.cell? ⟨P, 1, none⟩ = some (.int .u8 (q : Int)) ∧ w'.cell? ⟨P, 2, none⟩ = some (.bool nl) ∧ w'.cell? ⟨P, 3, none⟩ = some (.bool ap) ∧ w'.cell? ⟨P, 4, none⟩ = some (.int .u8 (h : Int))) y := ⟨c0, c1, c2, c3, c4⟩
      refine wp_region_late [] (S := fun w' => w'.cell? ⟨P, 0, none⟩ = some (.string ⟨f.toArray⟩) ∧ w'.cell? ⟨P, 1, none⟩ = some (.int .u8 (q : Int)) ∧ w'.cell? ⟨P, 2, none⟩ = some (.bool nl) ∧ w'.cell? ⟨P, 3, none⟩ = some (.bool ap) ∧ w'.cell? ⟨P, 4, none⟩ = some (.int .u8 (h : Int))) (by kernel_rfl) hS5 (fun hHeld => ?_)
      have fd := (Fr.refl [] y).drew
      have q2o := q1o.fr fd (by simp) (by simp)
      have hpd := fd.blk hp (by simp)
      have fr2 := fr1.trans fd (by simp)
      obtain ⟨wd, hwd⟩ : ∃ wd, y.drew = wd := ⟨_, rfl⟩
      rw [hwd] at hHeld q2o hpd fr2 ⊢
      clear hwd fd q1o hp fr1 c0 c1 c2 c3 c4 hS5
      have hPd := blk_lt hpd
      have hwP : w.heap.size ≤ P := by rw [← hP]; exact HF.out.size
      clear hP
      refine wpLate_take (i := 0) (oi := _) (v := ?_) rfl (by kernel_rfl) (by kernel_rfl) (by kernel_rfl) (by kernel_rfl) (fun _ _ _ h => h) (Gives.load (by rfl) ?_) hHeld ?_
      rotate_left
      · intro w hSw
        (try dsimp only at hSw)
        go_simp
        try with_reducible rfl
      try simp only [Act.put, List.getElem_toArray, List.getElem_cons_succ, List.getElem_cons_zero, List.setIfInBounds_toArray, List.set_cons_zero, List.set_cons_succ]
      refine wpLate_take (i := 1) (oi := _) (v := ?_) rfl (by kernel_rfl) (by kernel_rfl) (by kernel_rfl) (by kernel_rfl) (fun _ _ _ h => h) (Gives.load (by rfl) ?_) hHeld ?_
      rotate_left
      · intro w hSw
        (try dsimp only at hSw)
        go_simp
        try with_reducible rfl
      try simp only [Act.put, List.getElem_toArray, List.getElem_cons_succ, List.getElem_cons_zero, List.setIfInBounds_toArray, List.set_cons_zero, List.set_cons_succ]
      refine wpLate_take (i := 2) (oi := _) (v := ?_) rfl (by kernel_rfl) (by kernel_rfl) (by kernel_rfl) (by kernel_rfl) (fun _ _ _ h => h) (Gives.load (by rfl) ?_) hHeld ?_
      rotate_left
      · intro w hSw
        (try dsimp only at hSw)
        go_simp
        try with_reducible rfl
      try simp only [Act.put, List.getElem_toArray, List.getElem_cons_succ, List.getElem_cons_zero, List.setIfInBounds_toArray, List.set_cons_zero, List.set_cons_succ]
      refine wpLate_take (i := 4) (oi := _) (v := ?_) rfl (by kernel_rfl) (by kernel_rfl) (by kernel_rfl) (by kernel_rfl) (fun _ _ _ h => h) (Gives.load (by rfl) ?_) hHeld ?_
      rotate_left
      · intro w hSw
        (try dsimp only at hSw)
        go_simp
        try with_reducible rfl
      try simp only [Act.put, List.getElem_toArray, List.getElem_cons_succ, List.getElem_cons_zero, List.setIfInBounds_toArray, List.set_cons_zero, List.set_cons_succ]
      refine wpLate_ready (rs := [3]) (by kernel_rfl) (by simp) ?_
      refine AllLate.cons (o := _) rfl (fun K hK => ?_) (by exact AllLate.nil)
      go_simp
      refine (outdata_any b o' L f _ q2o q3 (by omega)).mono ?_
      rintro _ x1 ⟨rfl, o1, h1, ho1, g1⟩
      go_wp2_with fail
      have hp1 := g1.blk hpd (by simp; omega)
      have fr3 := fr2.trans g1 (by intro z hz e; simp at e; omega)
      have hz1 := g1.size
      clear g1
      refine hK.out _ _ (fun _ => (blk5n_facts hp1).1) (fun hHeld => ?_)
      replace hHeld := hHeld (by kernel_rfl)
      clear hK K
      try simp only [Act.put, List.getElem_toArray, List.getElem_cons_succ, List.getElem_cons_zero, List.setIfInBounds_toArray, List.set_cons_zero, List.set_cons_succ]
      refine wpLate_ready (rs := [5]) (by kernel_rfl) (by simp) ?_
      refine AllLate.cons (o := _) rfl (fun K hK => ?_) (by exact AllLate.nil)
      go_simp
      refine (HOP.out _).mono ?_
      rintro _ x2 ⟨rfl, g2⟩
      go_wp2_with fail
      have hp2 := g2.blk hp1 (by simp)
      have fr4 := fr3.trans g2 (by simp)
      have h2 := h1.fr g2 (by simp) (by simp)
      clear g2 h1
      refine hK.out _ _ (fun _ => (blk5n_facts hp2).1) (fun hHeld => ?_)
      replace hHeld := hHeld (by kernel_rfl)
      clear hK K
      try simp only [Act.put, List.getElem_toArray, List.getElem_cons_succ, List.getElem_cons_zero, List.setIfInBounds_toArray, List.set_cons_zero, List.set_cons_succ]
      refine wpLate_ready (rs := [6]) (by kernel_rfl) (by simp) ?_
      refine AllLate.cons (o := _) rfl (fun K hK => ?_) (by exact AllLate.nil)
      go_simp
      refine (outbyte_any b o1 _ _ _ h2 (by omega) hol (by rw [List.length_append]; omega)).mono ?_
      rintro _ x3 ⟨rfl, o3, h3, ho3, g3⟩
      go_wp2_with fail
      have hp3 := g3.blk hp2 (by simp; omega)
      have fr5 := fr4.trans g3 (by intro z hz e; simp at e; omega)
      have hz3 := fr3.size
      have hz4 := fr4.size
      clear g3 h2
      refine hK.out _ _ (fun _ => (blk5n_facts hp3).1) (fun hHeld => ?_)
      replace hHeld := hHeld (by kernel_rfl)
      clear hK K
      try simp only [Act.put, List.getElem_toArray, List.getElem_cons_succ, List.getElem_cons_zero, List.setIfInBounds_toArray, List.set_cons_zero, List.set_cons_succ]
      refine wpLate_done (by kernel_rfl) ?_ _
      rw [Int.toNat_natCast] at h3
      clear hHeld hp1 hp2 hp3 hpd q2o fr2 fr3 fr4
      go_wp2
      go_roundw
      case rel => exact ⟨k + 1, o3, by go_num, by omega, by rw [hsn.out]; exact h3, by omega, fr5⟩
      case measure => simp [intOf]; omega
    · obtain rfl : k = ss.length := by omega
      rw [List.take_length] at HO
      go_wp2_with fail
      refine (outtext_any _ _ _ _ HO.out).mono ?_
      rintro _ _ ⟨rfl, rfl⟩
      go_wp2
      go_ret
      rw [HT.out]
      exact ⟨rfl, HF.out⟩
set_option maxRecDepth 100000 in
set_option maxHeartbeats 4000000 in
theorem untext_any (s : Un) (v u : Value) (w : World) (hb : UnB s) (hv : View w v s.props.length (s.props.flatMap prE)) (hu : View w u s.filters.length (s.filters.flatMap strE)) :
    Calls Try.prog 18 #[.agg (unC s v u).toArray] w fun e w' => e = .returned (.string ⟨(unText s).toArray⟩) ∧ Fr [] w w' := by
  obtain ⟨id, l, ss⟩ := s
  obtain ⟨b1, b2, b3, b4, b5⟩ := hb
  dsimp only at hv hu b1 b2 b3 b4 b5
  have HV := Lib.hid hv
  have HSO := Lib.hid b5
  have HC : Hid (0 < ss.length → ∃ bb off c, u = .slice (some ⟨bb, off, none⟩) ss.length c ∧ bb < w.heap.size ∧ ∀ (i : Nat) (hi : i < ss.length) j x, (strE ss[i])[j]? = some x → w.cell? ⟨bb, off + i * 1 + j, none⟩ = some x) := Lib.hid (fun hl => hu.at strE_len (by decide) hl)
  obtain ⟨A, cp, rfl, _⟩ := hv
  obtain ⟨AU, cu, rfl, _⟩ := hu
  have HT : Hid (unText ⟨id, l, ss⟩ = headB id l ++ filtersB ss) := Lib.hid rfl
  have hb0 := blk_new w (.cells (unC ⟨id, l, ss⟩ (.slice A l.length cp) (.slice AU ss.length cu)).toArray 43)
  have F0 : Fr [] w (w.alloc (.cells (unC ⟨id, l, ss⟩ (.slice A l.length cp) (.slice AU ss.length cu)).toArray 43)) := (Fr.refl _ _).alloc _
  have hhl := headB_le id l b2
  unfold unC at hb0 F0 ⊢
  dsimp only at hb0 F0 ⊢
  clear b5
  obtain ⟨⟨e0, e1, e2⟩, _, _⟩ := blk3_facts hb0
  go_enter Try.func18, Try.ntmps18
  go_wp2_with fail
  refine (phead_any id _ l _ b1 (HV.out.old F0 (by simp)) b2 b3).mono ?_
  rintro _ w1 ⟨b, o1, rfl, h1, hb1, ho1, g1⟩
  have F1 := F0.trans g1 (by simp)
  have hbb := g1.blk hb0 (by simp)
  have hwo : w.heap.size ≤ o1 := by simp at ho1; omega
  have hwb : w.heap.size < b := by simp at hb1; omega
  clear hb0 F0 e0 e1 e2 g1 hb1 ho1
  obtain ⟨⟨e0, e1, e2⟩, _, _⟩ := blk3_facts hbb
  have HB := Lib.hid hbb
  have HH := Lib.hid F1
  clear hbb F1
  go_wp2
  go_loopw [14] (fun i wr => ∃ (k o' : Nat), i = .int .i64 k ∧ k ≤ ss.length ∧ OutAt wr b o' (headB id l ++ filtersB (ss.take k)) ∧ w.heap.size ≤ o' ∧ Fr [] w wr) (fun i _ => ss.length - (intOf i).toNat)
  case atStart => exact ⟨0, o1, rfl, by omega, by simpa [filtersB] using h1, hwo, HH.out⟩
  case round =>
    obtain ⟨k, o', rfl, hk, hout, hoo, hfr⟩ := hrel
    have HO := Lib.hid hout
    have HF := Lib.hid hfr
    have hpl := filtersB_len (ss.take k)
    have htl : (ss.take k).length ≤ 1000 := Nat.le_trans (List.length_take_le _ _) (by omega)
    have hrl : (headB id l ++ filtersB (ss.take k)).length ≤ 200000000 := by rw [List.length_append]; omega
    have hwr := hfr.size
    clear hout hfr h1
    by_cases hlt : k < ss.length
    · obtain ⟨bb, off, c', hsl, hbb, hc⟩ := HC.out (by omega)
      cases hsl
      have hcell := hc k hlt
      have q3 := HSO.out ss[k] (List.getElem_mem hlt)
      have hsn : Hid (headB id l ++ filtersB (ss.take (k + 1)) = (headB id l ++ filtersB (ss.take k)) ++ dataB ss[k]) := Lib.hid (by rw [filtersB_snoc _ _ hlt]; simp only [List.append_assoc])
      generalize headB id l ++ filtersB (ss.take k) = L at *
      generalize ss[k] = f at *
      have c0 : wr.cell? ⟨bb, off + k * 1, none⟩ = some (.string ⟨f.toArray⟩) := HF.out.cell (hcell 0 _ rfl) (by simp)
      rw [Nat.mul_one] at c0
      clear hcell hc e0 e1 e2
      go_wp2_with fail
      refine (outdata_any b o' L f _ HO.out q3 (by omega)).mono ?_
      rintro _ x1 ⟨rfl, o3, h3, ho3, g1⟩
      have fr5 := Lib.hid (HF.out.trans g1 (by intro z hz e; simp at e; omega))
      have h3 := Lib.hid h3
      clear g1
      go_wp2
      go_roundw
      case rel => exact ⟨k + 1, o3, by go_num, by omega, by rw [hsn.out]; exact h3.out, by omega, fr5.out⟩
      case measure => simp [intOf]; omega
    · obtain rfl : k = ss.length := by omega
      rw [List.take_length] at HO
      go_wp2_with fail
      refine (outtext_any _ _ _ _ HO.out).mono ?_
      rintro _ _ ⟨rfl, rfl⟩
      go_wp2
      go_ret
      rw [HT.out]
      exact ⟨rfl, HF.out⟩
set_option maxRecDepth 100000 in
set_option maxHeartbeats 4000000 in
theorem satext_any (a : Sa) (v : Value) (w : World) (hb : SaB a) (hv : View w v a.props.length (a.props.flatMap prE)) :
    Calls Try.prog 21 #[.agg (saC a v).toArray] w fun e w' => e = .returned (.string ⟨(saText a).toArray⟩) ∧ Fr [] w w' := by
  obtain ⟨k, id, l, c⟩ := a
  obtain ⟨b1, b2, b3, b4⟩ := hb
  dsimp only at hv b1 b2 b3 b4
  have HV := Lib.hid hv
  obtain ⟨A, cp, rfl, _⟩ := hv
  have HT : Hid (saText ⟨k, id, l, c⟩ = headB id l ++ c) := Lib.hid rfl
  have hb0 := blk_new w (.cells (saC ⟨k, id, l, c⟩ (.slice A l.length cp)).toArray 45)
  have F0 : Fr [] w (w.alloc (.cells (saC ⟨k, id, l, c⟩ (.slice A l.length cp)).toArray 45)) := (Fr.refl _ _).alloc _
  have hhl := headB_le id l b2
  unfold saC at hb0 F0 ⊢
  dsimp only at hb0 F0 ⊢
  obtain ⟨⟨e0, e1, e2, e3⟩, _, _⟩ := blk4_facts hb0
  go_enter Try.func21, Try.ntmps21
  go_upto_region 1 with (fail)
  obtain ⟨y, hy⟩ : ∃ y, w.alloc (.cells #[.int .i64 k, .int .u32 (id : Int), .slice A l.length cp, .string ⟨c.toArray⟩] 45) = y := ⟨_, rfl⟩
  rw [hy] at hb0 F0 e0 e1 e2 e3 ⊢
  clear hy
  refine wp_region_late [] (S := fun w' => w'.cell? ⟨w.heap.size, 1, none⟩ = some (.int .u32 (id : Int)) ∧ w'.cell? ⟨w.heap.size, 2, none⟩ = some (.slice A l.length cp) ∧ w'.cell? ⟨w.heap.size, 3, none⟩ = some (.string ⟨c.toArray⟩)) (by kernel_rfl) ⟨e1, e2, e3⟩ (fun hHeld => ?_)
  have fd := (Fr.refl [] y).drew
  have hbd := fd.blk hb0 (by simp)
  have F1 := F0.trans fd (by simp)
  obtain ⟨wd, hwd⟩ : ∃ wd, y.drew = wd := ⟨_, rfl⟩
  rw [hwd] at hHeld fd hbd F1 ⊢
  clear hwd hb0 F0 e0 e1 e2 e3 fd
  refine wpLate_take (i := 0) (oi := _) (v := ?_) rfl (by kernel_rfl) (by kernel_rfl) (by kernel_rfl) (by kernel_rfl) (fun _ _ _ h => h) (Gives.load (by rfl) ?_) hHeld ?_
  rotate_left
  · intro w hSw
    (try dsimp only at hSw)
    go_simp
    try with_reducible rfl
  try simp only [Act.put, List.getElem_toArray, List.getElem_cons_succ, List.getElem_cons_zero, List.setIfInBounds_toArray, List.set_cons_zero, List.set_cons_succ]
  refine wpLate_take (i := 1) (oi := _) (v := ?_) rfl (by kernel_rfl) (by kernel_rfl) (by kernel_rfl) (by kernel_rfl) (fun _ _ _ h => h) (Gives.load (by rfl) ?_) hHeld ?_
  rotate_left
  · intro w hSw
    (try dsimp only at hSw)
    go_simp
    try with_reducible rfl
  try simp only [Act.put, List.getElem_toArray, List.getElem_cons_succ, List.getElem_cons_zero, List.setIfInBounds_toArray, List.set_cons_zero, List.set_cons_succ]
  refine wpLate_take (i := 2) (oi := _) (v := ?_) rfl (by kernel_rfl) (by kernel_rfl) (by kernel_rfl) (by kernel_rfl) (fun _ _ _ h => h) (Gives.load (by rfl) ?_) hHeld ?_
  rotate_left
  · intro w hSw
    (try dsimp only at hSw)
    go_simp
    try with_reducible rfl
  try simp only [Act.put, List.getElem_toArray, List.getElem_cons_succ, List.getElem_cons_zero, List.setIfInBounds_toArray, List.set_cons_zero, List.set_cons_succ]
  refine wpLate_take (i := 3) (oi := _) (v := ?_) rfl (by kernel_rfl) (by kernel_rfl) (by kernel_rfl) (by kernel_rfl) (fun _ _ _ h => h) (Gives.load (by rfl) ?_) hHeld ?_
  rotate_left
  · intro w hSw
    (try dsimp only at hSw)
    go_simp
    try with_reducible rfl
  try simp only [Act.put, List.getElem_toArray, List.getElem_cons_succ, List.getElem_cons_zero, List.setIfInBounds_toArray, List.set_cons_zero, List.set_cons_succ]
  refine wpLate_take (i := 5) (oi := _) (v := ?_) rfl (by kernel_rfl) (by kernel_rfl) (by kernel_rfl) (by kernel_rfl) (fun _ _ _ h => h) (Gives.load (by rfl) ?_) hHeld ?_
  rotate_left
  · intro w hSw
    (try dsimp only at hSw)
    go_simp
    try with_reducible rfl
  try simp only [Act.put, List.getElem_toArray, List.getElem_cons_succ, List.getElem_cons_zero, List.setIfInBounds_toArray, List.set_cons_zero, List.set_cons_succ]
  refine wpLate_take (i := 6) (oi := _) (v := ?_) rfl (by kernel_rfl) (by kernel_rfl) (by kernel_rfl) (by kernel_rfl) (fun _ _ _ h => h) (Gives.load (by rfl) ?_) hHeld ?_
  rotate_left
  · intro w hSw
    (try dsimp only at hSw)
    go_simp
    try with_reducible rfl
  try simp only [Act.put, List.getElem_toArray, List.getElem_cons_succ, List.getElem_cons_zero, List.setIfInBounds_toArray, List.set_cons_zero, List.set_cons_succ]
  refine wpLate_ready (rs := [4]) (by kernel_rfl) (by simp) ?_
  refine AllLate.cons (o := _) rfl (fun K hK => ?_) (by exact AllLate.nil)
  go_simp
  refine (phead_any id _ l _ b1 (HV.out.old F1 (by simp)) b2 b3).mono ?_
  rintro _ x1 ⟨b, o1, rfl, h1, hb1, ho1, g1⟩
  go_wp2_with fail
  have hp1 := g1.blk hbd (by simp)
  have F2 := F1.trans g1 (by simp)
  have hz := blk_lt hbd
  obtain ⟨⟨e0, e1, e2, e3⟩, _, _⟩ := blk4_facts hp1
  refine hK.out _ _ (fun _ => ⟨e1, e2, e3⟩) (fun hHeld => ?_)
  replace hHeld := hHeld (by kernel_rfl)
  clear hK K
  try simp only [Act.put, List.getElem_toArray, List.getElem_cons_succ, List.getElem_cons_zero, List.setIfInBounds_toArray, List.set_cons_zero, List.set_cons_succ]
  refine wpLate_ready (rs := [7]) (by kernel_rfl) (by simp) ?_
  refine AllLate.cons (o := _) rfl (fun K hK => ?_) (by exact AllLate.nil)
  go_simp
  refine (outraw_any b o1 _ c _ h1 (by omega)).mono ?_
  rintro _ x2 ⟨rfl, o2, h2, ho2, g2⟩
  go_wp2_with fail
  have F3 := F2.trans g2 (by intro z hz e; simp at e; have := F1.size; omega)
  have G2 : (fun w' => w'.cell? ⟨w.heap.size, 1, none⟩ = some (.int .u32 (id : Int)) ∧ w'.cell? ⟨w.heap.size, 2, none⟩ = some (.slice A l.length cp) ∧ w'.cell? ⟨w.heap.size, 3, none⟩ = some (.string ⟨c.toArray⟩)) x2 := ⟨g2.cell e1 (by simp; omega), g2.cell e2 (by simp; omega), g2.cell e3 (by simp; omega)⟩
  refine hK.out _ _ (fun _ => G2) (fun hHeld => ?_)
  replace hHeld := hHeld (by kernel_rfl)
  clear hK K
  try simp only [Act.put, List.getElem_toArray, List.getElem_cons_succ, List.getElem_cons_zero, List.setIfInBounds_toArray, List.set_cons_zero, List.set_cons_succ]
  refine wpLate_ready (rs := [8]) (by kernel_rfl) (by simp) ?_
  refine AllLate.cons (o := _) rfl (fun K hK => ?_) (by exact AllLate.nil)
  go_simp
  refine (outtext_any _ _ _ _ h2).mono ?_
  rintro _ _ ⟨rfl, rfl⟩
  go_wp2_with fail
  refine hK.out _ _ (fun _ => G2) (fun hHeld => ?_)
  replace hHeld := hHeld (by kernel_rfl)
  clear hK K
  try simp only [Act.put, List.getElem_toArray, List.getElem_cons_succ, List.getElem_cons_zero, List.setIfInBounds_toArray, List.set_cons_zero, List.set_cons_succ]
  refine wpLate_pure (i := 9) (oi := _) (v := ?_) rfl (by kernel_rfl) (by kernel_rfl) (by kernel_rfl) (by kernel_rfl) (fun _ _ _ h => h) (Gives.load (by rfl) ?_) (fun _ => hHeld) ?_
  rotate_left
  · intro w hSw
    clear hSw
    go_simp
    try with_reducible rfl
  try simp only [Act.put, List.getElem_toArray, List.getElem_cons_succ, List.getElem_cons_zero, List.setIfInBounds_toArray, List.set_cons_zero, List.set_cons_succ]
  refine wpLate_done (by kernel_rfl) ?_ _
  clear hHeld e0 e1 e2 e3
  go_wp2
  go_ret
  rw [HT.out]
  exact ⟨rfl, F3⟩
end Go.Proofs.Ythioageiebchlaa
