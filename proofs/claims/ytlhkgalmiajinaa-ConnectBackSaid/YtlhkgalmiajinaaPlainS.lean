/- A right connect comes back; a beginning of its body is none, nor is more: plain laws. No condition. -/
import Derived.Test.YtlhkgalmiajinaaPlainR
namespace Go.Proofs.Ytlhkgalmiajinaa
open Go.RowKit
set_option linter.unusedVariables false
set_option linter.unusedSimpArgs false

theorem tk_name : Tk Rd.str [0, 4, 77, 81, 84, 84] mqtt := by
  have hd : dataB mqtt = [0, 4, 77, 81, 84, 84] := by kernel_rfl
  have hg : good mqtt = true := by decide
  refine ⟨fun t => ?_, fun k hk => ?_⟩
  · have := data_back mqtt t
    rw [hd] at this
    unfold Rd.str
    rw [this]
    have h2 : mqtt.take 65535 = mqtt := by kernel_rfl
    rw [h2]
    dsimp only
    rw [if_pos hg]
  · have h := data_short mqtt (by decide) k (by rw [hd]; exact hk)
    rw [hd] at h
    unfold Rd.str
    rw [h]
    have hg0 : good [] = true := by decide
    dsimp only
    rw [if_pos hg0]
structure FlB (x : Cn) (f : Nat) : Prop where
  e : cnFlags x = f
  l : f < 256
  b : cnBad f = false
  c : decide (f / 2 % 2 = 1) = x.clean
  w : decide (f / 4 % 2 = 1) = x.hasWill
  p : decide (f / 64 % 2 = 1) = x.hasPass
  u : decide (f / 128 % 2 = 1) = x.hasUser
  r : decide (f / 32 % 2 = 1) = x.ret
  q : f / 8 % 4 = x.qos
theorem fl_of (x : Cn) (h : RtC x) : ∃ f, FlB x f := by
  obtain ⟨f, h0, h1, h2, h3, h4, h5, h6, h7, h8⟩ := fl_back x.clean x.hasWill x.hasPass x.hasUser x.ret ⟨x.qos, h.q⟩ (fun hw => ⟨(h.n hw).2.2.1, (h.n hw).2.2.2⟩)
  exact ⟨f, h0, h1, h2, h3, h4, h5, h6, h7, h8⟩
structure TlP (x : Cn) (t t1 t2 t3 t4 t5 t6 t7 : List UInt8) : Prop where
  e1 : tailB x ++ t = two x.keep ++ t1
  e2 : t1 = [0] ++ t2
  e3 : t2 = dataB x.id ++ t3
  e4 : t3 = (if x.hasWill = true then [0] else []) ++ t4
  e5 : t4 = (if x.hasWill = true then dataB x.topic else []) ++ t5
  e6 : t5 = (if x.hasWill = true then dataB x.pay else []) ++ t6
  e7 : t6 = (if x.hasUser = true then dataB x.user else []) ++ t7
  e8 : t7 = (if x.hasPass = true then dataB x.pass else []) ++ t
theorem tail_parts (x : Cn) (t : List UInt8) : ∃ t1 t2 t3 t4 t5 t6 t7, TlP x t t1 t2 t3 t4 t5 t6 t7 := by
  refine ⟨_, _, _, _, _, _, _, ⟨?_, rfl, rfl, rfl, rfl, rfl, rfl, rfl⟩⟩
  unfold tailB
  simp only [List.append_assoc]
set_option maxHeartbeats 1000000 in
theorem tail_all (x : Cn) (h : RtC x) (f : Nat) (F : FlB x f) (t : List UInt8) : cnTail f ⟨tailB x ++ t, 0⟩ = ⟨x, ⟨t, 0⟩⟩ := by
  obtain ⟨t1, t2, t3, t4, t5, t6, t7, T⟩ := tail_parts x t
  obtain ⟨si, hi, hil⟩ := h.i
  have g1 : Rd.num ⟨two x.keep ++ t1, 0⟩ 2 = (x.keep, ⟨t1, 0⟩) := (tk_two x.keep h.k).back t1
  have g2 : takeP ⟨t1, 0⟩ 1 false = ([], ⟨t2, 0⟩) := by rw [T.e2]; exact (tk_props 1 false).back t2
  have g3 : Rd.str ⟨t2, 0⟩ = (x.id, ⟨t3, 0⟩) := by rw [T.e3, hi]; exact (tk_str si (by omega)).back t3
  have g4 : willP x.hasWill ⟨t3, 0⟩ = ([], ⟨t4, 0⟩) := by rw [T.e4]; exact (tk_willP x.hasWill).back t4
  have g5 : willT x.hasWill ⟨t4, 0⟩ = (x.topic, ⟨t5, 0⟩) := by rw [T.e5]; exact (tk_willT x.hasWill x.topic h.t (fun q => (h.n q).1)).back t5
  have g6 : dataT x.hasWill ⟨t5, 0⟩ = (x.pay, ⟨t6, 0⟩) := by rw [T.e6]; exact (tk_dataT x.hasWill x.pay h.y (fun q => (h.n q).2.1)).back t6
  have g7 : willT x.hasUser ⟨t6, 0⟩ = (x.user, ⟨t7, 0⟩) := by rw [T.e7]; exact (tk_willT x.hasUser x.user h.u h.nu).back t7
  have g8 : dataT x.hasPass ⟨t7, 0⟩ = (x.pass, ⟨t, 0⟩) := by rw [T.e8]; exact (tk_dataT x.hasPass x.pass h.s h.np).back t
  rw [T.e1]
  clear T
  unfold cnTail
  rw [F.c, F.w, F.p, F.u, F.r, F.q, g1]
  dsimp only
  rw [g2]
  dsimp only
  rw [g3]
  dsimp only
  rw [g4]
  dsimp only
  rw [g5]
  dsimp only
  rw [g6]
  dsimp only
  rw [g7]
  dsimp only
  rw [g8]
  dsimp only
  have hp := h.p
  have hw := h.w
  obtain ⟨clean, keep, props, id, hasWill, wp, topic, pay, qos, ret, hasUser, hasPass, user, pass⟩ := x
  dsimp only at hp hw ⊢
  rw [hp, hw]
theorem tail_more (x : Cn) (h : RtC x) (f : Nat) (F : FlB x f) (t : List UInt8) : (cnTail f ⟨tailB x ++ t, 0⟩).r = ⟨t, 0⟩ := by rw [tail_all x h f F t]
set_option maxHeartbeats 1000000 in
theorem cn_back (x : Cn) (h : RtC x) : cnParse (cnText x) = (x, 0) := by
  obtain ⟨f, F⟩ := fl_of x h
  rw [text_tail x h, F.e]
  have hT := tail_all x h f F []
  rw [List.append_nil] at hT
  generalize tailB x = TB at *
  have e0 := tk_name.back ([5] ++ ([b8 f] ++ TB))
  have e1 : Rd.num ⟨[5] ++ ([b8 f] ++ TB), 0⟩ 1 = (5, ⟨[b8 f] ++ TB, 0⟩) := (tk_byte 5 (by decide)).back _
  have e2 : Rd.num ⟨[b8 f] ++ TB, 0⟩ 1 = (f, ⟨TB, 0⟩) := (tk_byte f F.l).back _
  unfold cnParse
  rw [e0]
  dsimp only
  rw [if_neg (by simp), e1]
  dsimp only
  rw [if_neg (by simp), cnFrom_good _ (by rw [e2]) (by rw [e2]; exact F.b), e2]
  dsimp only
  rw [hT]
  dsimp only
  rw [if_pos (by decide)]
theorem e1_ne {r : Rd} (h : r.e = 1) : r.e ≠ 0 := by rw [h]; decide
set_option maxHeartbeats 4000000 in
/-- A beginning: bytes are wanting. -/
theorem tail_cut (x : Cn) (h : RtC x) (f : Nat) (F : FlB x f) (n : Nat) (hn : n < (tailB x).length) : (cnTail f ⟨(tailB x).take n, 0⟩).r.e = 1 := by
  rw [tail_r, F.w, F.p, F.u]
  have k7 : ∀ r : Rd, r.e = 1 → (dataT x.hasPass r).2.e = 1 := fun r h => by rw [dataT_bad _ _ (e1_ne h)]; exact h
  have k6 : ∀ r : Rd, r.e = 1 → (dataT x.hasPass (willT x.hasUser r).2).2.e = 1 := fun r h => k7 _ (by rw [willT_bad _ _ (e1_ne h)]; exact h)
  have k5 : ∀ r : Rd, r.e = 1 → (dataT x.hasPass (willT x.hasUser (dataT x.hasWill r).2).2).2.e = 1 := fun r h => k6 _ (by rw [dataT_bad _ _ (e1_ne h)]; exact h)
  have k4 : ∀ r : Rd, r.e = 1 → (dataT x.hasPass (willT x.hasUser (dataT x.hasWill (willT x.hasWill r).2).2).2).2.e = 1 := fun r h => k5 _ (by rw [willT_bad _ _ (e1_ne h)]; exact h)
  have k3 : ∀ r : Rd, r.e = 1 → (dataT x.hasPass (willT x.hasUser (dataT x.hasWill (willT x.hasWill (willP x.hasWill r).2).2).2).2).2.e = 1 := fun r h => k4 _ (by rw [willP_bad _ _ (e1_ne h)]; exact h)
  have k2 : ∀ r : Rd, r.e = 1 → (dataT x.hasPass (willT x.hasUser (dataT x.hasWill (willT x.hasWill (willP x.hasWill r.str.2).2).2).2).2).2.e = 1 := fun r h => k3 _ (by rw [str_bad _ (e1_ne h)]; exact h)
  have k1 : ∀ r : Rd, r.e = 1 → (dataT x.hasPass (willT x.hasUser (dataT x.hasWill (willT x.hasWill (willP x.hasWill (takeP r 1 false).2.str.2).2).2).2).2).2.e = 1 := fun r h => k2 _ (by rw [takeP_bad _ _ _ (e1_ne h)]; exact h)
  obtain ⟨si, hi, hil⟩ := h.i
  unfold tailB at hn ⊢
  rcases (tk_two x.keep h.k).cut _ n hn with q | ⟨m1, hm1, q⟩
  · exact k1 _ q
  rw [q]
  dsimp only
  rcases (tk_props 1 false).cut _ m1 hm1 with q | ⟨m2, hm2, q⟩
  · exact k2 _ q
  rw [q]
  dsimp only
  have T3 := tk_str si (by omega)
  rw [← hi] at T3
  rcases T3.cut _ m2 hm2 with q | ⟨m3, hm3, q⟩
  · exact k3 _ q
  rw [q]
  dsimp only
  rcases (tk_willP x.hasWill).cut _ m3 hm3 with q | ⟨m4, hm4, q⟩
  · exact k4 _ q
  rw [q]
  dsimp only
  rcases (tk_willT x.hasWill x.topic h.t (fun q => (h.n q).1)).cut _ m4 hm4 with q | ⟨m5, hm5, q⟩
  · exact k5 _ q
  rw [q]
  dsimp only
  rcases (tk_dataT x.hasWill x.pay h.y (fun q => (h.n q).2.1)).cut _ m5 hm5 with q | ⟨m6, hm6, q⟩
  · exact k6 _ q
  rw [q]
  dsimp only
  rcases (tk_willT x.hasUser x.user h.u h.nu).cut _ m6 hm6 with q | ⟨m7, hm7, q⟩
  · exact k7 _ q
  rw [q]
  dsimp only
  exact (tk_dataT x.hasPass x.pass h.s h.np).short m7 hm7
set_option maxHeartbeats 4000000 in
theorem cn_cut (x : Cn) (h : RtC x) (n : Nat) (hn : n < (cnText x).length) : (cnParse ((cnText x).take n)).2 = 2 := by
  obtain ⟨f, F⟩ := fl_of x h
  rw [text_tail x h, F.e] at hn ⊢
  rcases tk_name.cut _ n hn with q | ⟨m1, hm1, q⟩
  · unfold cnParse
    dsimp only
    rw [if_neg (fun c => e1_ne q c.1), num_bad _ 1 (e1_ne q)]
    dsimp only
    rw [if_neg (fun c => e1_ne q c.1), cnFrom_bad _ (e1_ne q), q]
    rfl
  unfold cnParse
  rw [q]
  dsimp only
  rw [if_neg (by simp)]
  rcases (tk_byte 5 (by decide)).cut _ m1 hm1 with q | ⟨m2, hm2, q⟩
  · have q' : (Rd.num ⟨List.take m1 ([b8 5] ++ ([b8 f] ++ tailB x)), 0⟩ 1).2.e = 1 := q
    rw [show ([5] : List UInt8) = [b8 5] from rfl, if_neg (fun c => e1_ne q' c.1), cnFrom_bad _ (e1_ne q'), q']
    rfl
  have q' : Rd.num ⟨List.take m1 ([b8 5] ++ ([b8 f] ++ tailB x)), 0⟩ 1 = (5, ⟨List.take m2 ([b8 f] ++ tailB x), 0⟩) := q
  rw [show ([5] : List UInt8) = [b8 5] from rfl, q']
  dsimp only
  rw [if_neg (by simp)]
  rcases (tk_byte f F.l).cut _ m2 hm2 with q | ⟨m3, hm3, q⟩
  · rw [cnFrom_flags _ rfl (Or.inl (e1_ne q))]
  have q2 : Rd.num ⟨List.take m2 ([b8 f] ++ tailB x), 0⟩ 1 = (f, ⟨List.take m3 (tailB x), 0⟩) := q
  rw [cnFrom_good _ (by rw [q2]) (by rw [q2]; exact F.b), q2]
  dsimp only
  have ht := tail_cut x h f F m3 hm3
  rw [ends_bad _ (e1_ne ht), ht, if_neg (by decide)]
  rfl
set_option maxHeartbeats 4000000 in
/-- A body and more behind it. -/
theorem cn_more (x : Cn) (h : RtC x) (t : List UInt8) (ht : t ≠ []) : (cnParse (cnText x ++ t)).2 = 2 := by
  obtain ⟨f, F⟩ := fl_of x h
  rw [text_tail x h, F.e]
  simp only [List.append_assoc]
  have e0 := tk_name.back ([5] ++ ([b8 f] ++ (tailB x ++ t)))
  have e1 : Rd.num ⟨[5] ++ ([b8 f] ++ (tailB x ++ t)), 0⟩ 1 = (5, ⟨[b8 f] ++ (tailB x ++ t), 0⟩) := (tk_byte 5 (by decide)).back _
  have e2 : Rd.num ⟨[b8 f] ++ (tailB x ++ t), 0⟩ 1 = (f, ⟨tailB x ++ t, 0⟩) := (tk_byte f F.l).back _
  unfold cnParse
  rw [e0]
  dsimp only
  rw [if_neg (by simp), e1]
  dsimp only
  rw [if_neg (by simp)]
  rw [cnFrom_good _ (by rw [e2]) (by rw [e2]; exact F.b), e2]
  dsimp only
  rw [tail_more x h f F t]
  have he : Rd.ends ⟨t, 0⟩ = 2 := by
    unfold Rd.ends
    rw [if_pos (Or.inr ⟨rfl, ht⟩)]
  rw [he, if_neg (by decide)]
end Go.Proofs.Ytlhkgalmiajinaa
