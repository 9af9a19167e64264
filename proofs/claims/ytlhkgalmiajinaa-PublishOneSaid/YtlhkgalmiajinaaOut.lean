/- What each method of octet.Out does, called on a gatherer that stands in a block of its own: its bytes behind the call; nothing else turns. Conditions: numbers within their kinds, fewer bytes than 2^46. -/
import Derived.Test.YtlhkgalmiajinaaProg
import Derived.Test.YtlhkgalmiajinaaBase
import Derived.Test.YtlhkgalmiajinaaPure
namespace Go.Proofs.Ytlhkgalmiajinaa
open Go.RowKit

/-- A gatherer stands in block b, its bytes l in block o (none yet: o is b). -/
def OutAt (w : World) (b o : Nat) (l : List UInt8) : Prop :=
  ∃ v, w.heap[b]? = some (.cells #[v] 101 (0, 0)) ∧ w.ownsRow 0 5 1 v l.length (bytesV l) ∧ ((v = .slice none 0 0 ∧ o = b) ∨ (v.ownBlock = some o ∧ o ≠ b))
theorem OutAt.fr {S : List Nat} {w w' : World} {b o : Nat} {l : List UInt8} (h : OutAt w b o l) (hf : Fr S w w') (hb : b ∉ S) (ho : o ∉ S) : OutAt w' b o l := by
  obtain ⟨v, h1, h2, h3⟩ := h
  refine ⟨v, hf.blk h1 hb, own_fr hf h2 ?_, h3⟩
  intro k hk
  rcases h3 with ⟨rfl, _⟩ | ⟨h3, _⟩
  · simp [Value.ownBlock] at hk
  · rw [hk] at h3; cases h3; exact ho
theorem OutAt.lt {w : World} {b o : Nat} {l : List UInt8} (h : OutAt w b o l) : b < w.heap.size ∧ o < w.heap.size := by
  obtain ⟨v, h1, h2, h3⟩ := h
  refine ⟨blk_lt h1, ?_⟩
  rcases h3 with ⟨_, rfl⟩ | ⟨h3, _⟩
  · exact blk_lt h1
  · exact (h2.lt o h3).2
theorem OutAt.new (w : World) : OutAt (w.alloc (.cells #[.slice none 0 0] 101)) w.heap.size w.heap.size [] :=
  ⟨_, blk_new _ _, World.ownsRow_nil _ _ _ _, Or.inl ⟨rfl, rfl⟩⟩
/-- Behind a call on a gatherer. -/
def OutTo (w w' : World) (b o : Nat) (l : List UInt8) : Prop := ∃ o', OutAt w' b o' l ∧ (o' = o ∨ w.heap.size ≤ o') ∧ Fr [b, o] w w'
theorem OutTo.refl {w : World} {b o : Nat} {l : List UInt8} (h : OutAt w b o l) : OutTo w w b o l := ⟨o, h, Or.inl rfl, Fr.refl _ _⟩
theorem OutTo.step {w w1 w2 : World} {b o o1 : Nat} {l : List UInt8} (ho : o1 = o ∨ w.heap.size ≤ o1) (hf : Fr [b, o] w w1) (h : OutTo w1 w2 b o1 l) : OutTo w w2 b o l := by
  obtain ⟨o2, h2, ho2, hf2⟩ := h
  refine ⟨o2, h2, ?_, hf.trans hf2 ?_⟩
  · have := hf.size
    rcases ho2 with rfl | ho2
    · exact ho
    · omega
  · intro x hx
    simp
    rcases ho with rfl | ho
    · exact id
    · omega

theorem Try.infoU8 : (Try.prog.info? 5).map (fun i => (i.zero, i.size, i.bytes)) = some (some (.int .u8 0), 1, 1) := by kernel_rfl

/-- The stores' end: a row that has grown, laid back into the gatherer. -/
theorem out_stored {w w0 w1 : World} {b o : Nat} {v v' : Value} {l m : List UInt8} (hb : w.heap[b]? = some (.cells #[v] 101 (0, 0))) (hv : (v = .slice none 0 0 ∧ o = b) ∨ (v.ownBlock = some o ∧ o ≠ b))
    (h0 : Fr [] w w0) (hown : w1.ownsRow 0 5 1 v' (l.length + m.length) (bytesV l ++ bytesV m)) (hg : w0.grownBy w1 v.ownBlock) (hf : Fresh w0 v v') : OutTo w (w1.setCell ⟨b, 0, none⟩ v') b o (l ++ m) := by
  have hbl := blk_lt hb
  have hsz := h0.size
  have hob : v.ownBlock ≠ some b := by
    rcases hv with ⟨rfl, _⟩ | ⟨h, hne⟩
    · simp [Value.ownBlock]
    · rw [h]; simpa using hne
  have hf1 : Fr [b, o] w w1 := by
    refine (h0.mono (T := [b, o]) (by simp)).grown hg ?_
    intro k hk
    rcases hv with ⟨rfl, _⟩ | ⟨h, hne⟩
    · simp [Value.ownBlock] at hk
    · rw [h] at hk; cases hk; right; simp
  have hb1 : w1.heap[b]? = some (.cells #[v] 101 (0, 0)) := by
    rw [hg.block b (by omega) (Ne.symm hob)]; exact h0.blk hb (by simp)
  have hb2 := blk_set hb1 0 v'
  have hown' : w1.ownsRow 0 5 1 v' (l ++ m).length (bytesV (l ++ m)) := by rw [List.length_append, bytesV_append]; exact hown
  have hne' : some b ≠ v'.ownBlock := by
    rcases hf with hf | ⟨g, hf, hgs⟩
    · rw [hf]; exact Ne.symm hob
    · rw [hf]; simp; omega
  cases hv' : v'.ownBlock with
  | none =>
    have hv0 : v' = .slice none 0 0 := by
      rcases hown.2 with h | ⟨g, cap, cur, rfl, _⟩
      · exact h.1
      · simp [Value.ownBlock] at hv'
    have hvn : v.ownBlock = none := by
      rcases hf with hf | ⟨g, hf, _⟩
      · rw [← hf]; exact hv'
      · rw [hf] at hv'; cases hv'
    have hob2 : o = b := by
      rcases hv with ⟨_, h⟩ | ⟨h, _⟩
      · exact h
      · rw [h] at hvn; cases hvn
    refine ⟨b, ⟨v', hb2, own_set hown' hne' _, Or.inl ⟨hv0, rfl⟩⟩, Or.inl hob2.symm, hf1.setCell (by simp) _⟩
  | some g =>
    refine ⟨g, ⟨v', hb2, own_set hown' hne' _, Or.inr ⟨hv', ?_⟩⟩, ?_, hf1.setCell (by simp) _⟩
    · rintro rfl; exact hne' hv'.symm
    · rcases hf with hf | ⟨g', hf, hgs⟩
      · rw [hf] at hv'
        rcases hv with ⟨rfl, h⟩ | ⟨h, _⟩
        · simp [Value.ownBlock] at hv'
        · rw [h] at hv'; cases hv'; exact Or.inl rfl
      · rw [hf] at hv'; cases hv'; right; omega

theorem out_facts {w : World} {b o : Nat} {v : Value} (hb : w.heap[b]? = some (.cells #[v] 101 (0, 0))) (hv : (v = .slice none 0 0 ∧ o = b) ∨ (v.ownBlock = some o ∧ o ≠ b))
    {w0 w1 : World} (h0 : Fr [] w w0) (hg : w0.grownBy w1 v.ownBlock) : w1.cell? ⟨b, 0, none⟩ = some v ∧ w1.frozen? ⟨b, 0, none⟩ = false := by
  have hb1 : w1.heap[b]? = some (.cells #[v] 101 (0, 0)) := by
    rw [hg.block b (by have := h0.size; have := blk_lt hb; omega) ?_]
    · exact h0.blk hb (by simp)
    · rcases hv with ⟨rfl, _⟩ | ⟨h, hne⟩
      · simp [Value.ownBlock]
      · rw [h]; simpa using (Ne.symm hne)
  exact ⟨blk_cell hb1 0, blk_frozen hb1 0⟩
theorem own_shape {w : World} {base : Nat} {e : TypeId} {size n : Nat} {v : Value} {xs : List Value} (h : w.ownsRow base e size v n xs) : ∃ A c, v = .slice A n c := by
  rcases h.2 with ⟨rfl, rfl⟩ | ⟨g, cap, cur, rfl, _⟩
  · exact ⟨_, _, rfl⟩
  · exact ⟨_, _, rfl⟩

theorem outbyte_any (b o : Nat) (l : List UInt8) (c : Int) (w : World) (h : OutAt w b o l) (h0 : 0 ≤ c) (h1 : c < 256) (hl : l.length < 70368744177664) :
    Calls Try.prog 58 #[.pointer (some ⟨b, 0, none⟩), .int .u8 c] w fun e w' => e = .returned (.pointer (some ⟨b, 0, none⟩)) ∧ OutTo w w' b o (l ++ [b8 c.toNat]) := by
  obtain ⟨i0, hi, hz0, hz1, hz2⟩ := info_parts Try.infoU8
  obtain ⟨v, hb, hown, hv⟩ := h
  have c0 : w.cell? ⟨b, 0, none⟩ = some v := blk_cell hb 0
  have f0 : w.frozen? ⟨b, 0, none⟩ = false := blk_frozen hb 0
  have hbl := blk_lt hb
  have Hb := Lib.hid hb
  have Hv := Lib.hid hv
  clear hb hv
  obtain ⟨A, cp, rfl⟩ := own_shape hown
  go_enter Try.func58, Try.ntmps58
  go_wp2_with (at_builtin; refine wpl_app _ rfl (.tmp 9) (.tmp 11) 60 rfl 0 5 i0 (.int .u8 0) 1 1 Try.underlying60 hi hz0 hz1 hz2 rfl (by decide) _ l.length (bytesV l) rfl (hown.alloc _) ⟨w.heap.size, 0, none⟩ 1 1 [.int .u8 c] rfl rfl ?c1 ?c2 ?c3 ?c4 (Nat.zero_le _) ?_)
  case c1 => intro j u hj; match j, hj with | 0, hj => simp at hj; subst hj; simp [Addr.add]
  case c2 => intro u hu; simp at hu; subst hu; rfl
  case c3 => unfold maxLen; omega
  case c4 => omega
  intro v' w1 hown1 hg hfr
  obtain ⟨k0, f1⟩ := out_facts Hb.out Hv.out ((Fr.refl [] w).alloc _) hg
  obtain ⟨A', cp', rfl⟩ := own_shape hown1
  have H1 := Lib.hid hown1
  have H2 := Lib.hid hg
  have H3 := Lib.hid hfr
  clear hown1 hg hfr
  go_wp2
  go_ret
  refine ⟨rfl, out_stored (m := [b8 c.toNat]) Hb.out Hv.out ((Fr.refl [] w).alloc _) ?_ H2.out H3.out⟩
  have e : bytesV [b8 c.toNat] = [.int .u8 c] := by
    simp [bytesV, b8, UInt8.toNat_ofNat']; omega
  rw [e]
  exact H1.out
theorem outraw_any (b o : Nat) (l s : List UInt8) (w : World) (h : OutAt w b o l) (hl : l.length + s.length ≤ 70368744177664) :
    Calls Try.prog 53 #[.pointer (some ⟨b, 0, none⟩), .string ⟨s.toArray⟩] w fun e w' => e = .returned (.pointer (some ⟨b, 0, none⟩)) ∧ OutTo w w' b o (l ++ s) := by
  obtain ⟨i0, hi, hz0, hz1, hz2⟩ := info_parts Try.infoU8
  obtain ⟨v, hb, hown, hv⟩ := h
  have c0 : w.cell? ⟨b, 0, none⟩ = some v := blk_cell hb 0
  have f0 : w.frozen? ⟨b, 0, none⟩ = false := blk_frozen hb 0
  have hbl := blk_lt hb
  have Hb := Lib.hid hb
  have Hv := Lib.hid hv
  clear hb hv
  obtain ⟨A, cp, rfl⟩ := own_shape hown
  go_enter Try.func53, Try.ntmps53
  go_wp2_with (at_builtin; refine wpl_app_str _ rfl (.tmp 9) (.tmp 10) 60 9 rfl 0 5 i0 Try.underlying60 Try.underlying9 hi hz0 hz1 hz2 _ l.length (bytesV l) rfl hown s rfl ?c3 ?c4 (Nat.zero_le _) ?_)
  case c3 => unfold maxLen; omega
  case c4 => omega
  intro v' w1 hown1 hg hfr
  obtain ⟨k0, f1⟩ := out_facts Hb.out Hv.out (Fr.refl [] w) hg
  obtain ⟨A', cp', rfl⟩ := own_shape hown1
  have H1 := Lib.hid hown1
  have H2 := Lib.hid hg
  have H3 := Lib.hid hfr
  clear hown1 hg hfr
  go_wp2
  go_ret
  exact ⟨rfl, out_stored (m := s) Hb.out Hv.out (Fr.refl [] w) H1.out H2.out H3.out⟩
theorem outlen_any (b o : Nat) (l : List UInt8) (w : World) (h : OutAt w b o l) :
    Calls Try.prog 90 #[.pointer (some ⟨b, 0, none⟩)] w fun e w' => e = .returned (.int .i64 l.length) ∧ w = w' := by
  obtain ⟨v, hb, hown, hv⟩ := h
  have c0 : w.cell? ⟨b, 0, none⟩ = some v := blk_cell hb 0
  clear hb hv
  obtain ⟨A, cp, rfl⟩ := own_shape hown
  go_enter Try.func90, Try.ntmps90
  go_wp2
  go_ret
  exact ⟨rfl, rfl⟩
theorem own_bytes_string {P : Program} {w : World} {base : Nat} {src dst e : TypeId} {v : Value} {l : List UInt8} (h : w.ownsRow base e 1 v l.length (bytesV l)) (hs : P.underlying src = some (.slice e)) (he : P.underlying e = some (.int .u8)) (hd : P.underlying dst = some .string) :
    (convert src dst v).run P w = .ok (.string ⟨l.toArray⟩) w := by
  rcases h.2 with ⟨rfl, hn⟩ | ⟨g, cap, cur, rfl, _⟩
  · have : l = [] := List.eq_nil_of_length_eq_zero hn
    subst this
    exact run_convert_bytes_nil w src e hs he 0 0 dst hd
  · have hc := h.cells (g := g) rfl
    have hr := run_convert_bytes_arg (P := P) w src e hs he g 0 l.length cap (l.map fun c => (c.toNat : Int)) (by simp) (by
      intro i hi
      have := hc i (.int .u8 ((l.getD i 0).toNat : Int)) (by simp [bytesV, List.getElem?_eq_getElem hi, List.getD])
      have hadd : (⟨g, 0, none⟩ : Addr).add i = ⟨g, 0 + i, none⟩ := by unfold Addr.add; split <;> simp_all
      rw [hadd] at this
      rw [this]
      simp [List.getD, List.getElem?_eq_getElem hi]) dst hd
    rw [hr]
    congr 2
    apply ByteArray.ext
    apply Array.ext'
    rw [strOfNums_data]
    simp only [List.map_map]
    exact map_b8 l
theorem outtext_any (b o : Nat) (l : List UInt8) (w : World) (h : OutAt w b o l) :
    Calls Try.prog 54 #[.pointer (some ⟨b, 0, none⟩)] w fun e w' => e = .returned (.string ⟨l.toArray⟩) ∧ w = w' := by
  obtain ⟨v, hb, hown, hv⟩ := h
  have c0 : w.cell? ⟨b, 0, none⟩ = some v := blk_cell hb 0
  clear hb hv
  have hcv := own_bytes_string (P := Try.prog) hown Try.underlying60 Try.underlying5 Try.underlying9
  obtain ⟨A, cp, rfl⟩ := own_shape hown
  clear hown
  go_enter Try.func54, Try.ntmps54
  go_wp2
  go_ret
  exact ⟨rfl, rfl⟩
theorem outtwo_any (b o : Nat) (l : List UInt8) (n : Int) (w : World) (h : OutAt w b o l) (h0 : 0 ≤ n) (h1 : n < 4294967296) (hl : l.length < 70368744177663) :
    Calls Try.prog 51 #[.pointer (some ⟨b, 0, none⟩), .int .u32 n] w fun e w' => e = .returned (.pointer (some ⟨b, 0, none⟩)) ∧ OutTo w w' b o (l ++ two n.toNat) := by
  go_enter Try.func51, Try.ntmps51
  go_wp2_with fail
  refine (outbyte_any b o l _ w h (by omega) (by omega) (by omega)).mono ?_
  rintro e w1 ⟨rfl, o1, h2, ho1, hf1⟩
  go_wp2_with fail
  refine (outbyte_any b o1 _ _ w1 h2 (by omega) (by omega) (by simp; omega)).mono ?_
  rintro e w2 ⟨rfl, h3⟩
  go_wp2
  go_ret
  refine ⟨rfl, OutTo.step ho1 hf1 ?_⟩
  have e : l ++ [b8 (n / 256 % 256).toNat] ++ [b8 (n % 256).toNat] = l ++ two n.toNat := by
    rw [List.append_assoc]
    simp only [two, List.cons_append, List.nil_append]
    rw [b8_eq (show (n / 256 % 256).toNat % 256 = n.toNat / 256 % 256 by omega), b8_eq (show (n % 256).toNat % 256 = n.toNat % 256 by omega)]
  rw [← e]
  exact h3
theorem outfour_any (b o : Nat) (l : List UInt8) (n : Int) (w : World) (h : OutAt w b o l) (h0 : 0 ≤ n) (h1 : n < 4294967296) (hl : l.length < 70368744177661) :
    Calls Try.prog 111 #[.pointer (some ⟨b, 0, none⟩), .int .u32 n] w fun e w' => e = .returned (.pointer (some ⟨b, 0, none⟩)) ∧ OutTo w w' b o (l ++ four n.toNat) := by
  go_enter Try.func111, Try.ntmps111
  go_wp2_with fail
  refine (outtwo_any b o l _ w h (by omega) (by omega) (by omega)).mono ?_
  rintro e w1 ⟨rfl, o1, h2, ho1, hf1⟩
  go_wp2_with fail
  refine (outtwo_any b o1 _ _ w1 h2 (by omega) (by omega) (by simp [two]; omega)).mono ?_
  rintro e w2 ⟨rfl, h3⟩
  go_wp2
  go_ret
  refine ⟨rfl, OutTo.step ho1 hf1 ?_⟩
  rw [four, ← List.append_assoc, show n.toNat / 65536 = (n / 65536).toNat from by omega]
  exact h3
theorem two_len (n : Nat) : (two n).length = 2 := rfl
theorem outdata_any (b o : Nat) (l s : List UInt8) (w : World) (h : OutAt w b o l) (hs : s.length ≤ 9223372036854775807) (hl : l.length < 70368744100000) :
    Calls Try.prog 50 #[.pointer (some ⟨b, 0, none⟩), .string ⟨s.toArray⟩] w fun e w' => e = .returned (.pointer (some ⟨b, 0, none⟩)) ∧ OutTo w w' b o (l ++ dataB s) := by
  by_cases hb : (65535 : Int) < s.length
  · have ht : (s.take 65535).length = 65535 := by rw [List.length_take]; omega
    go_enter Try.func50, Try.ntmps50
    go_wp2_with fail
    rw [show min 65535 s.length = 65535 from by omega]
    refine (outtwo_any b o l _ w h (by omega) (by omega) (by omega)).mono ?_
    rintro e w1 ⟨rfl, o1, h2, ho1, hf1⟩
    go_wp2_with fail
    rw [ex_take]
    refine (outraw_any b o1 _ _ w1 h2 (by rw [List.length_append, ht, two_len]; omega)).mono ?_
    rintro e w2 ⟨rfl, h3⟩
    go_wp2
    go_ret
    refine ⟨rfl, OutTo.step ho1 hf1 ?_⟩
    rw [dataB, ht, ← List.append_assoc]
    exact h3
  · have ht : s.take 65535 = s := List.take_of_length_le (by omega)
    go_enter Try.func50, Try.ntmps50
    go_wp2_with fail
    refine (outtwo_any b o l _ w h (by omega) (by omega) (by omega)).mono ?_
    rintro e w1 ⟨rfl, o1, h2, ho1, hf1⟩
    go_wp2_with fail
    rw [ex_take, List.take_length]
    refine (outraw_any b o1 _ _ w1 h2 (by rw [List.length_append, two_len]; omega)).mono ?_
    rintro e w2 ⟨rfl, h3⟩
    go_wp2
    go_ret
    refine ⟨rfl, OutTo.step ho1 hf1 ?_⟩
    rw [dataB, ht, ← List.append_assoc]
    exact h3
/-- What holds at the label of 'Var': j more bytes may come. -/
def OVarJ (b o : Nat) (l : List UInt8) (n0 : Nat) (w : World) (a' : Act) (w' : World) : Prop :=
  ∃ (j n o' : Nat) (m : List UInt8) (u2 u3 u4 u5 u6 u7 u8 u9 u10 u11 u12 u13 u14 u15 u16 u17 u18 u19 u20 u21 : Value), a' = { tmps := #[.pointer (some ⟨b, 0, none⟩), .int .u32 n, u2, u3, u4, u5, u6, u7, u8, u9, u10, u11, u12, u13, u14, u15, u16, u17, u18, u19, u20, u21], defers := [] } ∧
    j ≤ 3 ∧ n < 128 ^ (j + 1) ∧ m.length + j ≤ 3 ∧ m ++ varB j n = var n0 ∧ OutAt w' b o' (l ++ m) ∧ (o' = o ∨ w.heap.size ≤ o') ∧ Fr [b, o] w w'
def oVarM (a' : Act) (_ : World) : Nat := (intOf (a'.tmps.getD 1 undef)).toNat
theorem varB_last (j n : Nat) (h : n < 128) : varB j n = [b8 n] := by
  cases j with
  | zero => simp [varB]; apply b8_eq; omega
  | succ j => simp [varB, h]
theorem varB_on (j n : Nat) (h : 128 ≤ n) : varB (j + 1) n = b8 (n % 128 + 128) :: varB j (n / 128) := by
  simp [varB, show ¬ n < 128 from by omega]
theorem ovar_step (n : Nat) (h : n < 268435456) : bits .or .u8 (bits .and .u32 (n : Int) 127 % 256) 128 = ((n % 128 + 128 : Nat) : Int) ∧ bits .and .u32 (n : Int) 127 % 256 = ((n % 128 : Nat) : Int) := by
  rw [and_u32 7 n 127 (by decide) (by decide) (by omega) (by omega)]
  constructor
  · rw [bits_or_comm, or_u8 7 _ _ (by decide) (by decide) (by decide) (by decide) (by omega) (by omega)]; omega
  · omega
set_option maxHeartbeats 1000000 in
theorem outvar_any (b o : Nat) (l : List UInt8) (n : Int) (w : World) (h : OutAt w b o l) (h0 : 0 ≤ n) (h1 : n < 4294967296) (hl : l.length < 70368744100000) :
    Calls Try.prog 89 #[.pointer (some ⟨b, 0, none⟩), .int .u32 n] w fun e w' => e = .returned (.pointer (some ⟨b, 0, none⟩)) ∧ OutTo w w' b o (l ++ var n.toNat) := by
  obtain ⟨n0, rfl⟩ := Int.eq_ofNat_of_zero_le h0
  rw [Int.toNat_natCast]
  have hvm : (if (268435455 : Int) < n0 then 268435455 else (n0 : Int)) = ((vmin n0 : Nat) : Int) := by unfold vmin; split <;> split <;> omega
  have hv : vmin n0 < 268435456 := by unfold vmin; split <;> omega
  have HV := Lib.hid hvm
  have HL := Lib.hid hv
  clear hvm hv
  go_enter Try.func89, Try.ntmps89
  go_wp2
  refine wp_scope_back 0 (OVarJ b o l n0 w) oVarM rfl ?_ ?_
  · rintro a' w' ⟨j, n, o', m, u2, u3, u4, u5, u6, u7, u8, u9, u10, u11, u12, u13, u14, u15, u16, u17, u18, u19, u20, u21, rfl, hj, hn, hm, hvar, ho, hoo, hf⟩
    have hp : 128 ^ (j + 1) ≤ 128 ^ 4 := Nat.pow_le_pow_right (by decide) (by omega)
    have hn4 : (n : Int) < 268435456 := by omega
    clear hp
    have Hvar := Lib.hid hvar
    have Hn := Lib.hid hn
    clear hvar hn
    have Hs := Lib.hid (ovar_step n (by omega))
    by_cases hz : 0 < (n : Int) / 128
    · go_wp2_with fail
      rw [Hs.out.1]
      refine (outbyte_any b o' _ _ w' ho (by omega) (by omega) (by simp; omega)).mono ?_
      rintro e w1 ⟨rfl, o1, h2, ho1, hf1⟩
      rw [Int.toNat_natCast] at h2
      have hj1 : j ≠ 0 := by
        rintro rfl
        have := Hn.out
        omega
      obtain ⟨i, rfl⟩ : ∃ i, j = i + 1 := ⟨j - 1, by omega⟩
      go_wp2
      go_step3
      simp only [Exit.then]
      rw [show (n : Int) / 128 = ((n / 128 : Nat) : Int) from by omega]
      refine ⟨rfl, ⟨i, n / 128, o1, m ++ [b8 (n % 128 + 128)], _, _, _, _, _, _, _, _, _, _, _, _, _, _, _, _, _, _, _, _, rfl, by omega, ?_, by simp; omega, ?_, by rw [← List.append_assoc]; exact h2, ?_, ?_⟩, ?_⟩
      · have := Hn.out
        rw [Nat.pow_succ] at this
        omega
      · rw [← Hvar.out, varB_on _ _ (by omega), List.append_assoc]; rfl
      · have := hf.size; omega
      · refine hf.trans hf1 ?_
        intro x hx
        simp
        rcases hoo with rfl | hoo
        · exact id
        · omega
      · simp [oVarM, intOf]; omega
    · go_wp2_with fail
      rw [Hs.out.2]
      refine (outbyte_any b o' _ _ w' ho (by omega) (by omega) (by simp; omega)).mono ?_
      rintro e w1 ⟨rfl, h2⟩
      rw [Int.toNat_natCast] at h2
      go_wp2
      simp only [Exit.jump]
      go_ret
      refine ⟨rfl, OutTo.step hoo hf ?_⟩
      rw [← Hvar.out, varB_last _ _ (by omega), ← List.append_assoc]
      rw [show n % 128 = n from by omega] at h2
      exact h2
  · intro hp
    have Hp := Lib.hid hp
    clear hp
    by_cases hbig : (268435455 : Int) < n0
    · have hv : vmin n0 = 268435455 := by have := HV.out; rw [if_pos hbig] at this; omega
      have Hv := Lib.hid hv
      clear hv
      go_wp2
      go_step3
      simp only [Exit.then]
      rename_i hK
      refine hK _ _ ?_
      exact Hp.out _ _ ⟨3, 268435455, o, [], _, _, _, _, _, _, _, _, _, _, _, _, _, _, _, _, _, _, _, _, rfl, by decide, by decide, by decide, by rw [var, Hv.out]; rfl, by simpa using h, Or.inl rfl, Fr.refl _ _⟩
    · have hv : vmin n0 = n0 := by have := HV.out; rw [if_neg hbig] at this; omega
      have Hv := Lib.hid hv
      clear hv
      go_wp2
      go_step3
      simp only [Exit.then]
      rename_i hK
      refine hK _ _ ?_
      exact Hp.out _ _ ⟨3, n0, o, [], _, _, _, _, _, _, _, _, _, _, _, _, _, _, _, _, _, _, _, _, rfl, by decide, by omega, by decide, by rw [var, Hv.out]; rfl, by simpa using h, Or.inl rfl, Fr.refl _ _⟩
end Go.Proofs.Ytlhkgalmiajinaa
