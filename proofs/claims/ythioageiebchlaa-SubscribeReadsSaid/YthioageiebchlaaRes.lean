/- What a function hands back whose results are a struct in a block and a slot, or a struct in a block. No condition. -/
import Derived.Test.YthioageiebchlaaBlks
namespace Go.Proofs.Ythioageiebchlaa
open Go.RowKit
set_option linter.unusedSimpArgs false

theorem res_cell2 {P : Program} {fn : Func} {a b : Tmp} {t : TypeId} (hres : fn.results = #[.cell a t, .tmp b]) (tmps : Array Value) (w : World) (g : Nat) (cs : List Value) (d : TypeDesc) (v : Value)
    (ha : tmps.getD a undef = .pointer (some ⟨g, 0, none⟩)) (hb : tmps.getD b undef = v) (hc : w.rangeAt g 0 cs) (hu : P.underlying t = some d) (hd : d.isRow = true) (hi : (P.info? t).map (·.size) = some cs.length) :
    (results fn tmps).run P w = .ok (.tuple #[.agg cs.toArray, v]) w := by
  have hl := run_loadVar_mid (P := P) w g 0 t cs d hc hu hd hi
  have ha2 : tmps[a]?.getD undef = .pointer (some ⟨g, 0, none⟩) := by simpa using ha
  have hb2 : tmps[b]?.getD undef = v := by simpa using hb
  simp [results, hres, ha2, hb2, asAddr, hl]
theorem wpList_asg {P : Program} {ops : Array Oper} {rest : List Oper} {o : Oper} {a : Act} {w : World} {Q : Exit → Act → World → Prop} (hg : o.guard = none) (x : Operand) (ho : o.op = .assign x)
    (h : wpList P ops Q rest (a.put o.dst (a.eval x)) w) : wpList P ops Q (o :: rest) a w :=
  wpList_plain hg fun _ hK => by
    unfold Oper.wp execOp
    simp only [ho, Sem.run_pure]
    exact hK _ _ h
/-- A frame of many slots, of which two alone count from here on. -/
theorem wpList_seal {P : Program} {ops : Array Oper} {rest : List Oper} {a : Act} {w : World} {Q : Exit → Act → World → Prop} (i j : Tmp) (vi vj : Value) (hi : a.tmps.getD i undef = vi) (hj : a.tmps.getD j undef = vj) (hd : a.defers = [])
    (h : ∀ A : Act, A.tmps.getD i undef = vi → A.tmps.getD j undef = vj → A.defers = [] → wpList P ops Q rest A w) : wpList P ops Q rest a w := h a hi hj hd
end Go.Proofs.Ythioageiebchlaa
