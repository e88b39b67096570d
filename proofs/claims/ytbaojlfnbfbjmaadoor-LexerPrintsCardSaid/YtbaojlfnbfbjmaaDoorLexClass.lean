/- What the lexer's class table holds: the contract of retarget/lexer.class, and what an index into it gives. What the lexer's class table holds: the contract of retarget/lexer.class, and what an index into it gives. -/
import Derived.Test.YtbaojlfnbfbjmaaDoorProg
import Derived.Test.YtbaojlfnbfbjmaaDoorLexSpec
import Derived.Test.YtbaojlfnbfbjmaaDoorWWords
import Derived.Test.YtbaojlfnbfbjmaaDoorWLast
import Derived.Test.YtbaojlfnbfbjmaaDoorWMore
import Derived.Test.YtbaojlfnbfbjmaaDoorWTab
import Derived.WalkKit
import Derived.KernelRfl
import Derived.Shelf.Abstract
import Derived.Laws.Tables
import Derived.Laws.Rows
import Derived.Laws.CopyOwn
namespace Go.Proofs.YtbaojlfnbfbjmaaDoor
open Go.RowKit Go.Proofs.YtbaojlfnbfbjmaaDoorW.PrintWords Go.Proofs.YtbaojlfnbfbjmaaDoorW.PrintLast Go.Proofs.YtbaojlfnbfbjmaaDoorW.PrintMore

set_option linter.unusedVariables false
set_option linter.unusedSimpArgs false
namespace Lex
/-- The class of byte number i, as an Int. -/
def clsI (i : Int) : Int := (Lx.cls (UInt8.ofNat i.toNat) : Nat)
/-- The whole table, as cells. -/
def classA : Array Value := ((List.range 256).map fun (i : Nat) => Value.int .u8 (clsI (i : Int))).toArray
def zerosA : Array Value := Array.replicate 256 (.int .u8 0)
theorem classA_size : classA.size = 256 := by simp [classA]
theorem built (W : World) (a : Act) : (execOp a.eval (opsOf Tryd.f30 1)[0]!).run Tryd.prog W = .ok (.value (.agg classA)) W := by kernel_rfl
theorem wp_value {P : Program} {o : Oper} {a : Act} {w : World} {K : Act → World → Prop} {Q : Exit → Act → World → Prop} {v : Value} (hrun : (execOp a.eval o).run P w = .ok (.value v) w) (h : K (a.put o.dst v) w) : o.wp P a w K Q := by
  unfold Oper.wp
  rw [hrun]
  exact h
theorem classA_one : classA.all (·.oneCell') = true := by kernel_rfl
theorem classA_at (i : Nat) (h : i < 256) : classA[i]? = some (.int .u8 (clsI i)) := by simp [classA, h]
theorem clsI_range (i : Int) : 0 ≤ clsI i ∧ clsI i ≤ 255 := by
  unfold clsI Lx.cls
  constructor
  · omega
  · repeat' split
    all_goals omega
theorem size55 : (Tryd.prog.info? 55).map (fun i => (i.zero, i.size)) = some (some (.agg zerosA), 256) := by kernel_rfl
theorem run_index_class (c : Int) (h0 : 0 ≤ c) (h1 : c ≤ 255) (w : World) : (Instr.index 55 (.agg classA) (.int .u8 c)).run Tryd.prog w = .ok (.int .u8 (clsI c)) w := by
  obtain ⟨n, rfl⟩ : ∃ n : Nat, c = n := ⟨c.toNat, by omega⟩
  have hn : n < 256 := by omega
  have hagg : (isAgg 5).run Tryd.prog w = .ok false w := run_isAgg_plain Tryd.underlying5 rfl w
  have hsz : (sizeOf 5).run Tryd.prog w = .ok 1 w := by kernel_rfl
  have hb : (0 : Int) ≤ (n : Int) ∧ (n : Int) < ((256 : Nat) : Int) := by omega
  simp only [Instr.index, asIntOf, Sem.run_bind, Sem.run_pure, Result.andThen_ok, run_underlying Tryd.underlying55, hsz]
  rw [if_pos hb]
  simp only [Sem.run_bind, Sem.run_pure, Result.andThen_ok, part, hagg, hsz, Bool.false_eq_true, if_false, Nat.mul_one, Int.toNat_natCast, classA_at n hn]
end Lex

end Go.Proofs.YtbaojlfnbfbjmaaDoor
namespace Go.Proofs.YtbaojlfnbfbjmaaDoor
open Go.RowKit Go.Proofs.YtbaojlfnbfbjmaaDoorW.PrintWords Go.Proofs.YtbaojlfnbfbjmaaDoorW.PrintLast Go.Proofs.YtbaojlfnbfbjmaaDoorW.PrintMore

set_option linter.unusedVariables false
set_option linter.unusedSimpArgs false
namespace PLex
def lexer_class.f : Option Unit := some ()
set_option maxHeartbeats 4000000 in
set_option maxRecDepth 100000 in
theorem lexer_class.calls (r : Unit) (w : World) (h : lexer_class.f = some r) :
    Calls Tryd.prog 30 #[] w fun e w' => e = .returned (.agg Lex.classA) ∧ Below w.heap.size w w' := by
  clear h r
  go_enter Tryd.func30, Tryd.ntmps30
  go_wp2_with (((with_reducible refine gate_dst (N := 0) rfl ?_); refine box_event rfl (N := 0) rfl (cs := Lex.zerosA) (t := 55) ?hr ?_; (case hr => exact rfl); intro g hg w1 hbox hb; have hge := Aside0.mk (Nat.le_of_eq hg.symm); clear hg))
  refine Lex.wp_value (v := .agg Lex.classA) (Lex.built _ _) ?_
  go_wp2_with (refine wpList_store_row rfl 55 _ _ rfl g Lex.classA rfl rfl 55 Lex.zerosA hbox (by kernel_rfl) rfl Lex.classA_one ?_)
  refine bodyPost_ret (v := .agg Lex.classA) (results_cell_row rfl _ _ g 55 Lex.classA (0, 0) (.array 256 5) rfl (setRow_heap _ _ _ _ _ _ hbox) Tryd.underlying55 rfl (by kernel_rfl)) rfl ⟨rfl, ?_⟩
  exact below_setRow hb hge.out _
end PLex
end Go.Proofs.YtbaojlfnbfbjmaaDoor
