/- What the lexer's class table holds: the contract of retarget/lexer.class, and what an index into it gives. -/
import Derived.Test.YtbaojlfnbfbjmaaDoorProg
import Derived.Test.YtbaojlfnbfbjmaaDoorLexClassA
import Derived.Test.YtbaojlfnbfbjmaaDoorWWords
import Derived.Test.YtbaojlfnbfbjmaaDoorWLast
import Derived.Test.YtbaojlfnbfbjmaaDoorWMore
import Derived.Test.YtbaojlfnbfbjmaaDoorWTab
import Derived.WalkKit
import Derived.KernelRfl
import Derived.Laws.Tables
import Derived.Laws.Rows
import Derived.Laws.CopyOwn
namespace Go.Proofs.YtbaojlfnbfbjmaaDoor
open Go.RowKit Go.Proofs.YtbaojlfnbfbjmaaDoorW.PrintWords Go.Proofs.YtbaojlfnbfbjmaaDoorW.PrintLast Go.Proofs.YtbaojlfnbfbjmaaDoorW.PrintMore

set_option linter.unusedVariables false
set_option linter.unusedSimpArgs false
namespace PLex
def lexer_class.f : Option Unit := some ()
set_option maxHeartbeats 4000000 in
set_option maxRecDepth 100000 in
theorem lexer_class.calls (r : Unit) (w : World) (h : lexer_class.f = some r) :
    Calls Tryd.prog 30 #[] w fun e w' => e = .returned (.agg Lex.classA) ∧ Below w.heap.size w w' := by
  clear h r
  go_enter Tryd.func30, Tryd.ntmps30
  go_wp2_with (((with_reducible refine gate_dst (N := 0) rfl ?_); refine box_event rfl (N := 0) rfl (cs := Lex.zerosA) (t := 55) ?hr ?_; (case hr => exact rfl); intro g hg w1 hbox hb; have hge := Aside0.mk (Nat.le_of_eq hg.symm); clear hg))
  refine Lex.wp_value (v := .agg Lex.classA) (Lex.built _ _) ?_
  go_wp2_with (refine wpList_store_row rfl 55 _ _ rfl g Lex.classA rfl rfl 55 Lex.zerosA hbox (by kernel_rfl) rfl Lex.classA_one ?_)
  refine bodyPost_ret (v := .agg Lex.classA) (results_cell_row rfl _ _ g 55 Lex.classA (0, 0) (.array 256 5) rfl (setRow_heap _ _ _ _ _ _ hbox) Tryd.underlying55 rfl (by kernel_rfl)) rfl ⟨rfl, ?_⟩
  exact below_setRow hb hge.out _
end PLex
end Go.Proofs.YtbaojlfnbfbjmaaDoor
