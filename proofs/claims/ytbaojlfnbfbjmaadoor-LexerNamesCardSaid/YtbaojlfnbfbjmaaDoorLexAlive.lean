/- The chapter's examples hold. Plain: no memory. -/
import Derived.Test.YtbaojlfnbfbjmaaDoorLexPure
import Derived.Test.YtbaojlfnbfbjmaaDoorPLex2
namespace Go.Proofs.YtbaojlfnbfbjmaaDoor.Pure
open Go.RowKit Go.Proofs.YtbaojlfnbfbjmaaDoor.PLex Go.Proofs.YtbaojlfnbfbjmaaDoorW.PrintWords Go.Proofs.YtbaojlfnbfbjmaaDoorW.PrintLast Go.Proofs.YtbaojlfnbfbjmaaDoor.Lex
set_option maxRecDepth 100000 in
theorem alive_ten : retargetlaw07_alive.f 10 = some true := by decide +kernel
theorem alive_true (k : Nat) (hk : 10 ≤ k) : retargetlaw07_alive.f k = some true := leO_le (F := fun k => retargetlaw07_alive.f k) retargetlaw07_alive.mono alive_ten k hk
end Go.Proofs.YtbaojlfnbfbjmaaDoor.Pure
