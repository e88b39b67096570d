/- The lexer's Tokens: its contract in the printed texts' shape. -/
import Derived.Test.YtbaojlfnbfbjmaaDoorLexTokens
namespace Go.Proofs.YtbaojlfnbfbjmaaDoor
open Go.RowKit Go.Proofs Go.Proofs.YtbaojlfnbfbjmaaDoorW.PrintWords Go.Proofs.YtbaojlfnbfbjmaaDoorW.PrintLast Go.Proofs.YtbaojlfnbfbjmaaDoorW.PrintMore
namespace PLex
/-- What Tokens answers. -/
def lexer_Tokens.f (a0 : ByteArray) : Option (List S33 × Int × Int) := some ((Lx.tokens (Lex.L a0)).1.map Lex.tS, ((Lx.tokens (Lex.L a0)).2.1 : Nat), ((Lx.tokens (Lex.L a0)).2.2 : Nat))
theorem lexer_Tokens.calls (a0 : ByteArray) (r1 : List S33) (r2 r3 : Int) (w : World) (hL : Lex.Laid w) (h : lexer_Tokens.f a0 = some (r1, r2, r3)) :
    Calls Tryd.prog 11 #[.string a0] w fun e w' => ∃ v0_, e = .returned (.tuple #[v0_, .int .i64 r2, .int .i64 r3]) ∧ Kd.R k33 33 w' w.heap.size (fun _ => True) v0_ r1 ∧ Below w.heap.size w w' := by
  injection h with h
  injection h with h1 h
  injection h with h2 h3
  subst h1
  subst h2
  subst h3
  have hl : (Lex.L a0).length = a0.size := by simp [Lex.L]
  by_cases hs : 65536 < a0.size
  · have hl' : 65536 < (Lex.L a0).length := by omega
    refine (tokens_long a0 w hs).mono ?_
    rintro e w' ⟨rfl, rfl⟩
    rw [Lx.tokens, if_pos hl']
    exact ⟨_, rfl, Kd.R_nil _ _ _ _ _, Below.refl _ _⟩
  · have hl' : ¬ 65536 < (Lex.L a0).length := by omega
    rw [Lx.tokens, if_neg hl', hl]
    exact tokens_short a0 w (by omega) hL _ rfl
end PLex
end Go.Proofs.YtbaojlfnbfbjmaaDoor
