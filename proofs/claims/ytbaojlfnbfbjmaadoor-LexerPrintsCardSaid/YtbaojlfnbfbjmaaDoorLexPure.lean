/- Of the pure laws: the chapter's examples; comparisons; what Tokens answers by what the text's scan is. Plain: no memory. -/
import Derived.Test.YtbaojlfnbfbjmaaDoorLexSpec
import Derived.Test.YtbaojlfnbfbjmaaDoorLexTok
import Derived.Test.YtbaojlfnbfbjmaaDoorPLex2
namespace Go.Proofs.YtbaojlfnbfbjmaaDoor.Pure
open Go.RowKit Go.Proofs.YtbaojlfnbfbjmaaDoor.PLex Go.Proofs.YtbaojlfnbfbjmaaDoorW.PrintWords Go.Proofs.YtbaojlfnbfbjmaaDoorW.PrintLast Go.Proofs.YtbaojlfnbfbjmaaDoor.Lex
theorem w64 {i : Int} (h0 : -9223372036854775808 ≤ i) (h1 : i ≤ 9223372036854775807) : wrap64 i = i := by unfold wrap64; omega
theorem w64n (i : Nat) (h : i < 1000000) : wrap64 ((i : Int) + 1) = ((i + 1 : Nat) : Int) := by rw [w64 (by omega) (by omega)]; omega
theorem leO_le {α : Type} {F : Nat → Option α} (h : ∀ k, LeO (F k) (F (k + 1))) {K : Nat} {r : α} (e : F K = some r) : ∀ k, K ≤ k → F k = some r := by
  intro k hk
  induction hk with
  | refl => exact e
  | step _ ih => exact h _ _ ih
theorem rd_nat (xs : List S33) (i : Nat) (h : i < xs.length) : rd_T33 xs (i : Int) = xs[i] := by simp [rd_T33, h]
theorem same_loop (l0 l1 : List S33) (b : Bool) (hl : l0.length = l1.length) (hs : l0.length < 1000000) (h : ∀ i (h0 : i < l0.length) (h1 : i < l1.length), l0[i].f0 = l1[i].f0 ∧ l0[i].f1 = l1[i].f1 ∧ l0[i].f2 = l1[i].f2 ∧ (b = true → l0[i].f3 = l1[i].f3)) :
    ∀ (d i : Nat), i + d = l0.length → ∀ k, d + 1 ≤ k → retargetref07_Same.l0 k l0 l1 b (i : Int) = some true := by
  intro d
  induction d with
  | zero =>
    intro i hi k hk
    match k, hk with
    | k + 1, _ =>
      unfold retargetref07_Same.l0
      rw [if_neg (by omega)]
  | succ d ih =>
    intro i hi k hk
    match k, hk with
    | k + 1, hk =>
      have h0 : i < l0.length := by omega
      have h1 : i < l1.length := by omega
      obtain ⟨e0, e1, e2, e3⟩ := h i h0 h1
      unfold retargetref07_Same.l0
      rw [if_pos (by omega), if_pos (by omega), if_pos (by omega), rd_nat l0 i h0, rd_nat l1 i h1, if_pos e0, if_pos (by rw [e1]), if_pos e2, w64n i (by omega)]
      have := ih (i + 1) (by omega) k (by omega)
      by_cases hb : b = true
      · rw [if_pos hb, if_pos (e3 hb)]
        exact this
      · rw [if_neg hb]
        exact this
theorem same_true (l0 l1 : List S33) (b : Bool) (hl : l0.length = l1.length) (hs : l0.length < 1000000) (h : ∀ i (h0 : i < l0.length) (h1 : i < l1.length), l0[i].f0 = l1[i].f0 ∧ l0[i].f1 = l1[i].f1 ∧ l0[i].f2 = l1[i].f2 ∧ (b = true → l0[i].f3 = l1[i].f3)) (k : Nat) (hk : l0.length + 1 ≤ k) : retargetref07_Same.f k l0 l1 b = some true := by
  rw [retargetref07_Same.f, if_pos (by omega)]
  exact same_loop l0 l1 b hl hs h l0.length 0 (by omega) k hk
/-- Tokens, by the scan. -/
theorem tokens_f (s : ByteArray) {ts : List (Lx.Tok × Nat)} {er : Option Nat} (h : Lx.Scan 0 (L s) ts er) (hs : s.size ≤ 65536) :
    lexer_Tokens.f s = some ((Lx.lim [] ts er).1.map tS, (((Lx.lim [] ts er).2.1 : Nat) : Int), (((Lx.lim [] ts er).2.2 : Nat) : Int)) := by
  have hl : (L s).length = s.size := by simp [L]
  unfold lexer_Tokens.f
  rw [Lx.tokens_scan h (by omega)]
theorem tokens_ok (s : ByteArray) {ts : List (Lx.Tok × Nat)} (h : Lx.Scan 0 (L s) ts none) (hs : s.size ≤ 65536) (hn : ts.length ≤ 20000) : lexer_Tokens.f s = some (ts.map tS, 0, 0) := by
  rw [tokens_f s h hs, Lx.lim, if_pos (by simpa using hn)]
  rfl
theorem tokens_bad (s : ByteArray) {ts : List (Lx.Tok × Nat)} {q : Nat} (h : Lx.Scan 0 (L s) ts (some q)) (hs : s.size ≤ 65536) (hn : ts.length ≤ 20000) : lexer_Tokens.f s = some ([], (q : Int), 12) := by
  rw [tokens_f s h hs, Lx.lim, if_pos (by simpa using hn)]
  rfl
theorem tokens_many (s : ByteArray) {ts : List (Lx.Tok × Nat)} {er : Option Nat} (h : Lx.Scan 0 (L s) ts er) (hs : s.size ≤ 65536) (hn : 20000 < ts.length) : ∃ q : Nat, lexer_Tokens.f s = some ([], (q : Int), 4) := by
  refine ⟨((ts.drop 20000).head?.map (·.2)).getD 0, ?_⟩
  have h2 : ¬ ([] : List (Lx.Tok × Nat)).length + ts.length ≤ 20000 := by simp; omega
  rw [tokens_f s h hs]
  unfold Lx.lim
  rw [if_neg h2]
  rfl
theorem L_append (a b : ByteArray) : L (a ++ b) = L a ++ L b := by simp [L]
theorem bt_nat (s : ByteArray) (i : Nat) (h : i < s.size) : bt s (i : Int) = (s[i].toNat : Int) := by
  have := bt_at s (i : Int) (by simpa using h)
  rw [← this]
  rfl
end Go.Proofs.YtbaojlfnbfbjmaaDoor.Pure
