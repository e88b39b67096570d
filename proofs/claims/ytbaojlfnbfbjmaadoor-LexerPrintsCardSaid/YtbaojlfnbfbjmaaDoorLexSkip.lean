/- The reference's skip and next, as plain words. Plain: no memory. -/
import Derived.Test.YtbaojlfnbfbjmaaDoorLexRef
import Derived.Test.YtbaojlfnbfbjmaaDoorRefNext
import Derived.Test.YtbaojlfnbfbjmaaDoorPLex6
namespace Go.Proofs.YtbaojlfnbfbjmaaDoor.Pure
open Go.RowKit Go.Proofs.YtbaojlfnbfbjmaaDoor.PLex Go.Proofs.YtbaojlfnbfbjmaaDoorW.PrintWords Go.Proofs.YtbaojlfnbfbjmaaDoorW.PrintLast Go.Proofs.YtbaojlfnbfbjmaaDoor.Lex
/-! spaces and remarks -/
theorem skip_l1 (s : ByteArray) (hs : s.size < 1000000) : ∀ (d i : Nat), i + d = s.size → ∀ k, d + 1 ≤ k → retargetref07_skip.l1 k s (i : Int) = some (((i + (((L s).drop i).takeWhile (· != 10)).length : Nat)) : Int) := by
  intro d
  induction d with
  | zero =>
    intro i hi k hk
    match k, hk with
    | k + 1, _ =>
      unfold retargetref07_skip.l1
      rw [if_neg (by omega), Lex.drop_end s i (by omega)]
      rfl
  | succ d ih =>
    intro i hi k hk
    match k, hk with
    | k + 1, hk =>
      have hi' : i < s.size := by omega
      unfold retargetref07_skip.l1
      rw [if_pos (by omega), if_pos (by omega), bt_nat s i hi', Lex.dropL s i hi']
      by_cases h : s[i] = 10
      · rw [if_pos ((bI _ 10 10 rfl).2 h), List.takeWhile_cons_of_neg (by simp [h])]
        rfl
      · rw [if_neg (fun e => h ((bI _ 10 10 rfl).1 e)), List.takeWhile_cons_of_pos (by simp [h]), w64n i (by omega), ih (i + 1) (by omega) k (by omega), List.length_cons]
        congr 2
        omega
theorem skip_j1 (s : ByteArray) (hs : s.size < 1000000) (i : Nat) (hi : i ≤ s.size) (h32 : ∀ h : i < s.size, s[i] ≠ 32) (k : Nat) (hk : s.size - i + 3 ≤ k) : retargetref07_skip.j1 k s (i : Int) = some (((i + Lx.skipLen ((L s).drop i) : Nat)) : Int) := by
  match k, hk with
  | k + 1, hk =>
    match k, hk with
    | k + 1, hk =>
      by_cases hlt : i < s.size
      · simp only [retargetref07_skip.j1]
        rw [if_pos (by omega), if_pos (by omega), bt_nat s i hlt]
        simp only [retargetref07_skip.j2]
        have h2 := h32 hlt
        rw [Lex.dropL s i hlt]
        by_cases h : s[i] = 35
        · rw [if_pos (by rw [(bI _ 35 35 rfl).2 h]; rfl), skip_l1 s hs (s.size - i) i (by omega) k (by omega), Lex.dropL s i hlt, h, Lex.skipLen_hash]
        · rw [if_neg (by intro e; exact h ((bI _ 35 35 rfl).1 (beq_iff_eq.1 e))), Lex.skipLen_other _ h2 h]
          rfl
      · simp only [retargetref07_skip.j1, retargetref07_skip.j2]
        rw [if_neg (by omega), if_neg (by decide), Lex.drop_end s i (by omega)]
        rfl
theorem skip_l0 (s : ByteArray) (hs : s.size < 1000000) : ∀ (d i : Nat), i + d = s.size → ∀ k, d + 4 ≤ k → retargetref07_skip.l0 k s (i : Int) = some (((i + Lx.skipLen ((L s).drop i) : Nat)) : Int) := by
  intro d
  induction d with
  | zero =>
    intro i hi k hk
    match k, hk with
    | k + 1, hk =>
      simp only [retargetref07_skip.l0]
      rw [if_neg (by omega)]
      exact skip_j1 s hs i (by omega) (fun h => absurd h (by omega)) k (by omega)
  | succ d ih =>
    intro i hi k hk
    match k, hk with
    | k + 1, hk =>
      have hi' : i < s.size := by omega
      simp only [retargetref07_skip.l0]
      rw [if_pos (by omega), if_pos (by omega), bt_nat s i hi']
      by_cases h : s[i] = 32
      · rw [if_pos ((bI _ 32 32 rfl).2 h), w64n i (by omega), ih (i + 1) (by omega) k (by omega), Lex.dropL s i hi', h, Lex.skipLen_space]
        congr 2
        omega
      · rw [if_neg (fun e => h ((bI _ 32 32 rfl).1 e))]
        exact skip_j1 s hs i (by omega) (fun _ => h) k (by omega)
theorem skip_ref (s : ByteArray) (hs : s.size < 1000000) (i : Nat) (hi : i ≤ s.size) (k : Nat) (hk : s.size + 4 ≤ k) : retargetref07_skip.f k s (i : Int) = some (((i + Lx.skipLen ((L s).drop i) : Nat)) : Int) :=
  skip_l0 s hs (s.size - i) i (by omega) k (by omega)
theorem next_ref (s : ByteArray) (hs : s.size ≤ 70000) (p : Nat) (hp : p < s.size) : retargetref07_next.f s (p : Int) = some (ans6 p (Lx.next s[p] ((L s).drop (p + 1)))) := by
  unfold retargetref07_next.f
  rw [dif_pos ⟨⟨by omega, hs⟩, by simpa using hp⟩]
  simp only [Int.toNat_natCast]
end Go.Proofs.YtbaojlfnbfbjmaaDoor.Pure
