/- The law of tokens: what Tokens answers is what the reference answers. Plain: no memory. -/
import Derived.Test.YtbaojlfnbfbjmaaDoorLexRef
import Derived.Test.YtbaojlfnbfbjmaaDoorRefNext
import Derived.Test.YtbaojlfnbfbjmaaDoorPLex13
namespace Go.Proofs.YtbaojlfnbfbjmaaDoor.Pure
open Go.RowKit Go.Proofs.YtbaojlfnbfbjmaaDoor.PLex Go.Proofs.YtbaojlfnbfbjmaaDoorW.PrintWords Go.Proofs.YtbaojlfnbfbjmaaDoorW.PrintLast Go.Proofs.YtbaojlfnbfbjmaaDoor.Lex
/-! spaces and remarks -/
theorem skip_l1 (s : ByteArray) (hs : s.size < 1000000) : ∀ (d i : Nat), i + d = s.size → ∀ k, d + 1 ≤ k → retargetref07_skip.l1 k s (i : Int) = some (((i + (((L s).drop i).takeWhile (· != 10)).length : Nat)) : Int) := by
  intro d
  induction d with
  | zero =>
    intro i hi k hk
    match k, hk with
    | k + 1, _ =>
      unfold retargetref07_skip.l1
      rw [if_neg (by omega), Lex.drop_end s i (by omega)]
      rfl
  | succ d ih =>
    intro i hi k hk
    match k, hk with
    | k + 1, hk =>
      have hi' : i < s.size := by omega
      unfold retargetref07_skip.l1
      rw [if_pos (by omega), if_pos (by omega), bt_nat s i hi', Lex.dropL s i hi']
      by_cases h : s[i] = 10
      · rw [if_pos ((bI _ 10 10 rfl).2 h), List.takeWhile_cons_of_neg (by simp [h])]
        rfl
      · rw [if_neg (fun e => h ((bI _ 10 10 rfl).1 e)), List.takeWhile_cons_of_pos (by simp [h]), w64n i (by omega), ih (i + 1) (by omega) k (by omega), List.length_cons]
        congr 2
        omega
theorem skip_j1 (s : ByteArray) (hs : s.size < 1000000) (i : Nat) (hi : i ≤ s.size) (h32 : ∀ h : i < s.size, s[i] ≠ 32) (k : Nat) (hk : s.size - i + 3 ≤ k) : retargetref07_skip.j1 k s (i : Int) = some (((i + Lx.skipLen ((L s).drop i) : Nat)) : Int) := by
  match k, hk with
  | k + 1, hk =>
    match k, hk with
    | k + 1, hk =>
      by_cases hlt : i < s.size
      · simp only [retargetref07_skip.j1]
        rw [if_pos (by omega), if_pos (by omega), bt_nat s i hlt]
        simp only [retargetref07_skip.j2]
        have h2 := h32 hlt
        rw [Lex.dropL s i hlt]
        by_cases h : s[i] = 35
        · rw [if_pos (by rw [(bI _ 35 35 rfl).2 h]; rfl), skip_l1 s hs (s.size - i) i (by omega) k (by omega), Lex.dropL s i hlt, h, Lex.skipLen_hash]
        · rw [if_neg (by intro e; exact h ((bI _ 35 35 rfl).1 (beq_iff_eq.1 e))), Lex.skipLen_other _ h2 h]
          rfl
      · simp only [retargetref07_skip.j1, retargetref07_skip.j2]
        rw [if_neg (by omega), if_neg (by decide), Lex.drop_end s i (by omega)]
        rfl
theorem skip_l0 (s : ByteArray) (hs : s.size < 1000000) : ∀ (d i : Nat), i + d = s.size → ∀ k, d + 4 ≤ k → retargetref07_skip.l0 k s (i : Int) = some (((i + Lx.skipLen ((L s).drop i) : Nat)) : Int) := by
  intro d
  induction d with
  | zero =>
    intro i hi k hk
    match k, hk with
    | k + 1, hk =>
      simp only [retargetref07_skip.l0]
      rw [if_neg (by omega)]
      exact skip_j1 s hs i (by omega) (fun h => absurd h (by omega)) k (by omega)
  | succ d ih =>
    intro i hi k hk
    match k, hk with
    | k + 1, hk =>
      have hi' : i < s.size := by omega
      simp only [retargetref07_skip.l0]
      rw [if_pos (by omega), if_pos (by omega), bt_nat s i hi']
      by_cases h : s[i] = 32
      · rw [if_pos ((bI _ 32 32 rfl).2 h), w64n i (by omega), ih (i + 1) (by omega) k (by omega), Lex.dropL s i hi', h, Lex.skipLen_space]
        congr 2
        omega
      · rw [if_neg (fun e => h ((bI _ 32 32 rfl).1 e))]
        exact skip_j1 s hs i (by omega) (fun _ => h) k (by omega)
theorem skip_ref (s : ByteArray) (hs : s.size < 1000000) (i : Nat) (hi : i ≤ s.size) (k : Nat) (hk : s.size + 4 ≤ k) : retargetref07_skip.f k s (i : Int) = some (((i + Lx.skipLen ((L s).drop i) : Nat)) : Int) :=
  skip_l0 s hs (s.size - i) i (by omega) k (by omega)
theorem next_ref (s : ByteArray) (hs : s.size ≤ 70000) (p : Nat) (hp : p < s.size) : retargetref07_next.f s (p : Int) = some (ans6 p (Lx.next s[p] ((L s).drop (p + 1)))) := by
  unfold retargetref07_next.f
  rw [dif_pos ⟨⟨by omega, hs⟩, by simpa using hp⟩]
  simp only [Int.toNat_natCast]
/-- A reading's answer, as the program's values. -/
def valR (r : List (Lx.Tok × Nat) × Nat × Nat) : List S33 × Int × Int := (r.1.map tS, (r.2.1 : Int), (r.2.2 : Int))
theorem ref_l0 (s : ByteArray) (hs : s.size ≤ 65536) : ∀ (n pos : Nat) (acc : List (Lx.Tok × Nat)), s.size - pos < n → pos ≤ s.size → ∀ k, n + 2 * s.size + 60 ≤ k →
    retargetref07_Tokens.l0 k s (acc.map tS) ((pos + Lx.skipLen ((L s).drop pos) : Nat) : Int) = some (valR (Lx.run n pos ((L s).drop pos) acc)) := by
  intro n
  induction n with
  | zero => intro pos acc h; omega
  | succ n ih =>
    intro pos acc hn hpos k hk
    obtain ⟨m, rfl⟩ : ∃ m, k = m + 1 := ⟨k - 1, by omega⟩
    obtain ⟨p, hp⟩ : ∃ p, p = pos + Lx.skipLen ((L s).drop pos) := ⟨_, rfl⟩
    rw [← hp]
    simp only [retargetref07_Tokens.l0]
    by_cases hlt : p < s.size
    · rw [if_pos (by omega), Lex.run_at s n pos p acc hp hlt, next_ref s (by omega) p hlt]
      simp only [Option.bind_some]
      cases hx : Lx.next s[p] ((L s).drop (p + 1)) with
      | none =>
        rw [if_neg (by simp [ans6, bad6])]
        rfl
      | some t =>
        have hnx := Lex.next_pos hx
        rw [List.length_drop, L_len] at hnx
        rw [if_pos (by rfl)]
        simp only [ans6, Lex.stepR, List.length_map]
        by_cases h20 : 20000 ≤ acc.length
        · rw [if_pos (by omega), if_pos h20]
          rfl
        · rw [if_neg (by omega), if_neg h20, if_pos (by omega), skip_ref s (by omega) (p + t.written.length) (by omega) m (by omega)]
          simp only [Option.bind_some]
          have := ih (p + t.written.length) (acc ++ [(t, p)]) (by omega) (by omega) m (by omega)
          rw [List.map_append] at this
          exact this
    · rw [if_neg (by omega), Lex.run_end s n pos p acc hp (by omega)]
      rfl
theorem ref_tokens (s : ByteArray) (k : Nat) (hk : 400000 ≤ k) : retargetref07_Tokens.f k s = some (valR (Lx.tokens (L s))) := by
  unfold retargetref07_Tokens.f
  have hl := L_len s
  by_cases h : (s.size : Int) > 65536
  · rw [if_pos h, Lx.tokens, if_pos (by omega)]
    rfl
  · rw [if_neg h, Lx.tokens, if_neg (by omega), show (0 : Int) = ((0 : Nat) : Int) from rfl, skip_ref s (by omega) 0 (by omega) k (by omega)]
    simp only [Option.bind_some]
    have := ref_l0 s (by omega) ((L s).length + 1) 0 [] (by omega) (by omega) k (by omega)
    exact this
theorem tokens_len (l : List UInt8) : (Lx.tokens l).1.length ≤ 20000 := by
  by_cases h : 65536 < l.length
  · rw [Lx.tokens, if_pos h]
    simp
  · obtain ⟨ts, er, hs⟩ := Lx.scan_all 0 l
    rw [Lx.tokens_scan hs (by omega)]
    unfold Lx.lim
    split
    · rename_i hle
      cases er with
      | none => simpa using hle
      | some q => simp
    · simp
theorem LexerTokens : retargetlaw07_LexerTokens.Pure := by
  intro s _
  refine ⟨400000, ?_⟩
  unfold retargetlaw07_LexerTokens.f
  by_cases h : (s.size : Int) > 70000
  · rw [if_pos h]
  · rw [if_neg h, ref_tokens s 400000 (by omega)]
    have hlen := tokens_len (L s)
    have e : lexer_Tokens.f s = some (valR (Lx.tokens (L s))) := rfl
    rw [e]
    simp only [Option.bind_some, valR]
    rw [same_true _ _ true rfl (by simp; omega) (fun i _ _ => ⟨rfl, rfl, rfl, fun _ => rfl⟩) 400000 (by simp; omega)]
    simp
end Go.Proofs.YtbaojlfnbfbjmaaDoor.Pure
