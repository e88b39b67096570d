/- The law of lines, of what Lines answers. Plain: no memory. -/
import Derived.Test.YtbaojlfnbfbjmaaDoorLexGreat
import Derived.Test.YtbaojlfnbfbjmaaDoorLexLines
import Derived.Test.YtbaojlfnbfbjmaaDoorPLex7
namespace Go.Proofs.YtbaojlfnbfbjmaaDoor.Pure
open Go.RowKit Go.Proofs.YtbaojlfnbfbjmaaDoor.PLex Go.Proofs.YtbaojlfnbfbjmaaDoorW.PrintWords Go.Proofs.YtbaojlfnbfbjmaaDoorW.PrintLast Go.Proofs.YtbaojlfnbfbjmaaDoor.Lex
/-- Parts that follow one another, each behind it a line's end. -/
def Ch (l : List S33) : List (Nat × Nat) → Nat → Nat → Prop
  | [], s, e => s = e
  | x :: r, s, e => x.1 = s ∧ s ≤ x.2 ∧ (∃ h : x.2 < l.length, l[x.2].f0 = 5) ∧ (∀ j (h : j < l.length), s ≤ j → j < x.2 → l[j].f0 ≠ 5) ∧ Ch l r (x.2 + 1) e
theorem Ch.snoc {l : List S33} {b : Nat} (hb : b < l.length) (h5 : l[b].f0 = 5) : ∀ {L : List (Nat × Nat)} {s e : Nat}, Ch l L s e → e ≤ b → (∀ j (h : j < l.length), e ≤ j → j < b → l[j].f0 ≠ 5) → Ch l (L ++ [(e, b)]) s (b + 1)
  | [], s, e, h, he, hno => by
    have h : s = e := h
    subst h
    exact ⟨rfl, he, ⟨hb, h5⟩, hno, rfl⟩
  | x :: r, s, e, ⟨h1, h2, h3, h4, h5'⟩, he, hno => ⟨h1, h2, h3, h4, Ch.snoc hb h5 h5' he hno⟩
theorem cut_ch (l : List S33) : ∀ k, k ≤ l.length → Ch l (cutSt l k).1 0 (cutSt l k).2 ∧ (∀ j (h : j < l.length), (cutSt l k).2 ≤ j → j < k → l[j].f0 ≠ 5)
  | 0, _ => ⟨rfl, fun j h h0 h1 => by omega⟩
  | k + 1, hk => by
    obtain ⟨h1, h2⟩ := cut_ch l k (by omega)
    have hle := (cutSt_le l k).1
    have hg : (l.getD k ⟨0, ⟨#[]⟩, 0, 0⟩) = l[k] := by simp [show k < l.length by omega]
    rw [cutSt, hg]
    by_cases h5 : l[k].f0 = 5
    · rw [if_pos h5]
      exact ⟨Ch.snoc (by omega) h5 h1 hle h2, fun j h h0 h1 => by dsimp only at h0; omega⟩
    · rw [if_neg h5]
      refine ⟨h1, fun j h h0 h1 => ?_⟩
      by_cases hj : j = k
      · subst hj
        exact h5
      · exact h2 j h h0 (by omega)
theorem rd_part (l : List S33) (a b p : Nat) (hp : a ≤ p) (hb : p < b) (hl : b ≤ l.length) : rd_T33 (Lex.part l (a, b)) ((p : Int) - (a : Int)) = l[p] := by
  have h : p - a < (Lex.part l (a, b)).length := by rw [part_len l a b hl]; omega
  rw [show ((p : Int) - (a : Int)) = ((p - a : Nat) : Int) by omega, rd_nat _ _ h]
  simp only [Lex.part, List.getElem_take, List.getElem_drop]
  congr 1
  omega
/-- Within a line. -/
theorem lines_l1 (l : List S33) (hn : l.length ≤ 100000) (x4 : List (List S33)) (i : Nat) (hi : i < x4.length) (hi2 : x4.length ≤ 100002) (a b : Nat) (hab : a ≤ b) (hb : b ≤ l.length) (hx : x4[i] = Lex.part l (a, b)) (hno : ∀ j (h : j < l.length), a ≤ j → j < b → l[j].f0 ≠ 5) :
    ∀ (d p : Nat), a ≤ p → p + d = b → ∀ k, retargetlaw07_LexerLines.l1 (k + d + 1) l true x4 (p : Int) (i : Int) ((p : Int) - (a : Int)) = retargetlaw07_LexerLines.l0 k l true x4 (b : Int) ((i + 1 : Nat) : Int) := by
  have hrd : rd_L4 x4 (i : Int) = Lex.part l (a, b) := by simp [rd_L4, hi, hx]
  intro d
  induction d with
  | zero =>
    intro p hp hd k
    have hpb : p = b := by omega
    subst hpb
    rw [Nat.add_zero]
    rw [retargetlaw07_LexerLines.l1, if_pos (by omega), if_pos (by omega), hrd, part_len l a p hb, if_neg (by omega), w64n i (by omega)]
  | succ d ih =>
    intro p hp hd k
    have hpl : p < l.length := by omega
    rw [show k + (d + 1) + 1 = (k + d + 1) + 1 by omega]
    rw [retargetlaw07_LexerLines.l1, if_pos (by omega), if_pos (by omega), hrd, part_len l a b hb, if_pos (by omega), if_neg (by omega), if_pos (by omega), if_pos (by omega), if_pos (by omega), rd_part l a b p hp (by omega) hb, rd_nat l p hpl, if_neg (by simp), if_neg (hno p hpl hp (by omega)), w64n p (by omega),
      show wrap64 ((p : Int) - (a : Int) + 1) = ((p + 1 : Nat) : Int) - (a : Int) by rw [w64 (by omega) (by omega)]; omega]
    exact ih (p + 1) (by omega) (by omega) k
/-- A line behind another: its end is read first. -/
theorem lines_step (l : List S33) (hn : l.length ≤ 100000) (x4 : List (List S33)) (i : Nat) (hi : i < x4.length) (hi2 : x4.length ≤ 100002) (a b : Nat) (hab : a ≤ b) (hb : b ≤ l.length) (hx : x4[i] = Lex.part l (a, b)) (hno : ∀ j (h : j < l.length), a ≤ j → j < b → l[j].f0 ≠ 5)
    (q : Nat) (hq : (i = 0 ∧ q = a) ∨ (0 < i ∧ q + 1 = a ∧ ∃ h : q < l.length, l[q].f0 = 5)) (k : Nat) :
    retargetlaw07_LexerLines.l0 (k + (b - a) + 3) l true x4 (q : Int) (i : Int) = retargetlaw07_LexerLines.l0 k l true x4 (b : Int) ((i + 1 : Nat) : Int) := by
  have h1 := lines_l1 l hn x4 i hi hi2 a b hab hb hx hno (b - a) a (Nat.le_refl _) (by omega) k
  rw [show k + (b - a) + 3 = ((k + (b - a) + 1) + 1) + 1 by omega]
  rw [retargetlaw07_LexerLines.l0, if_pos (by omega)]
  rw [Int.sub_self] at h1
  rcases hq with ⟨rfl, rfl⟩ | ⟨h0, rfl, hql, h5⟩
  · rw [if_neg (by omega)]
    simp only [retargetlaw07_LexerLines.j2]
    exact h1
  · rw [if_pos (by omega), if_neg (by omega), if_pos (by omega), if_pos (by omega), rd_nat l q hql, if_pos h5, w64n q (by omega)]
    simp only [retargetlaw07_LexerLines.j2]
    exact h1
theorem lines_loop (l : List S33) (hn : l.length ≤ 100000) (x4 : List (List S33)) (hi2 : x4.length ≤ 100002) (fr : Nat) (hfr : fr ≤ l.length) (hno : ∀ j (h : j < l.length), fr ≤ j → j < l.length → l[j].f0 ≠ 5) :
    ∀ (L : List (Nat × Nat)) (s i q : Nat), Ch l L s fr → s ≤ l.length → x4.drop i = (L ++ [(fr, l.length)]).map (Lex.part l) → ((i = 0 ∧ q = s) ∨ (0 < i ∧ q + 1 = s ∧ ∃ h : q < l.length, l[q].f0 = 5)) →
      ∀ k, 4 * (L.length + 1) + (l.length - s) ≤ k → retargetlaw07_LexerLines.l0 k l true x4 (q : Int) (i : Int) = some true
  | [], s, i, q, hc, hs, hd, hq, k, hk => by
    have hc : s = fr := hc
    subst hc
    have hlen : x4.length - i = 1 := by have := congrArg List.length hd; simpa using this
    have hi : i < x4.length := by omega
    have hx : x4[i] = Lex.part l (s, l.length) := by
      rw [List.drop_eq_getElem_cons hi] at hd
      exact (List.cons.inj hd).1
    obtain ⟨m, rfl⟩ : ∃ m, k = (m + 1) + (l.length - s) + 3 := ⟨k - 4 - (l.length - s), by simp only [List.length_nil] at hk; omega⟩
    rw [lines_step l hn x4 i hi hi2 s l.length hfr (Nat.le_refl _) hx hno q hq (m + 1)]
    rw [retargetlaw07_LexerLines.l0, if_neg (by omega), if_pos rfl, if_pos rfl, decide_eq_true (by omega)]
  | x :: r, s, i, q, ⟨h1, h2, ⟨h3, h5⟩, h4, hr⟩, hs, hd, hq, k, hk => by
    obtain ⟨a, b⟩ := x
    dsimp only at h1 h2 h3 h4 h5 hr
    subst h1
    have hlen : x4.length - i = r.length + 2 := by have := congrArg List.length hd; simpa using this
    have hi : i < x4.length := by omega
    rw [List.drop_eq_getElem_cons hi] at hd
    rw [List.cons_append, List.map_cons] at hd
    obtain ⟨hx, hd'⟩ := List.cons.inj hd
    rw [List.length_cons] at hk
    obtain ⟨m, rfl⟩ : ∃ m, k = m + (b - a) + 3 := ⟨k - 3 - (b - a), by omega⟩
    rw [lines_step l hn x4 i hi hi2 a b h2 (by omega) hx h4 q hq m]
    exact lines_loop l hn x4 hi2 fr hfr hno r (b + 1) (i + 1) b hr (by omega) hd' (.inr ⟨by omega, rfl, h3, h5⟩) m (by omega)
theorem LexerLines : retargetlaw07_LexerLines.Pure := by
  intro l0 _
  obtain ⟨K, hK⟩ : ∃ K, K = 1000000 := ⟨_, rfl⟩
  refine ⟨K + 3, ?_⟩
  unfold retargetlaw07_LexerLines.f
  rw [alive_true _ (by omega)]
  simp only [Option.bind_some]
  rcases Gr.great_f l0 (K + 3) (by omega) with hg | ⟨hg, hlen, _⟩
  · rw [hg]
    simp only [Option.bind_some, if_true, retargetlaw07_LexerLines.j0]
  · rw [hg]
    simp only [Option.bind_some, Bool.false_eq_true, if_false, Bool.not_true]
    simp only [retargetlaw07_LexerLines.j0, Bool.false_eq_true, if_false]
    unfold lexer_Lines.f
    rw [if_pos (by omega)]
    simp only [Option.bind_some]
    obtain ⟨hc, hno⟩ := cut_ch l0 l0.length (Nat.le_refl _)
    have hle := cutSt_le l0 l0.length
    exact lines_loop l0 (by omega) _ (by simp [cutAll]; omega) _ hle.1 (fun j h h0 h1 => hno j h h0 h1) (cutSt l0 l0.length).1 0 0 0 hc (by omega) rfl (.inl ⟨rfl, rfl⟩) (K + 2) (by omega)
end Go.Proofs.YtbaojlfnbfbjmaaDoor.Pure
