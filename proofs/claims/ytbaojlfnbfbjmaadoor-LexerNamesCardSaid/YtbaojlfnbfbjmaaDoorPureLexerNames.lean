/- What the examples of the law of names answer. Plain: no memory. -/
import Derived.Test.YtbaojlfnbfbjmaaDoorLexPure
import Derived.Test.YtbaojlfnbfbjmaaDoorLexPrint
import Derived.Test.YtbaojlfnbfbjmaaDoorLexLines
import Derived.Test.YtbaojlfnbfbjmaaDoorPLex3
namespace Go.Proofs.YtbaojlfnbfbjmaaDoor.Pure
open Go.RowKit Go.Proofs.YtbaojlfnbfbjmaaDoor.PLex Go.Proofs.YtbaojlfnbfbjmaaDoorW.PrintWords Go.Proofs.YtbaojlfnbfbjmaaDoorW.PrintLast Go.Proofs.YtbaojlfnbfbjmaaDoor.Lex
theorem many_l0 (n : Nat) (hn : n < 1000000) : ∀ (d i : Nat), i + d = n → ∀ k, d + 1 ≤ k → retargetlaw07_many.l0 k (n : Int) (List.replicate i 44 ++ List.replicate d 0) (i : Int) = some (strOfNums (List.replicate n 44)) := by
  intro d
  induction d with
  | zero =>
    intro i hi k hk
    have hi : i = n := by omega
    subst hi
    match k, hk with
    | k + 1, _ =>
      simp only [retargetlaw07_many.l0]
      rw [if_neg (by omega)]
      simp
  | succ d ih =>
    intro i hi k hk
    match k, hk with
    | k + 1, hk =>
      simp only [retargetlaw07_many.l0]
      rw [if_pos (by omega), if_pos (by omega), if_pos (by simp; omega), w64n i (by omega)]
      have e : (List.replicate i (44 : Int) ++ List.replicate (d + 1) 0).set (i : Int).toNat 44 = List.replicate (i + 1) 44 ++ List.replicate d 0 := by
        rw [Int.toNat_natCast, List.set_append_right _ _ (by simp), List.length_replicate, Nat.sub_self, List.replicate_succ (n := d), List.set_cons_zero, List.replicate_succ' (n := i), List.append_assoc]
        rfl
      rw [e]
      exact ih (i + 1) (by omega) k (by omega)
def str (n : Nat) (c : UInt8) : ByteArray := BA (List.replicate n c)
theorem strOf_rep (n : Nat) (c : UInt8) : strOfNums (List.replicate n (c.toNat : Int)) = str n c := by
  unfold strOfNums str BA
  apply ByteArray.ext
  apply Array.toList_inj.1
  simp
theorem many_f (n : Nat) (hn : n < 1000000) (k : Nat) (hk : n + 1 ≤ k) : retargetlaw07_many.f k (n : Int) = some (str n 44) := by
  unfold retargetlaw07_many.f
  rw [if_pos (by omega), if_pos (by omega)]
  have := many_l0 n hn n 0 (by omega) k hk
  rw [List.replicate_zero, List.nil_append] at this
  rw [Int.toNat_natCast]
  exact this.trans (congrArg some (strOf_rep n 44))
theorem scan_commas : ∀ (n p : Nat), ∃ ts, Lx.Scan p (List.replicate n 44) ts none ∧ ts.length = n ∧ ∀ i (h : i < ts.length), ts[i].2 = p + i
  | 0, p => ⟨[], .fin rfl, rfl, fun i h => by cases h⟩
  | n + 1, p => by
    obtain ⟨ts, h1, h2, h3⟩ := scan_commas n (p + 1)
    have hs : Lx.skipLen (List.replicate (n + 1) (44 : UInt8)) = 0 := by
      rw [List.replicate_succ]
      exact Lex.skipLen_other _ (by decide) (by decide)
    have := Lx.Scan.tok (p := p) (l := List.replicate (n + 1) 44) (t := List.replicate n 44) (c := 44) (k := ⟨4, [44], 0⟩) (ts := ts) (er := none) (by rw [hs, List.drop_zero, List.replicate_succ]) rfl (by
      rw [hs]
      exact h1)
    refine ⟨_, this, by simp [h2], ?_⟩
    intro i h
    cases i with
    | zero => simp [hs]
    | succ i =>
      have := h3 i (by simpa using h)
      simp only [List.getElem_cons_succ]
      omega
theorem L_str (n : Nat) (c : UInt8) : L (str n c) = List.replicate n c := rfl
theorem size_str (n : Nat) (c : UInt8) : (str n c).size = n := by
  have : (L (str n c)).length = (str n c).size := by simp [L]
  rw [← this, L_str, List.length_replicate]
theorem tokens_full : ∃ xs, lexer_Tokens.f (str 20000 44) = some (xs, 0, 0) ∧ xs.length = 20000 := by
  obtain ⟨ts, h1, h2, _⟩ := scan_commas 20000 0
  refine ⟨_, tokens_ok (str 20000 44) (by rw [L_str]; exact h1) (by rw [size_str]; omega) (by omega), by rw [List.length_map, h2]⟩
theorem tokens_over : lexer_Tokens.f (str 20001 44) = some ([], 20000, 4) := by
  obtain ⟨ts, h1, h2, h3⟩ := scan_commas 20001 0
  rw [tokens_f (str 20001 44) (by rw [L_str]; exact h1) (by rw [size_str]; omega)]
  unfold Lx.lim
  rw [if_neg (by simp; omega)]
  have e : (ts.drop (20000 - ([] : List (Lx.Tok × Nat)).length)).head? = some ts[20000] := by
    rw [List.length_nil, Nat.sub_zero, List.head?_drop, List.getElem?_eq_getElem (by omega)]
  simp only [e, Option.map_some, Option.getD_some, h3 20000 (by omega)]
  rfl
theorem tokens_long : lexer_Tokens.f (str 65537 44) = some ([], 0, 4) := by
  unfold lexer_Tokens.f
  rw [Lx.tokens, if_pos (by rw [L_str, List.length_replicate]; omega)]
  rfl
theorem skip_blank : ∀ n, Lx.skipLen (List.replicate n 32) = n
  | 0 => rfl
  | n + 1 => by rw [List.replicate_succ, Lex.skipLen_space, skip_blank n]
theorem tokens_blank : lexer_Tokens.f (str 65536 32) = some ([], 0, 0) := by
  refine tokens_ok (str 65536 32) (ts := []) ?_ (by rw [size_str]; omega) (by simp)
  rw [L_str]
  refine .fin ?_
  rw [skip_blank, List.drop_eq_nil_of_le (by rw [List.length_replicate]; exact Nat.le_refl _)]
theorem rep_of (bs : List Int) (n : Nat) (hl : bs.length = n) (h : ∀ j (hj : j < bs.length), bs[j] = 32) : strOfNums bs = str n 32 := by
  rw [← strOf_rep]
  congr 1
  refine List.eq_replicate_iff.2 ⟨hl, fun b hb => ?_⟩
  obtain ⟨j, hj, rfl⟩ := List.mem_iff_getElem.1 hb
  exact h j hj
theorem print_over : lexer_Print.f (List.replicate 20001 zS) = some (⟨#[]⟩, 4) := by
  unfold lexer_Print.f
  rw [if_pos (List.all_eq_true.2 fun t ht => by
    obtain rfl := List.eq_of_mem_replicate ht
    decide), if_pos (by rw [List.length_replicate]; omega)]
theorem LexerNames : True := trivial
end Go.Proofs.YtbaojlfnbfbjmaaDoor.Pure
