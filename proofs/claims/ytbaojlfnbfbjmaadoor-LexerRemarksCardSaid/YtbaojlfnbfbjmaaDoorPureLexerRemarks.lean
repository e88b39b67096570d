/- The law of remarks, of what Tokens answers. Plain: no memory. -/
import Derived.Test.YtbaojlfnbfbjmaaDoorLexPure
import Derived.Test.YtbaojlfnbfbjmaaDoorPLex6
namespace Go.Proofs.YtbaojlfnbfbjmaaDoor.Pure
open Go.RowKit Go.Proofs.YtbaojlfnbfbjmaaDoor.PLex Go.Proofs.YtbaojlfnbfbjmaaDoorW.PrintWords Go.Proofs.YtbaojlfnbfbjmaaDoorW.PrintLast Go.Proofs.YtbaojlfnbfbjmaaDoor.Lex
theorem remarks_end (a0 a1 : ByteArray) {ts : List (Lx.Tok × Nat)} (h0 : a0.size ≤ 30000) (h1 : a1.size ≤ 30000) (h : Lx.Scan 0 (L a0) ts none) (hn : ts.length ≤ 20000) (hno : ∀ x ∈ L a1, x ≠ 10) (k : Nat) (hk : ts.length + 2 ≤ k) :
    retargetlaw07_LexerRemarks.l0 k a0 a1 true (ts.map tS) (a1.size : Int) = some true := by
  match k, hk with
  | k + 1, hk =>
    unfold retargetlaw07_LexerRemarks.l0
    have e1 : ((⟨#[32, 32]⟩ : ByteArray) ++ a0).size = 2 + a0.size := by rw [ByteArray.size_append]; rfl
    have e2 : (((⟨#[32, 32]⟩ : ByteArray) ++ a0) ++ (⟨#[32, 35]⟩ : ByteArray)).size = 2 + a0.size + 2 := by rw [ByteArray.size_append, e1]; rfl
    have e3 : ((((⟨#[32, 32]⟩ : ByteArray) ++ a0) ++ (⟨#[32, 35]⟩ : ByteArray)) ++ a1).size = 2 + a0.size + 2 + a1.size := by rw [ByteArray.size_append, e2]
    rw [if_neg (by omega), if_pos (by omega), if_pos (by omega), if_pos (by omega)]
    have hL : L ((((⟨#[32, 32]⟩ : ByteArray) ++ a0) ++ (⟨#[32, 35]⟩ : ByteArray)) ++ a1) = 32 :: 32 :: (L a0 ++ 32 :: 35 :: L a1) := by
      rw [L_append, L_append, L_append]
      show ([32, 32] ++ L a0) ++ [32, 35] ++ L a1 = _
      simp
    have hs := (((h.remark (L a1) hno).move 2).space (p := 1)).space (p := 0)
    rw [← hL] at hs
    rw [tokens_ok _ hs (by omega) (by simpa [Lx.shift] using hn)]
    simp only [Option.bind_some, if_true]
    rw [same_true _ _ false (by simp [Lx.shift]) (by simp; omega) ?_ k (by simp; omega)]
    · rfl
    · intro i hi0 hi1
      simp [Lx.shift, tS]
theorem remarks_loop (a0 a1 : ByteArray) {ts : List (Lx.Tok × Nat)} (h0 : a0.size ≤ 30000) (h1 : a1.size ≤ 30000) (h : Lx.Scan 0 (L a0) ts none) (hn : ts.length ≤ 20000) :
    ∀ (d i : Nat), i + d = a1.size → (∀ j (hj : j < a1.size), j < i → a1[j] ≠ 10) → ∀ k, d + ts.length + 2 ≤ k → retargetlaw07_LexerRemarks.l0 k a0 a1 true (ts.map tS) (i : Int) = some true := by
  intro d
  induction d with
  | zero =>
    intro i hi hb k hk
    obtain rfl : i = a1.size := by omega
    refine remarks_end a0 a1 h0 h1 h hn ?_ k (by omega)
    intro x hx
    obtain ⟨j, hj, rfl⟩ := List.mem_iff_getElem.1 hx
    have hj' : j < a1.size := by simpa [L] using hj
    have := hb j hj' hj'
    exact fun e => this ((show a1[j] = a1.data[j] from rfl).trans (by simpa [L] using e))
  | succ d ih =>
    intro i hi hb k hk
    match k, hk with
    | k + 1, hk =>
      have hi' : i < a1.size := by omega
      unfold retargetlaw07_LexerRemarks.l0
      rw [if_pos (by omega), if_pos (by omega), bt_nat a1 i hi', w64n i (by omega)]
      by_cases h10 : a1[i] = 10
      · rw [if_pos (by rw [h10]; rfl)]
      · have hne : ¬ ((a1[i].toNat : Nat) : Int) = 10 := by
          intro e
          apply h10
          apply UInt8.toNat_inj.1
          have : (a1[i]).toNat = 10 := by omega
          rw [this]
          rfl
        rw [if_neg hne]
        refine ih (i + 1) (by omega) ?_ k (by omega)
        intro j hj hlt
        by_cases hji : j < i
        · exact hb j hj hji
        · obtain rfl : j = i := by omega
          exact h10
theorem LexerRemarks : retargetlaw07_LexerRemarks.Pure := by
  intro a0 a1 _ _
  obtain ⟨ts, er, h⟩ := Lx.scan_all 0 (L a0)
  obtain ⟨m, hm⟩ : ∃ m, m = 13 + a1.size + ts.length := ⟨_, rfl⟩
  refine ⟨m + 1, ?_⟩
  unfold retargetlaw07_LexerRemarks.f
  rw [alive_true _ (by omega)]
  simp only [Option.bind_some]
  have stop : retargetlaw07_LexerRemarks.j0 (m + 1) a0 a1 true true = some true := by
    simp only [retargetlaw07_LexerRemarks.j0, if_true]
  by_cases h0 : (a0.size : Int) > 30000
  · rw [if_pos h0]
    exact stop
  · rw [if_neg h0]
    by_cases h1 : (a1.size : Int) > 30000
    · rw [if_pos h1]
      exact stop
    · rw [if_neg h1]
      simp only [retargetlaw07_LexerRemarks.j0, Bool.not_true, Bool.false_eq_true, if_false]
      by_cases hn : ts.length ≤ 20000
      · cases er with
        | none =>
          rw [tokens_ok a0 h (by omega) hn]
          simp only [Option.bind_some]
          rw [if_pos trivial]
          exact remarks_loop a0 a1 (by omega) (by omega) h hn a1.size 0 (by omega) (fun j _ hj => absurd hj (by omega)) _ (by omega)
        | some q =>
          rw [tokens_bad a0 h (by omega) hn]
          simp only [Option.bind_some]
          rw [if_neg (by decide)]
      · obtain ⟨q, e⟩ := tokens_many a0 h (by omega) (by omega)
        rw [e]
        simp only [Option.bind_some]
        rw [if_neg (by decide)]
end Go.Proofs.YtbaojlfnbfbjmaaDoor.Pure
