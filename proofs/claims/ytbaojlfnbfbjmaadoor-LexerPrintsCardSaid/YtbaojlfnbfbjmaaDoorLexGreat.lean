/- The guard on a row of tokens, plain. -/
import Derived.Test.YtbaojlfnbfbjmaaDoorLexPure
import Derived.Test.YtbaojlfnbfbjmaaDoorPLex1
namespace Go.Proofs.YtbaojlfnbfbjmaaDoor.Gr
open Go.RowKit Go.Proofs.YtbaojlfnbfbjmaaDoor.PLex Go.Proofs.YtbaojlfnbfbjmaaDoorW.PrintWords Go.Proofs.YtbaojlfnbfbjmaaDoorW.PrintLast Go.Proofs.YtbaojlfnbfbjmaaDoor.Lex Go.Proofs.YtbaojlfnbfbjmaaDoor.Pure
def sumM : List S33 → Nat
  | [] => 0
  | t :: r => min t.f1.size 100000 + sumM r
theorem sumM_le : ∀ l : List S33, sumM l ≤ 100000 * l.length
  | [] => by simp [sumM]
  | t :: r => by
    have := sumM_le r
    unfold sumM
    rw [List.length_cons]
    omega
theorem sumM_mem : ∀ (l : List S33), ∀ t ∈ l, min t.f1.size 100000 ≤ sumM l
  | t :: r, x, hx => by
    unfold sumM
    rcases List.mem_cons.1 hx with rfl | hx
    · omega
    · have := sumM_mem r x hx
      omega
theorem great_l0 (l : List S33) (hn : l.length ≤ 20100) : ∀ (d i : Nat), i + d = l.length → ∀ (a : Nat), a ≤ 100000 * i → ∀ k, d + 1 ≤ k → retargetref07_Great.l0 k l (a : Int) (i : Int) = some (decide (((a + sumM (l.drop i) : Nat) : Int) > 70000)) := by
  intro d
  induction d with
  | zero =>
    intro i hi a ha k hk
    match k, hk with
    | k + 1, _ =>
      simp only [retargetref07_Great.l0]
      rw [if_neg (by omega), List.drop_eq_nil_of_le (by omega)]
      simp [sumM]
  | succ d ih =>
    intro i hi a ha k hk
    match k, hk with
    | k + 1, hk =>
      have hi' : i < l.length := by omega
      simp only [retargetref07_Great.l0]
      rw [if_pos (by omega), if_pos (by omega), rd_nat l i hi', w64n i (by omega)]
      have e : wrap64 ((a : Int) + mn ((l[i].f1.size : Nat) : Int) 100000) = ((a + min l[i].f1.size 100000 : Nat) : Int) := by
        unfold mn
        rw [Pure.w64 (by split <;> omega) (by split <;> omega)]
        split <;> omega
      rw [e, ih (i + 1) (by omega) _ (by omega) k (by omega), List.drop_eq_getElem_cons hi', sumM]
      congr 2
      rw [Nat.add_assoc]
theorem great_f (l : List S33) (k : Nat) (hk : 20200 ≤ k) : retargetref07_Great.f k l = some true ∨ (retargetref07_Great.f k l = some false ∧ l.length ≤ 20100 ∧ ∀ t ∈ l, t.f1.size ≤ 70000) := by
  unfold retargetref07_Great.f
  by_cases h : (l.length : Int) > 20100
  · rw [if_pos h]
    exact .inl rfl
  · rw [if_neg h]
    have := great_l0 l (by omega) l.length 0 (by omega) 0 (by omega) k (by omega)
    rw [show ((0 : Nat) : Int) = 0 from rfl] at this
    rw [this, List.drop_zero, Nat.zero_add]
    by_cases hs : ((sumM l : Nat) : Int) > 70000
    · exact .inl (by rw [decide_eq_true hs])
    · refine .inr ⟨by rw [decide_eq_false hs], by omega, fun t ht => ?_⟩
      have := sumM_mem l t ht
      omega
end Go.Proofs.YtbaojlfnbfbjmaaDoor.Gr
