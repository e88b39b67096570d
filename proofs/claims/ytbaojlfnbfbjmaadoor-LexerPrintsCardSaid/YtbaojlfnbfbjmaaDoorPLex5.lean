-- written by printx.py (this session's program over the kit's print)
import Derived.Test.YtbaojlfnbfbjmaaDoorPLex0
import Derived.Test.YtbaojlfnbfbjmaaDoorPLex2
import Derived.Test.YtbaojlfnbfbjmaaDoorPLex4
namespace Go.Proofs.YtbaojlfnbfbjmaaDoor.PLex
open Go.RowKit Go.Proofs.YtbaojlfnbfbjmaaDoorW.PrintWords Go.Proofs.YtbaojlfnbfbjmaaDoorW.PrintLast Go.Proofs.YtbaojlfnbfbjmaaDoorW.PrintMore
attribute [local go_sem] max2_int min2_int max_two min_two max_three min_three max_four min_four   -- for this text's walks alone
set_option linter.unusedVariables false
set_option linter.unusedSimpArgs false

/-! ### retargetref07_Number: function 51 -/
mutual
def retargetref07_Number.j0 : Nat → ByteArray → Bool → Option (Int × Bool)
  | 0, _, _ => none
  | k + 1, x0, x17 => if x17 = true then (if 2 ≤ (x0.size : Int) then (if ((x0.extract 2 x0.size).size : Int) > 15 then (retargetref07_Number.j1 k (x0.extract 2 x0.size) true) else (if ((x0.extract 2 x0.size).size : Int) > 1 then (if 0 < ((x0.extract 2 x0.size).size : Int) then (retargetref07_Number.j1 k (x0.extract 2 x0.size) ((bt (x0.extract 2 x0.size) 0) == 48)) else (none)) else (retargetref07_Number.j1 k (x0.extract 2 x0.size) false))) else (none)) else (if (x0.size : Int) > 0 then (if 0 < (x0.size : Int) then (retargetref07_Number.j3 k x0 1 ((bt x0 0) == 45)) else (none)) else (retargetref07_Number.j3 k x0 1 false))
def retargetref07_Number.j1 : Nat → ByteArray → Bool → Option (Int × Bool)
  | 0, _, _ => none
  | k + 1, x0, x32 => if x32 = true then (some (0, false)) else (retargetref07_Number.l0 k x0 0 0)
def retargetref07_Number.l0 : Nat → ByteArray → Int → Int → Option (Int × Bool)
  | 0, _, _, _ => none
  | k + 1, x0, x4, x5 => if x5 < (x0.size : Int) then (if 0 ≤ x5 then ((retargetref07_hexadecimal.f (bt x0 x5)).bind fun t113 => (if t113 < 0 then (some (0, false)) else (retargetref07_Number.l0 k x0 (wrap64 ((wrap64 (16 * x4)) + t113)) (wrap64 (x5 + 1))))) else (none)) else (some (x4, true))
def retargetref07_Number.j3 : Nat → ByteArray → Int → Bool → Option (Int × Bool)
  | 0, _, _, _ => none
  | k + 1, x0, x7, x57 => if x57 = true then (if 1 ≤ (x0.size : Int) then (if ((x0.extract 1 x0.size).size : Int) < 1 then (some (0, false)) else (if 0 < ((x0.extract 1 x0.size).size : Int) then (if (bt (x0.extract 1 x0.size) 0) = 48 then (some (0, false)) else (retargetref07_Number.j4 k (x0.extract 1 x0.size) (-1))) else (none))) else (none)) else (retargetref07_Number.j4 k x0 x7)
def retargetref07_Number.j4 : Nat → ByteArray → Int → Option (Int × Bool)
  | 0, _, _ => none
  | k + 1, x0, x7 => if (x0.size : Int) < 1 then (retargetref07_Number.j5 k x0 x7 true) else (if (x0.size : Int) > 18 then (retargetref07_Number.j5 k x0 x7 true) else (if (x0.size : Int) > 1 then (if 0 < (x0.size : Int) then (retargetref07_Number.j5 k x0 x7 ((bt x0 0) == 48)) else (none)) else (retargetref07_Number.j5 k x0 x7 false)))
def retargetref07_Number.j5 : Nat → ByteArray → Int → Bool → Option (Int × Bool)
  | 0, _, _, _ => none
  | k + 1, x0, x7, x85 => if x85 = true then (some (0, false)) else (retargetref07_Number.l1 k x0 x7 0 0)
def retargetref07_Number.l1 : Nat → ByteArray → Int → Int → Int → Option (Int × Bool)
  | 0, _, _, _, _ => none
  | k + 1, x0, x7, x8, x9 => if x9 < (x0.size : Int) then (if 0 ≤ x9 then ((retargetref07_digit.f (bt x0 x9)).bind fun t114 => (if t114 = true then (retargetref07_Number.l1 k x0 x7 (wrap64 ((wrap64 (10 * x8)) + (((bt x0 x9) - 48) % 256))) (wrap64 (x9 + 1))) else (some (0, false)))) else (none)) else (some (wrap64 (x7 * x8), true))
end
def retargetref07_Number.f (k : Nat) (a0 : ByteArray) : Option (Int × Bool) := if (a0.size : Int) > 2 then (if 0 ≤ 2 then (if 2 ≤ (a0.size : Int) then (retargetref07_Number.j0 k a0 ((a0.extract 0 2).toList == ([48, 120] : List UInt8))) else (none)) else (none)) else (retargetref07_Number.j0 k a0 false)
theorem retargetref07_Number.mono_l : ∀ k, (∀ y0 y1, LeO (retargetref07_Number.j0 k y0 y1) (retargetref07_Number.j0 (k + 1) y0 y1)) ∧ (∀ y0 y1, LeO (retargetref07_Number.j1 k y0 y1) (retargetref07_Number.j1 (k + 1) y0 y1)) ∧ (∀ y0 y1 y2, LeO (retargetref07_Number.l0 k y0 y1 y2) (retargetref07_Number.l0 (k + 1) y0 y1 y2)) ∧ (∀ y0 y1 y2, LeO (retargetref07_Number.j3 k y0 y1 y2) (retargetref07_Number.j3 (k + 1) y0 y1 y2)) ∧ (∀ y0 y1, LeO (retargetref07_Number.j4 k y0 y1) (retargetref07_Number.j4 (k + 1) y0 y1)) ∧ (∀ y0 y1 y2, LeO (retargetref07_Number.j5 k y0 y1 y2) (retargetref07_Number.j5 (k + 1) y0 y1 y2)) ∧ (∀ y0 y1 y2 y3, LeO (retargetref07_Number.l1 k y0 y1 y2 y3) (retargetref07_Number.l1 (k + 1) y0 y1 y2 y3))
  | 0 => ⟨fun _ _ r h => by simp [retargetref07_Number.j0] at h, fun _ _ r h => by simp [retargetref07_Number.j1] at h, fun _ _ _ r h => by simp [retargetref07_Number.l0] at h, fun _ _ _ r h => by simp [retargetref07_Number.j3] at h, fun _ _ r h => by simp [retargetref07_Number.j4] at h, fun _ _ _ r h => by simp [retargetref07_Number.j5] at h, fun _ _ _ _ r h => by simp [retargetref07_Number.l1] at h⟩
  | k + 1 => by
    obtain ⟨ih0, ih1, ih2, ih3, ih4, ih5, ih6⟩ := retargetref07_Number.mono_l k
    refine ⟨?_, ?_, ?_, ?_, ?_, ?_, ?_⟩
    · intro y0 y1
      unfold retargetref07_Number.j0
      repeat' first
      | (with_reducible exact ih0 _ _)
      | (with_reducible exact ih1 _ _)
      | (with_reducible exact ih2 _ _ _)
      | (with_reducible exact ih3 _ _ _)
      | (with_reducible exact ih4 _ _)
      | (with_reducible exact ih5 _ _ _)
      | (with_reducible exact ih6 _ _ _ _)
      | (with_reducible exact LeO.refl _)
      | (with_reducible exact LeO.none _)
      | (with_reducible refine LeO.ite ?_ ?_)
      | (with_reducible refine LeO.bind ?_ (fun _ => ?_))
      | exact ih0 _ _
      | exact ih1 _ _
      | exact ih2 _ _ _
      | exact ih3 _ _ _
      | exact ih4 _ _
      | exact ih5 _ _ _
      | exact ih6 _ _ _ _
      | exact LeO.none _
      | refine LeO.ite ?_ ?_
      | refine LeO.bind ?_ (fun _ => ?_)
    · intro y0 y1
      unfold retargetref07_Number.j1
      repeat' first
      | (with_reducible exact ih0 _ _)
      | (with_reducible exact ih1 _ _)
      | (with_reducible exact ih2 _ _ _)
      | (with_reducible exact ih3 _ _ _)
      | (with_reducible exact ih4 _ _)
      | (with_reducible exact ih5 _ _ _)
      | (with_reducible exact ih6 _ _ _ _)
      | (with_reducible exact LeO.refl _)
      | (with_reducible exact LeO.none _)
      | (with_reducible refine LeO.ite ?_ ?_)
      | (with_reducible refine LeO.bind ?_ (fun _ => ?_))
      | exact ih0 _ _
      | exact ih1 _ _
      | exact ih2 _ _ _
      | exact ih3 _ _ _
      | exact ih4 _ _
      | exact ih5 _ _ _
      | exact ih6 _ _ _ _
      | exact LeO.none _
      | refine LeO.ite ?_ ?_
      | refine LeO.bind ?_ (fun _ => ?_)
    · intro y0 y1 y2
      unfold retargetref07_Number.l0
      repeat' first
      | (with_reducible exact ih0 _ _)
      | (with_reducible exact ih1 _ _)
      | (with_reducible exact ih2 _ _ _)
      | (with_reducible exact ih3 _ _ _)
      | (with_reducible exact ih4 _ _)
      | (with_reducible exact ih5 _ _ _)
      | (with_reducible exact ih6 _ _ _ _)
      | (with_reducible exact LeO.refl _)
      | (with_reducible exact LeO.none _)
      | (with_reducible refine LeO.ite ?_ ?_)
      | (with_reducible refine LeO.bind ?_ (fun _ => ?_))
      | exact ih0 _ _
      | exact ih1 _ _
      | exact ih2 _ _ _
      | exact ih3 _ _ _
      | exact ih4 _ _
      | exact ih5 _ _ _
      | exact ih6 _ _ _ _
      | exact LeO.none _
      | refine LeO.ite ?_ ?_
      | refine LeO.bind ?_ (fun _ => ?_)
    · intro y0 y1 y2
      unfold retargetref07_Number.j3
      repeat' first
      | (with_reducible exact ih0 _ _)
      | (with_reducible exact ih1 _ _)
      | (with_reducible exact ih2 _ _ _)
      | (with_reducible exact ih3 _ _ _)
      | (with_reducible exact ih4 _ _)
      | (with_reducible exact ih5 _ _ _)
      | (with_reducible exact ih6 _ _ _ _)
      | (with_reducible exact LeO.refl _)
      | (with_reducible exact LeO.none _)
      | (with_reducible refine LeO.ite ?_ ?_)
      | (with_reducible refine LeO.bind ?_ (fun _ => ?_))
      | exact ih0 _ _
      | exact ih1 _ _
      | exact ih2 _ _ _
      | exact ih3 _ _ _
      | exact ih4 _ _
      | exact ih5 _ _ _
      | exact ih6 _ _ _ _
      | exact LeO.none _
      | refine LeO.ite ?_ ?_
      | refine LeO.bind ?_ (fun _ => ?_)
    · intro y0 y1
      unfold retargetref07_Number.j4
      repeat' first
      | (with_reducible exact ih0 _ _)
      | (with_reducible exact ih1 _ _)
      | (with_reducible exact ih2 _ _ _)
      | (with_reducible exact ih3 _ _ _)
      | (with_reducible exact ih4 _ _)
      | (with_reducible exact ih5 _ _ _)
      | (with_reducible exact ih6 _ _ _ _)
      | (with_reducible exact LeO.refl _)
      | (with_reducible exact LeO.none _)
      | (with_reducible refine LeO.ite ?_ ?_)
      | (with_reducible refine LeO.bind ?_ (fun _ => ?_))
      | exact ih0 _ _
      | exact ih1 _ _
      | exact ih2 _ _ _
      | exact ih3 _ _ _
      | exact ih4 _ _
      | exact ih5 _ _ _
      | exact ih6 _ _ _ _
      | exact LeO.none _
      | refine LeO.ite ?_ ?_
      | refine LeO.bind ?_ (fun _ => ?_)
    · intro y0 y1 y2
      unfold retargetref07_Number.j5
      repeat' first
      | (with_reducible exact ih0 _ _)
      | (with_reducible exact ih1 _ _)
      | (with_reducible exact ih2 _ _ _)
      | (with_reducible exact ih3 _ _ _)
      | (with_reducible exact ih4 _ _)
      | (with_reducible exact ih5 _ _ _)
      | (with_reducible exact ih6 _ _ _ _)
      | (with_reducible exact LeO.refl _)
      | (with_reducible exact LeO.none _)
      | (with_reducible refine LeO.ite ?_ ?_)
      | (with_reducible refine LeO.bind ?_ (fun _ => ?_))
      | exact ih0 _ _
      | exact ih1 _ _
      | exact ih2 _ _ _
      | exact ih3 _ _ _
      | exact ih4 _ _
      | exact ih5 _ _ _
      | exact ih6 _ _ _ _
      | exact LeO.none _
      | refine LeO.ite ?_ ?_
      | refine LeO.bind ?_ (fun _ => ?_)
    · intro y0 y1 y2 y3
      unfold retargetref07_Number.l1
      repeat' first
      | (with_reducible exact ih0 _ _)
      | (with_reducible exact ih1 _ _)
      | (with_reducible exact ih2 _ _ _)
      | (with_reducible exact ih3 _ _ _)
      | (with_reducible exact ih4 _ _)
      | (with_reducible exact ih5 _ _ _)
      | (with_reducible exact ih6 _ _ _ _)
      | (with_reducible exact LeO.refl _)
      | (with_reducible exact LeO.none _)
      | (with_reducible refine LeO.ite ?_ ?_)
      | (with_reducible refine LeO.bind ?_ (fun _ => ?_))
      | exact ih0 _ _
      | exact ih1 _ _
      | exact ih2 _ _ _
      | exact ih3 _ _ _
      | exact ih4 _ _
      | exact ih5 _ _ _
      | exact ih6 _ _ _ _
      | exact LeO.none _
      | refine LeO.ite ?_ ?_
      | refine LeO.bind ?_ (fun _ => ?_)
theorem retargetref07_Number.mono : ∀ a0 k, LeO (retargetref07_Number.f k a0) (retargetref07_Number.f (k + 1) a0) := by
  intro a0 k
  obtain ⟨ih0, ih1, ih2, ih3, ih4, ih5, ih6⟩ := retargetref07_Number.mono_l k
  unfold retargetref07_Number.f
  repeat' first
      | (with_reducible exact ih0 _ _)
      | (with_reducible exact ih1 _ _)
      | (with_reducible exact ih2 _ _ _)
      | (with_reducible exact ih3 _ _ _)
      | (with_reducible exact ih4 _ _)
      | (with_reducible exact ih5 _ _ _)
      | (with_reducible exact ih6 _ _ _ _)
      | (with_reducible exact LeO.refl _)
      | (with_reducible exact LeO.none _)
      | (with_reducible refine LeO.ite ?_ ?_)
      | (with_reducible refine LeO.bind ?_ (fun _ => ?_))
      | exact ih0 _ _
      | exact ih1 _ _
      | exact ih2 _ _ _
      | exact ih3 _ _ _
      | exact ih4 _ _
      | exact ih5 _ _ _
      | exact ih6 _ _ _ _
      | exact LeO.none _
      | refine LeO.ite ?_ ?_
      | refine LeO.bind ?_ (fun _ => ?_)
set_option maxHeartbeats 8000000 in
set_option maxRecDepth 100000 in
theorem retargetref07_Number.calls (k : Nat) (a0 : ByteArray) (r1 : Int) (r2 : Bool) (w : World) (h : retargetref07_Number.f k a0 = some (r1, r2)) :
    Calls Tryd.prog 51 #[.string a0] w fun e w' => e = .returned (.tuple #[.int .i64 r1, .bool r2]) ∧ Drawn0 w w' := by
  obtain ⟨rs2, hrs2⟩ : ∃ rs, a0.extract 2 a0.size = rs := ⟨_, rfl⟩
  obtain ⟨rs1, hrs1⟩ : ∃ rs, a0.extract 1 a0.size = rs := ⟨_, rfl⟩
  have H : (if (a0.size : Int) > 2 then (if 0 ≤ 2 then (if 2 ≤ (a0.size : Int) then (retargetref07_Number.j0 k a0 ((a0.extract 0 2).toList == ([48, 120] : List UInt8))) else (none)) else (none)) else (retargetref07_Number.j0 k a0 false)) = some (r1, r2) := h
  clear h
  have HC2 := Aside0.mk H
  clear H
  go_enter Tryd.func51, Tryd.ntmps51
  go_upto_region 1 with (fail)
  go_cut [17] (fun v17 wc => ∃ (kq : Nat) (x17_1 : Bool), v17 = .bool x17_1 ∧ Aside0 (retargetref07_Number.j0 kq a0 x17_1 = some (r1, r2)) ∧ Aside0 (kq ≤ k) ∧ Drawn0 w wc)
  case first =>
    have H := HC2.out
    clear HC2
    by_cases c3 : (a0.size : Int) > 2
    · rw [if_pos c3] at H
      have c3b0 : decide (2 < (a0.size : Int)) = true := decide_eq_true c3
      have c3b1 : decide (2 < a0.size) = true := decide_eq_true (by omega)
      clear c3
      (first | rw [c3b0] | (simp only [i64_w, i32_w]; rw [c3b0]) | skip)
      by_cases c4 : 0 ≤ 2
      · rw [if_pos c4] at H
        have c4b0 := eq_true c4
        have c4b1 : decide (0 ≤ 2) = true := decide_eq_true c4
        clear c4
        by_cases c5 : 2 ≤ (a0.size : Int)
        · rw [if_pos c5] at H
          have c5b0 := eq_true c5
          have c5b1 : decide (2 ≤ (a0.size : Int)) = true := decide_eq_true c5
          clear c5
          have H' := Aside0.mk H
          clear H
          go_wp2
          go_meet
          case rel => exact ⟨_, (((a0.extract 0 2).toList == ([48, 120] : List UInt8))), (by first | rfl | (simp; done) | (simp [*]; done)), H', ⟨by first | omega | exact Nat.le_refl _⟩, by repeat (first | exact Drawn0.refl _ | apply Drawn0.step)⟩
        · rw [if_neg c5] at H
          exact absurd H (by simp)
      · rw [if_neg c4] at H
        exact absurd H (by simp)
    · rw [if_neg c3] at H
      have c3b0 : decide (2 < (a0.size : Int)) = false := decide_eq_false c3
      have c3b1 : decide (2 < a0.size) = false := decide_eq_false (by omega)
      clear c3
      (first | rw [c3b0] | (simp only [i64_w, i32_w]; rw [c3b0]) | skip)
      have H' := Aside0.mk H
      clear H
      go_wp2
      go_meet
      case rel => exact ⟨_, (false), (by first | rfl | (simp; done) | (simp [*]; done)), H', ⟨by first | omega | exact Nat.le_refl _⟩, by repeat (first | exact Drawn0.refl _ | apply Drawn0.step)⟩
  case rest =>
    clear HC2
    try clear p2
    try clear c3
    try clear c3b0
    try clear c3b1
    try clear c4
    try clear c4b0
    try clear c4b1
    try clear c5
    try clear c5b0
    try clear c5b1
    obtain ⟨kq, x17_1, rfl, HA, HJ1, ⟨mc1, rfl⟩⟩ := hcut
    cases kq with
    | zero => exact absurd HA.out (by simp [retargetref07_Number.j0])
    | succ kj1 =>
      have H := HA.out
      clear HA
      simp only [retargetref07_Number.j0, hrs2] at H
      by_cases c6 : x17_1 = true
      · subst c6
        have H1 : (if 2 ≤ (a0.size : Int) then (if (rs2.size : Int) > 15 then (retargetref07_Number.j1 kj1 rs2 true) else (if (rs2.size : Int) > 1 then (if 0 < (rs2.size : Int) then (retargetref07_Number.j1 kj1 rs2 ((bt rs2 0) == 48)) else (none)) else (retargetref07_Number.j1 kj1 rs2 false))) else (none)) = some (r1, r2) := by rw [if_pos rfl] at H; exact H
        clear H
        have H := H1
        clear H1
        by_cases c7 : 2 ≤ (a0.size : Int)
        · rw [if_pos c7] at H
          have c7b0 := eq_true c7
          have c7b1 : decide (2 ≤ (a0.size : Int)) = true := decide_eq_true c7
          clear c7
          have HC8 := Aside0.mk H
          clear H
          go_upto_region 3 with (fail)
          go_cut [32] (fun v32 wc => ∃ (kq : Nat) (x32_7 : Bool), v32 = .bool x32_7 ∧ Aside0 (retargetref07_Number.j1 kq rs2 x32_7 = some (r1, r2)) ∧ Aside0 (kq ≤ kj1) ∧ Drawn0 w wc)
          case first =>
            have H := HC8.out
            clear HC8
            by_cases c9 : (rs2.size : Int) > 15
            · rw [if_pos c9] at H
              have c9b0 : decide (15 < (rs2.size : Int)) = true := decide_eq_true c9
              have c9b1 : decide (15 < rs2.size) = true := decide_eq_true (by omega)
              clear c9
              (first | rw [c9b0] | (simp only [i64_w, i32_w]; rw [c9b0]) | skip)
              have H' := Aside0.mk H
              clear H
              go_wp2
              go_meet
              case rel => exact ⟨_, (true), (by first | rfl | (simp; done) | (simp [*]; done)), H', ⟨by have := HJ1.out; first | omega | exact Nat.le_refl _⟩, by repeat (first | exact Drawn0.refl _ | apply Drawn0.step)⟩
            · rw [if_neg c9] at H
              have c9b0 : decide (15 < (rs2.size : Int)) = false := decide_eq_false c9
              have c9b1 : decide (15 < rs2.size) = false := decide_eq_false (by omega)
              clear c9
              (first | rw [c9b0] | (simp only [i64_w, i32_w]; rw [c9b0]) | skip)
              by_cases c10 : (rs2.size : Int) > 1
              · rw [if_pos c10] at H
                have c10b0 : decide (1 < (rs2.size : Int)) = true := decide_eq_true c10
                have c10b1 : decide (1 < rs2.size) = true := decide_eq_true (by omega)
                clear c10
                by_cases c11 : 0 < (rs2.size : Int)
                · rw [if_pos c11] at H
                  have c11b0 : decide (0 < (rs2.size : Int)) = true := decide_eq_true c11
                  have c11b1 : decide (0 < rs2.size) = true := decide_eq_true (by omega)
                  clear c11
                  have H' := Aside0.mk H
                  clear H
                  have p12 : 0 ≤ (0 : Int) := (by omega)
                  have q12 : 0 < rs2.size := (by have : (0 : Int) < (rs2.size : Int) := of_decide_eq_true (by first | (with_reducible assumption) | assumption); omega)
                  have hx12 : ∀ h : 0 < rs2.size, ((rs2[0]'h).toNat : Int) = bt rs2 0 := bt_at rs2 0
                  clear p12
                  have qi12 : (0 < (rs2.size : Int)) = True := eq_true (of_decide_eq_true (by first | (with_reducible assumption) | assumption))
                  replace q12 := eq_true q12
                  go_wp2
                  go_meet
                  case rel => exact ⟨_, (((bt rs2 0) == 48)), (by first | rfl | (simp; done) | (simp [*]; done)), H', ⟨by have := HJ1.out; first | omega | exact Nat.le_refl _⟩, by repeat (first | exact Drawn0.refl _ | apply Drawn0.step)⟩
                · rw [if_neg c11] at H
                  exact absurd H (by simp)
              · rw [if_neg c10] at H
                have c10b0 : decide (1 < (rs2.size : Int)) = false := decide_eq_false c10
                have c10b1 : decide (1 < rs2.size) = false := decide_eq_false (by omega)
                clear c10
                have H' := Aside0.mk H
                clear H
                go_wp2
                go_meet
                case rel => exact ⟨_, (false), (by first | rfl | (simp; done) | (simp [*]; done)), H', ⟨by have := HJ1.out; first | omega | exact Nat.le_refl _⟩, by repeat (first | exact Drawn0.refl _ | apply Drawn0.step)⟩
          case rest =>
            clear HC8
            try clear c1
            try clear p1
            try clear q1
            try clear hx1
            try clear qi1
            try clear p2
            try clear c3
            try clear c3b0
            try clear c3b1
            try clear c4
            try clear c4b0
            try clear c4b1
            try clear c5
            try clear c5b0
            try clear c5b1
            try clear c6
            try clear c7
            try clear c7b0
            try clear c7b1
            try clear c9
            try clear c9b0
            try clear c9b1
            try clear c10
            try clear c10b0
            try clear c10b1
            try clear c11
            try clear c11b0
            try clear c11b1
            try clear p12
            try clear q12
            try clear hx12
            try clear qi12
            try clear p12
            try clear p2
            try clear q12
            obtain ⟨kq, x32_7, rfl, HA, HJ7, ⟨mc7, rfl⟩⟩ := hcut
            cases kq with
            | zero => exact absurd HA.out (by simp [retargetref07_Number.j1])
            | succ kj7 =>
              have H := HA.out
              clear HA
              simp only [retargetref07_Number.j1] at H
              by_cases c13 : x32_7 = true
              · subst c13
                have H1 : (some (0, false)) = some (r1, r2) := by rw [if_pos rfl] at H; exact H
                clear H
                have H := H1
                clear H1
                simp only [Option.some.injEq, Prod.mk.injEq] at H
                obtain ⟨rfl, rfl⟩ := H
                go_wp2
                go_ret2
                exact ⟨by first | rfl | (simp; done) | (simp [*]; done), by repeat (first | exact Drawn0.refl _ | apply Drawn0.step)⟩
              · replace c13 := Bool.eq_false_iff.mpr c13
                subst c13
                have H1 : (retargetref07_Number.l0 kj7 rs2 0 0) = some (r1, r2) := by rw [if_neg (show ¬ (false = true) by decide)] at H; exact H
                clear H
                have H := H1
                clear H1
                have H' := Aside0.mk H
                clear H
                go_wp2
                go_loopg [4, 5] kj7 (fun kq v4 v5 w' => ∃ (x4_3 : Int) (x5_3 : Int), v4 = .int .i64 x4_3 ∧ v5 = .int .i64 x5_3 ∧ Aside0 (retargetref07_Number.l0 kq rs2 x4_3 x5_3 = some (r1, r2)) ∧ Aside0 (kq ≤ kj7) ∧ Drawn0 w w')
                case atStart => exact ⟨(0), (0), (by first | rfl | (simp; done) | (simp [*]; done)), (by first | rfl | (simp; done) | (simp [*]; done)), H', ⟨Nat.le_refl _⟩, by repeat (first | exact Drawn0.refl _ | apply Drawn0.step)⟩
                case round =>
                  clear H'
                  try clear c1
                  try clear p1
                  try clear q1
                  try clear hx1
                  try clear qi1
                  try clear p2
                  try clear c3
                  try clear c3b0
                  try clear c3b1
                  try clear c4
                  try clear c4b0
                  try clear c4b1
                  try clear c5
                  try clear c5b0
                  try clear c5b1
                  try clear c6
                  try clear c7
                  try clear c7b0
                  try clear c7b1
                  try clear c9
                  try clear c9b0
                  try clear c9b1
                  try clear c10
                  try clear c10b0
                  try clear c10b1
                  try clear c11
                  try clear c11b0
                  try clear c11b1
                  try clear p12
                  try clear q12
                  try clear hx12
                  try clear qi12
                  try clear c13
                  try clear p1
                  try clear p12
                  try clear p2
                  try clear q1
                  try clear q12
                  obtain ⟨x4_3, x5_3, rfl, rfl, HA, HK3, ⟨m3, rfl⟩⟩ := hrel
                  cases gk with
                  | zero => exact absurd HA.out (by simp [retargetref07_Number.l0])
                  | succ k3 =>
                    have H := HA.out
                    clear HA
                    simp only [retargetref07_Number.l0] at H
                    by_cases c14 : x5_3 < (rs2.size : Int)
                    · rw [if_pos c14] at H
                      have c14b0 : decide (x5_3 < (rs2.size : Int)) = true := decide_eq_true c14
                      clear c14
                      by_cases c15 : 0 ≤ x5_3
                      · rw [if_pos c15] at H
                        have c15b0 : decide (0 ≤ x5_3) = true := decide_eq_true c15
                        clear c15
                        replace H := Option.bind_eq_some_iff.mp H
                        obtain ⟨t113, A170, H⟩ := H
                        replace H : (if t113 < 0 then (some (0, false)) else (retargetref07_Number.l0 k3 rs2 (wrap64 ((wrap64 (16 * x4_3)) + t113)) (wrap64 (x5_3 + 1)))) = some (r1, r2) := H
                        have A17 := Aside0.mk A170
                        clear A170
                        by_cases c18 : t113 < 0
                        · rw [if_pos c18] at H
                          have c18b0 : decide (t113 < 0) = true := decide_eq_true c18
                          clear c18
                          simp only [Option.some.injEq, Prod.mk.injEq] at H
                          obtain ⟨rfl, rfl⟩ := H
                          have p16 : 0 ≤ (x5_3 : Int) := of_decide_eq_true (by first | (with_reducible assumption) | assumption)
                          have q16 : x5_3 < (rs2.size : Int) := of_decide_eq_true (by first | (with_reducible assumption) | assumption)
                          have hx16 := bt_at rs2 x5_3
                          replace p16 := eq_true p16
                          replace q16 := eq_true q16
                          go_wp2_with (first | ((with_reducible refine gate_callee (f := 64) rfl ?_); refine goesL_ (some 42) rfl rfl Tryd.func64 (by kernel_rfl) rfl #[.int .u8 (bt rs2 x5_3)] rfl (by (try simp only [List.map_toArray, List.map_cons, List.map_nil]); first | done | rfl | (simp only [List.length_drop, List.length_take]; rfl)) ?_; (with_reducible refine (retargetref07_hexadecimal.calls (bt rs2 x5_3) t113 _ A17.out).mono ?_); rintro e w' ⟨rfl, ⟨nd, rfl⟩⟩; refine ⟨_, rfl, ?_⟩))
                          go_ret2
                          exact ⟨by first | rfl | (simp; done) | (simp [*]; done), by repeat (first | exact Drawn0.refl _ | apply Drawn0.step)⟩
                        · rw [if_neg c18] at H
                          have c18b0 : decide (t113 < 0) = false := decide_eq_false c18
                          clear c18
                          have H' := Aside0.mk H
                          clear H
                          have p16 : 0 ≤ (x5_3 : Int) := of_decide_eq_true (by first | (with_reducible assumption) | assumption)
                          have q16 : x5_3 < (rs2.size : Int) := of_decide_eq_true (by first | (with_reducible assumption) | assumption)
                          have hx16 := bt_at rs2 x5_3
                          replace p16 := eq_true p16
                          replace q16 := eq_true q16
                          go_wp2_with (first | ((with_reducible refine gate_callee (f := 64) rfl ?_); refine goesL_ (some 42) rfl rfl Tryd.func64 (by kernel_rfl) rfl #[.int .u8 (bt rs2 x5_3)] rfl (by (try simp only [List.map_toArray, List.map_cons, List.map_nil]); first | done | rfl | (simp only [List.length_drop, List.length_take]; rfl)) ?_; (with_reducible refine (retargetref07_hexadecimal.calls (bt rs2 x5_3) t113 _ A17.out).mono ?_); rintro e w' ⟨rfl, ⟨nd, rfl⟩⟩; refine ⟨_, rfl, ?_⟩))
                          go_roundg k3
                          case measure => have := HJ1.out; have := HJ7.out; have := HK3.out; omega
                          case rel => exact ⟨(wrap64 ((wrap64 (16 * x4_3)) + t113)), (wrap64 (x5_3 + 1)), (by first | rfl | (simp; done) | (simp [*]; done)), (by first | rfl | (simp; done) | (simp [*]; done)), H', ⟨by have := HJ1.out; have := HJ7.out; have := HK3.out; omega⟩, by repeat (first | exact Drawn0.refl _ | apply Drawn0.step)⟩
                      · rw [if_neg c15] at H
                        exact absurd H (by simp)
                    · rw [if_neg c14] at H
                      have c14b0 : decide (x5_3 < (rs2.size : Int)) = false := decide_eq_false c14
                      clear c14
                      simp only [Option.some.injEq, Prod.mk.injEq] at H
                      obtain ⟨rfl, rfl⟩ := H
                      go_wp2
                      go_ret2
                      exact ⟨by first | rfl | (simp; done) | (simp [*]; done), by repeat (first | exact Drawn0.refl _ | apply Drawn0.step)⟩
        · rw [if_neg c7] at H
          exact absurd H (by simp)
      · replace c6 := Bool.eq_false_iff.mpr c6
        subst c6
        have H1 : (if (a0.size : Int) > 0 then (if 0 < (a0.size : Int) then (retargetref07_Number.j3 kj1 a0 1 ((bt a0 0) == 45)) else (none)) else (retargetref07_Number.j3 kj1 a0 1 false)) = some (r1, r2) := by rw [if_neg (show ¬ (false = true) by decide)] at H; exact H
        clear H
        have H := H1
        clear H1
        have HC19 := Aside0.mk H
        clear H
        go_upto_region 15 with (fail)
        go_cut [57] (fun v57 wc => ∃ (kq : Nat) (x57_18 : Bool), v57 = .bool x57_18 ∧ Aside0 (retargetref07_Number.j3 kq a0 1 x57_18 = some (r1, r2)) ∧ Aside0 (kq ≤ kj1) ∧ Drawn0 w wc)
        case first =>
          have H := HC19.out
          clear HC19
          by_cases c20 : (a0.size : Int) > 0
          · rw [if_pos c20] at H
            have c20b0 : decide (0 < (a0.size : Int)) = true := decide_eq_true c20
            have c20b1 : decide (0 < a0.size) = true := decide_eq_true (by omega)
            clear c20
            (first | rw [c20b0] | (simp only [i64_w, i32_w]; rw [c20b0]) | skip)
            by_cases c21 : 0 < (a0.size : Int)
            · rw [if_pos c21] at H
              have c21b0 : decide (0 < (a0.size : Int)) = true := decide_eq_true c21
              have c21b1 : decide (0 < a0.size) = true := decide_eq_true (by omega)
              clear c21
              have H' := Aside0.mk H
              clear H
              have p22 : 0 ≤ (0 : Int) := (by omega)
              have q22 : 0 < a0.size := (by have : (0 : Int) < (a0.size : Int) := of_decide_eq_true (by first | (with_reducible assumption) | assumption); omega)
              have hx22 : ∀ h : 0 < a0.size, ((a0[0]'h).toNat : Int) = bt a0 0 := bt_at a0 0
              clear p22
              have qi22 : (0 < (a0.size : Int)) = True := eq_true (of_decide_eq_true (by first | (with_reducible assumption) | assumption))
              replace q22 := eq_true q22
              go_wp2
              go_meet
              case rel => exact ⟨_, (((bt a0 0) == 45)), (by first | rfl | (simp; done) | (simp [*]; done)), H', ⟨by have := HJ1.out; first | omega | exact Nat.le_refl _⟩, by repeat (first | exact Drawn0.refl _ | apply Drawn0.step)⟩
            · rw [if_neg c21] at H
              exact absurd H (by simp)
          · rw [if_neg c20] at H
            have c20b0 : decide (0 < (a0.size : Int)) = false := decide_eq_false c20
            have c20b1 : decide (0 < a0.size) = false := decide_eq_false (by omega)
            clear c20
            (first | rw [c20b0] | (simp only [i64_w, i32_w]; rw [c20b0]) | skip)
            have H' := Aside0.mk H
            clear H
            go_wp2
            go_meet
            case rel => exact ⟨_, (false), (by first | rfl | (simp; done) | (simp [*]; done)), H', ⟨by have := HJ1.out; first | omega | exact Nat.le_refl _⟩, by repeat (first | exact Drawn0.refl _ | apply Drawn0.step)⟩
        case rest =>
          clear HC19
          try clear c1
          try clear p1
          try clear q1
          try clear hx1
          try clear qi1
          try clear c2
          try clear p2
          try clear q2
          try clear hx2
          try clear qi2
          try clear c3
          try clear c3b0
          try clear c3b1
          try clear c4
          try clear c4b0
          try clear c4b1
          try clear c5
          try clear c5b0
          try clear c5b1
          try clear c6
          try clear p6
          try clear c7
          try clear c7b0
          try clear c7b1
          try clear c9
          try clear c9b0
          try clear c9b1
          try clear c10
          try clear c10b0
          try clear c10b1
          try clear c11
          try clear c11b0
          try clear c11b1
          try clear p12
          try clear q12
          try clear hx12
          try clear qi12
          try clear c13
          try clear c14
          try clear c14b0
          try clear c15
          try clear c15b0
          try clear p16
          try clear q16
          try clear hx16
          try clear c18
          try clear c18b0
          try clear c20
          try clear c20b0
          try clear c20b1
          try clear c21
          try clear c21b0
          try clear c21b1
          try clear p22
          try clear q22
          try clear hx22
          try clear qi22
          try clear p1
          try clear p12
          try clear p16
          try clear p2
          try clear p22
          try clear q1
          try clear q12
          try clear q16
          try clear q22
          obtain ⟨kq, x57_18, rfl, HA, HJ18, ⟨mc18, rfl⟩⟩ := hcut
          cases kq with
          | zero => exact absurd HA.out (by simp [retargetref07_Number.j3])
          | succ kj18 =>
            have H := HA.out
            clear HA
            simp only [retargetref07_Number.j3, hrs1] at H
            have HC23 := Aside0.mk H
            clear H
            go_upto_if 57 with (fail)
            go_cut [0, 7] (fun v0 v7 wc => ∃ (kq : Nat) (x0_22 : ByteArray) (x7_22 : Int), v0 = .string x0_22 ∧ v7 = .int .i64 x7_22 ∧ Aside0 (retargetref07_Number.j4 kq x0_22 x7_22 = some (r1, r2)) ∧ Aside0 (kq ≤ kj18) ∧ Drawn0 w wc)
            case first =>
              have H := HC23.out
              clear HC23
              by_cases c24 : x57_18 = true
              · subst c24
                have H1 : (if 1 ≤ (a0.size : Int) then (if (rs1.size : Int) < 1 then (some (0, false)) else (if 0 < (rs1.size : Int) then (if (bt rs1 0) = 48 then (some (0, false)) else (retargetref07_Number.j4 kj18 rs1 (-1))) else (none))) else (none)) = some (r1, r2) := by rw [if_pos rfl] at H; exact H
                clear H
                have H := H1
                clear H1
                by_cases c25 : 1 ≤ (a0.size : Int)
                · rw [if_pos c25] at H
                  have c25b0 := eq_true c25
                  have c25b1 : decide (1 ≤ (a0.size : Int)) = true := decide_eq_true c25
                  clear c25
                  by_cases c26 : (rs1.size : Int) < 1
                  · rw [if_pos c26] at H
                    have c26b0 : decide ((rs1.size : Int) < 1) = true := decide_eq_true c26
                    have c26b1 : decide (rs1.size < 1) = true := decide_eq_true (by omega)
                    clear c26
                    (first | rw [c26b0] | (simp only [i64_w, i32_w]; rw [c26b0]) | skip)
                    simp only [Option.some.injEq, Prod.mk.injEq] at H
                    obtain ⟨rfl, rfl⟩ := H
                    go_wp2
                    go_ret2
                    exact ⟨by first | rfl | (simp; done) | (simp [*]; done), by repeat (first | exact Drawn0.refl _ | apply Drawn0.step)⟩
                  · rw [if_neg c26] at H
                    have c26b0 : decide ((rs1.size : Int) < 1) = false := decide_eq_false c26
                    have c26b1 : decide (rs1.size < 1) = false := decide_eq_false (by omega)
                    clear c26
                    (first | rw [c26b0] | (simp only [i64_w, i32_w]; rw [c26b0]) | skip)
                    by_cases c27 : 0 < (rs1.size : Int)
                    · rw [if_pos c27] at H
                      have c27b0 : decide (0 < (rs1.size : Int)) = true := decide_eq_true c27
                      have c27b1 : decide (0 < rs1.size) = true := decide_eq_true (by omega)
                      clear c27
                      by_cases c29 : (bt rs1 0) = 48
                      · rw [if_pos c29] at H
                        have c29b0 : ((bt rs1 0) == 48) = true := beq_iff_eq.mpr c29
                        have c29b1 : ((bt rs1 0) != 48) = false := bne_eq_false_iff_eq.mpr c29
                        clear c29
                        simp only [Option.some.injEq, Prod.mk.injEq] at H
                        obtain ⟨rfl, rfl⟩ := H
                        have p28 : 0 ≤ (0 : Int) := (by omega)
                        have q28 : 0 < rs1.size := (by have : (0 : Int) < (rs1.size : Int) := of_decide_eq_true (by first | (with_reducible assumption) | assumption); omega)
                        have hx28 : ∀ h : 0 < rs1.size, ((rs1[0]'h).toNat : Int) = bt rs1 0 := bt_at rs1 0
                        clear p28
                        have qi28 : (0 < (rs1.size : Int)) = True := eq_true (of_decide_eq_true (by first | (with_reducible assumption) | assumption))
                        replace q28 := eq_true q28
                        go_wp2
                        go_ret2
                        exact ⟨by first | rfl | (simp; done) | (simp [*]; done), by repeat (first | exact Drawn0.refl _ | apply Drawn0.step)⟩
                      · rw [if_neg c29] at H
                        have c29b0 : ((bt rs1 0) == 48) = false := beq_eq_false_iff_ne.mpr c29
                        have c29b1 : ((bt rs1 0) != 48) = true := bne_iff_ne.mpr c29
                        have H' := Aside0.mk H
                        clear H
                        have p28 : 0 ≤ (0 : Int) := (by omega)
                        have q28 : 0 < rs1.size := (by have : (0 : Int) < (rs1.size : Int) := of_decide_eq_true (by first | (with_reducible assumption) | assumption); omega)
                        have hx28 : ∀ h : 0 < rs1.size, ((rs1[0]'h).toNat : Int) = bt rs1 0 := bt_at rs1 0
                        clear p28
                        have qi28 : (0 < (rs1.size : Int)) = True := eq_true (of_decide_eq_true (by first | (with_reducible assumption) | assumption))
                        replace q28 := eq_true q28
                        go_wp2
                        go_meet
                        case rel => exact ⟨_, rs1, ((-1)), (by first | rfl | (simp; done) | (simp [*]; done)), (by first | rfl | (simp; done) | (simp [*]; done)), H', ⟨by have := HJ1.out; have := HJ18.out; first | omega | exact Nat.le_refl _⟩, by repeat (first | exact Drawn0.refl _ | apply Drawn0.step)⟩
                    · rw [if_neg c27] at H
                      exact absurd H (by simp)
                · rw [if_neg c25] at H
                  exact absurd H (by simp)
              · replace c24 := Bool.eq_false_iff.mpr c24
                subst c24
                have H1 : (retargetref07_Number.j4 kj18 a0 1) = some (r1, r2) := by rw [if_neg (show ¬ (false = true) by decide)] at H; exact H
                clear H
                have H := H1
                clear H1
                have H' := Aside0.mk H
                clear H
                go_wp2
                go_meet
                case rel => exact ⟨_, (a0), (1), (by first | rfl | (simp; done) | (simp [*]; done)), (by first | rfl | (simp; done) | (simp [*]; done)), H', ⟨by have := HJ1.out; have := HJ18.out; first | omega | exact Nat.le_refl _⟩, by repeat (first | exact Drawn0.refl _ | apply Drawn0.step)⟩
            case rest =>
              clear HC23
              try clear c1
              try clear p1
              try clear q1
              try clear hx1
              try clear qi1
              try clear c2
              try clear p2
              try clear q2
              try clear hx2
              try clear qi2
              try clear c3
              try clear c3b0
              try clear c3b1
              try clear c4
              try clear c4b0
              try clear c4b1
              try clear c5
              try clear c5b0
              try clear c5b1
              try clear c6
              try clear p6
              try clear c7
              try clear c7b0
              try clear c7b1
              try clear c9
              try clear c9b0
              try clear c9b1
              try clear c10
              try clear c10b0
              try clear c10b1
              try clear c11
              try clear c11b0
              try clear c11b1
              try clear p12
              try clear q12
              try clear hx12
              try clear qi12
              try clear c13
              try clear c14
              try clear c14b0
              try clear c15
              try clear c15b0
              try clear p16
              try clear q16
              try clear hx16
              try clear c18
              try clear c18b0
              try clear c20
              try clear c20b0
              try clear c20b1
              try clear c21
              try clear c21b0
              try clear c21b1
              try clear p22
              try clear q22
              try clear hx22
              try clear qi22
              try clear c24
              try clear c25
              try clear c25b0
              try clear c25b1
              try clear c26
              try clear c26b0
              try clear c26b1
              try clear c27
              try clear c27b0
              try clear c27b1
              try clear p28
              try clear q28
              try clear hx28
              try clear qi28
              try clear c29
              try clear c29b0
              try clear c29b1
              try clear p1
              try clear p12
              try clear p16
              try clear p2
              try clear p22
              try clear p28
              try clear p6
              try clear q1
              try clear q12
              try clear q16
              try clear q2
              try clear q22
              try clear q28
              obtain ⟨kq, x0_22, x7_22, rfl, rfl, HA, HJ22, ⟨mc22, rfl⟩⟩ := hcut
              cases kq with
              | zero => exact absurd HA.out (by simp [retargetref07_Number.j4])
              | succ kj22 =>
                have H := HA.out
                clear HA
                simp only [retargetref07_Number.j4] at H
                have HC30 := Aside0.mk H
                clear H
                go_upto_region 20 with (fail)
                go_cut [85] (fun v85 wc => ∃ (kq : Nat) (x85_29 : Bool), v85 = .bool x85_29 ∧ Aside0 (retargetref07_Number.j5 kq x0_22 x7_22 x85_29 = some (r1, r2)) ∧ Aside0 (kq ≤ kj22) ∧ Drawn0 w wc)
                case first =>
                  have H := HC30.out
                  clear HC30
                  by_cases c31 : (x0_22.size : Int) < 1
                  · rw [if_pos c31] at H
                    have c31b0 : decide ((x0_22.size : Int) < 1) = true := decide_eq_true c31
                    have c31b1 : decide (x0_22.size < 1) = true := decide_eq_true (by omega)
                    clear c31
                    (first | rw [c31b0] | (simp only [i64_w, i32_w]; rw [c31b0]) | skip)
                    have H' := Aside0.mk H
                    clear H
                    go_wp2
                    go_meet
                    case rel => exact ⟨_, (true), (by first | rfl | (simp; done) | (simp [*]; done)), H', ⟨by have := HJ1.out; have := HJ18.out; have := HJ22.out; first | omega | exact Nat.le_refl _⟩, by repeat (first | exact Drawn0.refl _ | apply Drawn0.step)⟩
                  · rw [if_neg c31] at H
                    have c31b0 : decide ((x0_22.size : Int) < 1) = false := decide_eq_false c31
                    have c31b1 : decide (x0_22.size < 1) = false := decide_eq_false (by omega)
                    clear c31
                    (first | rw [c31b0] | (simp only [i64_w, i32_w]; rw [c31b0]) | skip)
                    by_cases c32 : (x0_22.size : Int) > 18
                    · rw [if_pos c32] at H
                      have c32b0 : decide (18 < (x0_22.size : Int)) = true := decide_eq_true c32
                      have c32b1 : decide (18 < x0_22.size) = true := decide_eq_true (by omega)
                      clear c32
                      have H' := Aside0.mk H
                      clear H
                      go_wp2
                      go_meet
                      case rel => exact ⟨_, (true), (by first | rfl | (simp; done) | (simp [*]; done)), H', ⟨by have := HJ1.out; have := HJ18.out; have := HJ22.out; first | omega | exact Nat.le_refl _⟩, by repeat (first | exact Drawn0.refl _ | apply Drawn0.step)⟩
                    · rw [if_neg c32] at H
                      have c32b0 : decide (18 < (x0_22.size : Int)) = false := decide_eq_false c32
                      have c32b1 : decide (18 < x0_22.size) = false := decide_eq_false (by omega)
                      clear c32
                      by_cases c33 : (x0_22.size : Int) > 1
                      · rw [if_pos c33] at H
                        have c33b0 : decide (1 < (x0_22.size : Int)) = true := decide_eq_true c33
                        have c33b1 : decide (1 < x0_22.size) = true := decide_eq_true (by omega)
                        clear c33
                        by_cases c34 : 0 < (x0_22.size : Int)
                        · rw [if_pos c34] at H
                          have c34b0 : decide (0 < (x0_22.size : Int)) = true := decide_eq_true c34
                          have c34b1 : decide (0 < x0_22.size) = true := decide_eq_true (by omega)
                          clear c34
                          have H' := Aside0.mk H
                          clear H
                          have p35 : 0 ≤ (0 : Int) := (by omega)
                          have q35 : 0 < x0_22.size := (by have : (0 : Int) < (x0_22.size : Int) := of_decide_eq_true (by first | (with_reducible assumption) | assumption); omega)
                          have hx35 : ∀ h : 0 < x0_22.size, ((x0_22[0]'h).toNat : Int) = bt x0_22 0 := bt_at x0_22 0
                          clear p35
                          have qi35 : (0 < (x0_22.size : Int)) = True := eq_true (of_decide_eq_true (by first | (with_reducible assumption) | assumption))
                          replace q35 := eq_true q35
                          go_wp2
                          go_meet
                          case rel => exact ⟨_, (((bt x0_22 0) == 48)), (by first | rfl | (simp; done) | (simp [*]; done)), H', ⟨by have := HJ1.out; have := HJ18.out; have := HJ22.out; first | omega | exact Nat.le_refl _⟩, by repeat (first | exact Drawn0.refl _ | apply Drawn0.step)⟩
                        · rw [if_neg c34] at H
                          exact absurd H (by simp)
                      · rw [if_neg c33] at H
                        have c33b0 : decide (1 < (x0_22.size : Int)) = false := decide_eq_false c33
                        have c33b1 : decide (1 < x0_22.size) = false := decide_eq_false (by omega)
                        clear c33
                        have H' := Aside0.mk H
                        clear H
                        go_wp2
                        go_meet
                        case rel => exact ⟨_, (false), (by first | rfl | (simp; done) | (simp [*]; done)), H', ⟨by have := HJ1.out; have := HJ18.out; have := HJ22.out; first | omega | exact Nat.le_refl _⟩, by repeat (first | exact Drawn0.refl _ | apply Drawn0.step)⟩
                case rest =>
                  clear HC30
                  try clear c1
                  try clear p1
                  try clear q1
                  try clear hx1
                  try clear qi1
                  try clear c2
                  try clear p2
                  try clear q2
                  try clear hx2
                  try clear qi2
                  try clear c3
                  try clear c3b0
                  try clear c3b1
                  try clear p3
                  try clear q3
                  try clear hx3
                  try clear qi3
                  try clear c4
                  try clear c4b0
                  try clear c4b1
                  try clear c5
                  try clear c5b0
                  try clear c5b1
                  try clear c6
                  try clear p6
                  try clear c7
                  try clear c7b0
                  try clear c7b1
                  try clear c9
                  try clear c9b0
                  try clear c9b1
                  try clear c10
                  try clear c10b0
                  try clear c10b1
                  try clear c11
                  try clear c11b0
                  try clear c11b1
                  try clear p12
                  try clear q12
                  try clear hx12
                  try clear qi12
                  try clear c13
                  try clear c14
                  try clear c14b0
                  try clear c15
                  try clear c15b0
                  try clear p16
                  try clear q16
                  try clear hx16
                  try clear c18
                  try clear c18b0
                  try clear c20
                  try clear c20b0
                  try clear c20b1
                  try clear c21
                  try clear c21b0
                  try clear c21b1
                  try clear c22
                  try clear p22
                  try clear q22
                  try clear hx22
                  try clear qi22
                  try clear c24
                  try clear c25
                  try clear c25b0
                  try clear c25b1
                  try clear c26
                  try clear c26b0
                  try clear c26b1
                  try clear c27
                  try clear c27b0
                  try clear c27b1
                  try clear p28
                  try clear q28
                  try clear hx28
                  try clear qi28
                  try clear c29
                  try clear c29b0
                  try clear c29b1
                  try clear c31
                  try clear c31b0
                  try clear c31b1
                  try clear c32
                  try clear c32b0
                  try clear c32b1
                  try clear c33
                  try clear c33b0
                  try clear c33b1
                  try clear c34
                  try clear c34b0
                  try clear c34b1
                  try clear p35
                  try clear q35
                  try clear hx35
                  try clear qi35
                  try clear p1
                  try clear p12
                  try clear p16
                  try clear p2
                  try clear p22
                  try clear p28
                  try clear p35
                  try clear p6
                  try clear q1
                  try clear q12
                  try clear q16
                  try clear q2
                  try clear q22
                  try clear q28
                  try clear q35
                  obtain ⟨kq, x85_29, rfl, HA, HJ29, ⟨mc29, rfl⟩⟩ := hcut
                  cases kq with
                  | zero => exact absurd HA.out (by simp [retargetref07_Number.j5])
                  | succ kj29 =>
                    have H := HA.out
                    clear HA
                    simp only [retargetref07_Number.j5] at H
                    by_cases c36 : x85_29 = true
                    · subst c36
                      have H1 : (some (0, false)) = some (r1, r2) := by rw [if_pos rfl] at H; exact H
                      clear H
                      have H := H1
                      clear H1
                      simp only [Option.some.injEq, Prod.mk.injEq] at H
                      obtain ⟨rfl, rfl⟩ := H
                      go_wp2
                      go_ret2
                      exact ⟨by first | rfl | (simp; done) | (simp [*]; done), by repeat (first | exact Drawn0.refl _ | apply Drawn0.step)⟩
                    · replace c36 := Bool.eq_false_iff.mpr c36
                      subst c36
                      have H1 : (retargetref07_Number.l1 kj29 x0_22 x7_22 0 0) = some (r1, r2) := by rw [if_neg (show ¬ (false = true) by decide)] at H; exact H
                      clear H
                      have H := H1
                      clear H1
                      have H' := Aside0.mk H
                      clear H
                      go_wp2
                      go_loopg [8, 9] kj29 (fun kq v8 v9 w' => ∃ (x8_5 : Int) (x9_5 : Int), v8 = .int .i64 x8_5 ∧ v9 = .int .i64 x9_5 ∧ Aside0 (retargetref07_Number.l1 kq x0_22 x7_22 x8_5 x9_5 = some (r1, r2)) ∧ Aside0 (kq ≤ kj29) ∧ Drawn0 w w')
                      case atStart => exact ⟨(0), (0), (by first | rfl | (simp; done) | (simp [*]; done)), (by first | rfl | (simp; done) | (simp [*]; done)), H', ⟨Nat.le_refl _⟩, by repeat (first | exact Drawn0.refl _ | apply Drawn0.step)⟩
                      case round =>
                        clear H'
                        try clear c1
                        try clear p1
                        try clear q1
                        try clear hx1
                        try clear qi1
                        try clear c2
                        try clear p2
                        try clear q2
                        try clear hx2
                        try clear qi2
                        try clear c3
                        try clear c3b0
                        try clear c3b1
                        try clear p3
                        try clear q3
                        try clear hx3
                        try clear qi3
                        try clear c4
                        try clear c4b0
                        try clear c4b1
                        try clear c5
                        try clear c5b0
                        try clear c5b1
                        try clear c6
                        try clear p6
                        try clear c7
                        try clear c7b0
                        try clear c7b1
                        try clear c9
                        try clear c9b0
                        try clear c9b1
                        try clear c10
                        try clear c10b0
                        try clear c10b1
                        try clear c11
                        try clear c11b0
                        try clear c11b1
                        try clear p12
                        try clear q12
                        try clear hx12
                        try clear qi12
                        try clear c13
                        try clear c14
                        try clear c14b0
                        try clear c15
                        try clear c15b0
                        try clear p16
                        try clear q16
                        try clear hx16
                        try clear c18
                        try clear c18b0
                        try clear c20
                        try clear c20b0
                        try clear c20b1
                        try clear c21
                        try clear c21b0
                        try clear c21b1
                        try clear c22
                        try clear p22
                        try clear q22
                        try clear hx22
                        try clear qi22
                        try clear c24
                        try clear c25
                        try clear c25b0
                        try clear c25b1
                        try clear c26
                        try clear c26b0
                        try clear c26b1
                        try clear c27
                        try clear c27b0
                        try clear c27b1
                        try clear p28
                        try clear q28
                        try clear hx28
                        try clear qi28
                        try clear c29
                        try clear c29b0
                        try clear c29b1
                        try clear c31
                        try clear c31b0
                        try clear c31b1
                        try clear c32
                        try clear c32b0
                        try clear c32b1
                        try clear c33
                        try clear c33b0
                        try clear c33b1
                        try clear c34
                        try clear c34b0
                        try clear c34b1
                        try clear p35
                        try clear q35
                        try clear hx35
                        try clear qi35
                        try clear c36
                        try clear p1
                        try clear p12
                        try clear p16
                        try clear p2
                        try clear p22
                        try clear p28
                        try clear p3
                        try clear p35
                        try clear p6
                        try clear q1
                        try clear q12
                        try clear q16
                        try clear q2
                        try clear q22
                        try clear q28
                        try clear q3
                        try clear q35
                        obtain ⟨x8_5, x9_5, rfl, rfl, HA, HK5, ⟨m5, rfl⟩⟩ := hrel
                        cases gk with
                        | zero => exact absurd HA.out (by simp [retargetref07_Number.l1])
                        | succ k5 =>
                          have H := HA.out
                          clear HA
                          simp only [retargetref07_Number.l1] at H
                          by_cases c37 : x9_5 < (x0_22.size : Int)
                          · rw [if_pos c37] at H
                            have c37b0 : decide (x9_5 < (x0_22.size : Int)) = true := decide_eq_true c37
                            clear c37
                            by_cases c38 : 0 ≤ x9_5
                            · rw [if_pos c38] at H
                              have c38b0 : decide (0 ≤ x9_5) = true := decide_eq_true c38
                              clear c38
                              replace H := Option.bind_eq_some_iff.mp H
                              obtain ⟨t114, A400, H⟩ := H
                              replace H : (if t114 = true then (retargetref07_Number.l1 k5 x0_22 x7_22 (wrap64 ((wrap64 (10 * x8_5)) + (((bt x0_22 x9_5) - 48) % 256))) (wrap64 (x9_5 + 1))) else (some (0, false))) = some (r1, r2) := H
                              have A40 := Aside0.mk A400
                              clear A400
                              by_cases c41 : t114 = true
                              · subst c41
                                have H1 : (retargetref07_Number.l1 k5 x0_22 x7_22 (wrap64 ((wrap64 (10 * x8_5)) + (((bt x0_22 x9_5) - 48) % 256))) (wrap64 (x9_5 + 1))) = some (r1, r2) := by rw [if_pos rfl] at H; exact H
                                clear H
                                have H := H1
                                clear H1
                                have H' := Aside0.mk H
                                clear H
                                have p39 : 0 ≤ (x9_5 : Int) := of_decide_eq_true (by first | (with_reducible assumption) | assumption)
                                have q39 : x9_5 < (x0_22.size : Int) := of_decide_eq_true (by first | (with_reducible assumption) | assumption)
                                have hx39 := bt_at x0_22 x9_5
                                replace p39 := eq_true p39
                                replace q39 := eq_true q39
                                go_wp2_with (first | ((with_reducible refine gate_callee (f := 48) rfl ?_); refine goesL_ (some 95) rfl rfl Tryd.func48 (by kernel_rfl) rfl #[.int .u8 (bt x0_22 x9_5)] rfl (by (try simp only [List.map_toArray, List.map_cons, List.map_nil]); first | done | rfl | (simp only [List.length_drop, List.length_take]; rfl)) ?_; (with_reducible refine (retargetref07_digit.calls (bt x0_22 x9_5) true _ A40.out).mono ?_); rintro e w' ⟨rfl, ⟨nd, rfl⟩⟩; refine ⟨_, rfl, ?_⟩; have p42 : 0 ≤ (x9_5 : Int) := of_decide_eq_true (by first | (with_reducible assumption) | assumption); have q42 : x9_5 < (x0_22.size : Int) := of_decide_eq_true (by first | (with_reducible assumption) | assumption); have hx42 := bt_at x0_22 x9_5; replace p42 := eq_true p42; replace q42 := eq_true q42))
                                go_roundg k5
                                case measure => have := HJ1.out; have := HJ18.out; have := HJ22.out; have := HJ29.out; have := HK5.out; omega
                                case rel => exact ⟨(wrap64 ((wrap64 (10 * x8_5)) + (((bt x0_22 x9_5) - 48) % 256))), (wrap64 (x9_5 + 1)), (by first | rfl | (simp; done) | (simp [*]; done)), (by first | rfl | (simp; done) | (simp [*]; done)), H', ⟨by have := HJ1.out; have := HJ18.out; have := HJ22.out; have := HJ29.out; have := HK5.out; omega⟩, by repeat (first | exact Drawn0.refl _ | apply Drawn0.step)⟩
                              · replace c41 := Bool.eq_false_iff.mpr c41
                                subst c41
                                have H1 : (some (0, false)) = some (r1, r2) := by rw [if_neg (show ¬ (false = true) by decide)] at H; exact H
                                clear H
                                have H := H1
                                clear H1
                                simp only [Option.some.injEq, Prod.mk.injEq] at H
                                obtain ⟨rfl, rfl⟩ := H
                                have p39 : 0 ≤ (x9_5 : Int) := of_decide_eq_true (by first | (with_reducible assumption) | assumption)
                                have q39 : x9_5 < (x0_22.size : Int) := of_decide_eq_true (by first | (with_reducible assumption) | assumption)
                                have hx39 := bt_at x0_22 x9_5
                                replace p39 := eq_true p39
                                replace q39 := eq_true q39
                                go_wp2_with (first | ((with_reducible refine gate_callee (f := 48) rfl ?_); refine goesL_ (some 95) rfl rfl Tryd.func48 (by kernel_rfl) rfl #[.int .u8 (bt x0_22 x9_5)] rfl (by (try simp only [List.map_toArray, List.map_cons, List.map_nil]); first | done | rfl | (simp only [List.length_drop, List.length_take]; rfl)) ?_; (with_reducible refine (retargetref07_digit.calls (bt x0_22 x9_5) false _ A40.out).mono ?_); rintro e w' ⟨rfl, ⟨nd, rfl⟩⟩; refine ⟨_, rfl, ?_⟩))
                                go_ret2
                                exact ⟨by first | rfl | (simp; done) | (simp [*]; done), by repeat (first | exact Drawn0.refl _ | apply Drawn0.step)⟩
                            · rw [if_neg c38] at H
                              exact absurd H (by simp)
                          · rw [if_neg c37] at H
                            have c37b0 : decide (x9_5 < (x0_22.size : Int)) = false := decide_eq_false c37
                            clear c37
                            simp only [Option.some.injEq, Prod.mk.injEq] at H
                            obtain ⟨rfl, rfl⟩ := H
                            go_wp2
                            go_ret2
                            exact ⟨by first | rfl | (simp; done) | (simp [*]; done), by repeat (first | exact Drawn0.refl _ | apply Drawn0.step)⟩

end Go.Proofs.YtbaojlfnbfbjmaaDoor.PLex
