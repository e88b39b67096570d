-- written by printx.py (this session's program over the kit's print)
import Derived.Test.YtbaojlfnbfbjmaaDoorPLex0
import Derived.Test.YtbaojlfnbfbjmaaDoorPLex1
import Derived.Test.YtbaojlfnbfbjmaaDoorPLex4
import Derived.Test.YtbaojlfnbfbjmaaDoorPLex6
import Derived.Test.YtbaojlfnbfbjmaaDoorLexLines
namespace Go.Proofs.YtbaojlfnbfbjmaaDoor.PLex
open Go.RowKit Go.Proofs.YtbaojlfnbfbjmaaDoorW.PrintWords Go.Proofs.YtbaojlfnbfbjmaaDoorW.PrintLast Go.Proofs.YtbaojlfnbfbjmaaDoorW.PrintMore
attribute [local go_sem] max2_int min2_int max_two min_two max_three min_three max_four min_four   -- for this text's walks alone
set_option linter.unusedVariables false
set_option linter.unusedSimpArgs false

attribute [local go_sem high] eqA33
/-! ### retargetlaw07_LexerLines: function 7 -/
mutual
def retargetlaw07_LexerLines.j0 : Nat → List (S33) → Bool → Bool → Option (Bool)
  | 0, _, _, _ => none
  | k + 1, x0, x3, x14 => if x14 = true then (some x3) else ((lexer_Lines.f x0).bind fun t210 => (retargetlaw07_LexerLines.l0 k x0 x3 t210 0 0))
def retargetlaw07_LexerLines.l0 : Nat → List (S33) → Bool → List (List (S33)) → Int → Int → Option (Bool)
  | 0, _, _, _, _, _ => none
  | k + 1, x0, x3, x4, x5, x6 => if x6 < (x4.length : Int) then (if x6 > 0 then (if x5 ≥ (x0.length : Int) then (some false) else (if 0 ≤ x5 then (if x5 < (x0.length : Int) then (if ((rd_T33 x0 x5).f0) = 5 then (retargetlaw07_LexerLines.j2 k x0 x3 x4 (wrap64 (x5 + 1)) x6) else (some false)) else (none)) else (none))) else (retargetlaw07_LexerLines.j2 k x0 x3 x4 x5 x6)) else (if x3 = true then (if x5 = (x0.length : Int) then (some (decide ((x4.length : Int) > 0))) else (some false)) else (some false))
def retargetlaw07_LexerLines.j2 : Nat → List (S33) → Bool → List (List (S33)) → Int → Int → Option (Bool)
  | 0, _, _, _, _, _ => none
  | k + 1, x0, x3, x4, x5, x6 => retargetlaw07_LexerLines.l1 k x0 x3 x4 x5 x6 0
def retargetlaw07_LexerLines.l1 : Nat → List (S33) → Bool → List (List (S33)) → Int → Int → Int → Option (Bool)
  | 0, _, _, _, _, _, _ => none
  | k + 1, x0, x3, x4, x5, x6, x7 => if 0 ≤ x6 then (if x6 < (x4.length : Int) then (if x7 < ((rd_L4 x4 x6).length : Int) then (if x5 ≥ (x0.length : Int) then (some false) else (if 0 ≤ x7 then (if 0 ≤ x5 then (if x5 < (x0.length : Int) then (if (!(((rd_T33 (rd_L4 x4 x6) x7).f0) == ((rd_T33 x0 x5).f0)) || (!((((rd_T33 (rd_L4 x4 x6) x7).f1).toList) == (((rd_T33 x0 x5).f1).toList)) || (!(((rd_T33 (rd_L4 x4 x6) x7).f2) == ((rd_T33 x0 x5).f2)) || (!(((rd_T33 (rd_L4 x4 x6) x7).f3) == ((rd_T33 x0 x5).f3)))))) = true then (some false) else (if ((rd_T33 x0 x5).f0) = 5 then (some false) else (retargetlaw07_LexerLines.l1 k x0 x3 x4 (wrap64 (x5 + 1)) x6 (wrap64 (x7 + 1))))) else (none)) else (none)) else (none))) else (retargetlaw07_LexerLines.l0 k x0 x3 x4 x5 (wrap64 (x6 + 1)))) else (none)) else (none)
end
def retargetlaw07_LexerLines.f (k : Nat) (l0 : List (S33)) : Option (Bool) := (retargetlaw07_alive.f k).bind fun t208 => ((retargetref07_Great.f k l0).bind fun t209 => (if t209 = true then (retargetlaw07_LexerLines.j0 k l0 t208 true) else (retargetlaw07_LexerLines.j0 k l0 t208 (!t208))))
theorem retargetlaw07_LexerLines.mono_l : ∀ k, (∀ y0 y1 y2, LeO (retargetlaw07_LexerLines.j0 k y0 y1 y2) (retargetlaw07_LexerLines.j0 (k + 1) y0 y1 y2)) ∧ (∀ y0 y1 y2 y3 y4, LeO (retargetlaw07_LexerLines.l0 k y0 y1 y2 y3 y4) (retargetlaw07_LexerLines.l0 (k + 1) y0 y1 y2 y3 y4)) ∧ (∀ y0 y1 y2 y3 y4, LeO (retargetlaw07_LexerLines.j2 k y0 y1 y2 y3 y4) (retargetlaw07_LexerLines.j2 (k + 1) y0 y1 y2 y3 y4)) ∧ (∀ y0 y1 y2 y3 y4 y5, LeO (retargetlaw07_LexerLines.l1 k y0 y1 y2 y3 y4 y5) (retargetlaw07_LexerLines.l1 (k + 1) y0 y1 y2 y3 y4 y5))
  | 0 => ⟨fun _ _ _ r h => by simp [retargetlaw07_LexerLines.j0] at h, fun _ _ _ _ _ r h => by simp [retargetlaw07_LexerLines.l0] at h, fun _ _ _ _ _ r h => by simp [retargetlaw07_LexerLines.j2] at h, fun _ _ _ _ _ _ r h => by simp [retargetlaw07_LexerLines.l1] at h⟩
  | k + 1 => by
    obtain ⟨ih0, ih1, ih2, ih3⟩ := retargetlaw07_LexerLines.mono_l k
    refine ⟨?_, ?_, ?_, ?_⟩
    · intro y0 y1 y2
      unfold retargetlaw07_LexerLines.j0
      repeat' first
      | (with_reducible exact ih0 _ _ _)
      | (with_reducible exact ih1 _ _ _ _ _)
      | (with_reducible exact ih2 _ _ _ _ _)
      | (with_reducible exact ih3 _ _ _ _ _ _)
      | (with_reducible exact retargetlaw07_alive.mono _)
      | (with_reducible exact retargetref07_Great.mono _ _)
      | (with_reducible exact LeO.refl _)
      | (with_reducible exact LeO.none _)
      | (with_reducible refine LeO.ite ?_ ?_)
      | (with_reducible refine LeO.bind ?_ (fun _ => ?_))
      | exact ih0 _ _ _
      | exact ih1 _ _ _ _ _
      | exact ih2 _ _ _ _ _
      | exact ih3 _ _ _ _ _ _
      | exact retargetlaw07_alive.mono _
      | exact retargetref07_Great.mono _ _
      | exact LeO.none _
      | refine LeO.ite ?_ ?_
      | refine LeO.bind ?_ (fun _ => ?_)
    · intro y0 y1 y2 y3 y4
      unfold retargetlaw07_LexerLines.l0
      repeat' first
      | (with_reducible exact ih0 _ _ _)
      | (with_reducible exact ih1 _ _ _ _ _)
      | (with_reducible exact ih2 _ _ _ _ _)
      | (with_reducible exact ih3 _ _ _ _ _ _)
      | (with_reducible exact retargetlaw07_alive.mono _)
      | (with_reducible exact retargetref07_Great.mono _ _)
      | (with_reducible exact LeO.refl _)
      | (with_reducible exact LeO.none _)
      | (with_reducible refine LeO.ite ?_ ?_)
      | (with_reducible refine LeO.bind ?_ (fun _ => ?_))
      | exact ih0 _ _ _
      | exact ih1 _ _ _ _ _
      | exact ih2 _ _ _ _ _
      | exact ih3 _ _ _ _ _ _
      | exact retargetlaw07_alive.mono _
      | exact retargetref07_Great.mono _ _
      | exact LeO.none _
      | refine LeO.ite ?_ ?_
      | refine LeO.bind ?_ (fun _ => ?_)
    · intro y0 y1 y2 y3 y4
      unfold retargetlaw07_LexerLines.j2
      repeat' first
      | (with_reducible exact ih0 _ _ _)
      | (with_reducible exact ih1 _ _ _ _ _)
      | (with_reducible exact ih2 _ _ _ _ _)
      | (with_reducible exact ih3 _ _ _ _ _ _)
      | (with_reducible exact retargetlaw07_alive.mono _)
      | (with_reducible exact retargetref07_Great.mono _ _)
      | (with_reducible exact LeO.refl _)
      | (with_reducible exact LeO.none _)
      | (with_reducible refine LeO.ite ?_ ?_)
      | (with_reducible refine LeO.bind ?_ (fun _ => ?_))
      | exact ih0 _ _ _
      | exact ih1 _ _ _ _ _
      | exact ih2 _ _ _ _ _
      | exact ih3 _ _ _ _ _ _
      | exact retargetlaw07_alive.mono _
      | exact retargetref07_Great.mono _ _
      | exact LeO.none _
      | refine LeO.ite ?_ ?_
      | refine LeO.bind ?_ (fun _ => ?_)
    · intro y0 y1 y2 y3 y4 y5
      unfold retargetlaw07_LexerLines.l1
      repeat' first
      | (with_reducible exact ih0 _ _ _)
      | (with_reducible exact ih1 _ _ _ _ _)
      | (with_reducible exact ih2 _ _ _ _ _)
      | (with_reducible exact ih3 _ _ _ _ _ _)
      | (with_reducible exact retargetlaw07_alive.mono _)
      | (with_reducible exact retargetref07_Great.mono _ _)
      | (with_reducible exact LeO.refl _)
      | (with_reducible exact LeO.none _)
      | (with_reducible refine LeO.ite ?_ ?_)
      | (with_reducible refine LeO.bind ?_ (fun _ => ?_))
      | exact ih0 _ _ _
      | exact ih1 _ _ _ _ _
      | exact ih2 _ _ _ _ _
      | exact ih3 _ _ _ _ _ _
      | exact retargetlaw07_alive.mono _
      | exact retargetref07_Great.mono _ _
      | exact LeO.none _
      | refine LeO.ite ?_ ?_
      | refine LeO.bind ?_ (fun _ => ?_)
theorem retargetlaw07_LexerLines.mono : ∀ a0 k, LeO (retargetlaw07_LexerLines.f k a0) (retargetlaw07_LexerLines.f (k + 1) a0) := by
  intro a0 k
  obtain ⟨ih0, ih1, ih2, ih3⟩ := retargetlaw07_LexerLines.mono_l k
  unfold retargetlaw07_LexerLines.f
  repeat' first
      | (with_reducible exact ih0 _ _ _)
      | (with_reducible exact ih1 _ _ _ _ _)
      | (with_reducible exact ih2 _ _ _ _ _)
      | (with_reducible exact ih3 _ _ _ _ _ _)
      | (with_reducible exact retargetlaw07_alive.mono _)
      | (with_reducible exact retargetref07_Great.mono _ _)
      | (with_reducible exact LeO.refl _)
      | (with_reducible exact LeO.none _)
      | (with_reducible refine LeO.ite ?_ ?_)
      | (with_reducible refine LeO.bind ?_ (fun _ => ?_))
      | exact ih0 _ _ _
      | exact ih1 _ _ _ _ _
      | exact ih2 _ _ _ _ _
      | exact ih3 _ _ _ _ _ _
      | exact retargetlaw07_alive.mono _
      | exact retargetref07_Great.mono _ _
      | exact LeO.none _
      | refine LeO.ite ?_ ?_
      | refine LeO.bind ?_ (fun _ => ?_)
set_option maxHeartbeats 8000000 in
set_option maxRecDepth 100000 in
theorem retargetlaw07_LexerLines.calls (k : Nat) (A0 : Option Addr) (c0 : Nat) (l0 : List (S33)) (r : Bool) (w : World) (hL : Lex.Laid w) (hr0 : Kd.C k33 w A0 l0.length l0) (hc0 : l0.length ≤ c0) (h : retargetlaw07_LexerLines.f k l0 = some r) :
    Calls Tryd.prog 7 #[.slice A0 l0.length c0] w fun e w' => e = .returned (.bool r) ∧ Below w.heap.size w w' := by
  have hu33 := Tryd.underlying33
  have HR0 := Aside0.mk hr0
  have HC0 := Aside0.mk hc0
  clear hr0 hc0
  have HB := Aside0.mk (Below.refl w.heap.size w)
  have H : ((retargetlaw07_alive.f k).bind fun t208 => ((retargetref07_Great.f k l0).bind fun t209 => (if t209 = true then (retargetlaw07_LexerLines.j0 k l0 t208 true) else (retargetlaw07_LexerLines.j0 k l0 t208 (!t208))))) = some r := h
  clear h
  replace H := Option.bind_eq_some_iff.mp H
  obtain ⟨t208, A20, H⟩ := H
  replace H : ((retargetref07_Great.f k l0).bind fun t209 => (if t209 = true then (retargetlaw07_LexerLines.j0 k l0 t208 true) else (retargetlaw07_LexerLines.j0 k l0 t208 (!t208)))) = some r := H
  have A2 := Aside0.mk A20
  clear A20
  have HC3 := Aside0.mk H
  clear H
  go_enter Tryd.func7, Tryd.ntmps7
  go_upto_region 2 with (first | (go_at_call 14; (with_reducible refine (retargetlaw07_alive.calls k  t208 _ ?side1 A2.out).mono ?_); (case side1 => exact Lex.Laid.below hL (by repeat (first | (with_reducible first | exact HB.out | apply below_alloc | apply pw_below_drewN | apply below_drew1) | exact HB.out))); rintro e w4 ⟨rfl, hb⟩; have n0_ := Aside0.mk (below_step (by repeat (first | (with_reducible first | exact HB.out | apply below_alloc | apply pw_below_drewN | apply below_drew1) | exact HB.out)) hb); clear HB; have HB := n0_; clear n0_; (try clear hb); (try clear hb2); (try clear hk); (try clear hi)))
  repeat (go_quiet (first | (go_at_call 14; (with_reducible refine (retargetlaw07_alive.calls k  t208 _ ?side1 A2.out).mono ?_); (case side1 => exact Lex.Laid.below hL (by repeat (first | (with_reducible first | exact HB.out | apply below_alloc | apply pw_below_drewN | apply below_drew1) | exact HB.out))); rintro e w4 ⟨rfl, hb⟩; have n0_ := Aside0.mk (below_step (by repeat (first | (with_reducible first | exact HB.out | apply below_alloc | apply pw_below_drewN | apply below_drew1) | exact HB.out)) hb); clear HB; have HB := n0_; clear n0_; (try clear hb); (try clear hb2); (try clear hk); (try clear hi))); go_upto_region 2 with (first | (go_at_call 14; (with_reducible refine (retargetlaw07_alive.calls k  t208 _ ?side1 A2.out).mono ?_); (case side1 => exact Lex.Laid.below hL (by repeat (first | (with_reducible first | exact HB.out | apply below_alloc | apply pw_below_drewN | apply below_drew1) | exact HB.out))); rintro e w4 ⟨rfl, hb⟩; have n0_ := Aside0.mk (below_step (by repeat (first | (with_reducible first | exact HB.out | apply below_alloc | apply pw_below_drewN | apply below_drew1) | exact HB.out)) hb); clear HB; have HB := n0_; clear n0_; (try clear hb); (try clear hb2); (try clear hk); (try clear hi))))
  (try simp only [Act.put, List.setIfInBounds_toArray, List.set_cons_zero, List.set_cons_succ])
  go_cut [14] (fun v14 wc => ∃ (kq : Nat) (x14_2 : Bool), v14 = .bool x14_2 ∧ Aside0 (retargetlaw07_LexerLines.j0 kq l0 t208 x14_2 = some r) ∧ Aside0 (kq ≤ k) ∧ Aside0 (Below w.heap.size w wc))
  case first =>
    have H := HC3.out
    clear HC3
    replace H := Option.bind_eq_some_iff.mp H
    obtain ⟨t209, A50, H⟩ := H
    replace H : (if t209 = true then (retargetlaw07_LexerLines.j0 k l0 t208 true) else (retargetlaw07_LexerLines.j0 k l0 t208 (!t208))) = some r := H
    have A5 := Aside0.mk A50
    clear A50
    by_cases c6 : t209 = true
    · subst c6
      have H1 : (retargetlaw07_LexerLines.j0 k l0 t208 true) = some r := by rw [if_pos rfl] at H; exact H
      clear H
      have H := H1
      clear H1
      have H' := Aside0.mk H
      clear H
      go_wp2_with (first | (go_at_call 17; (with_reducible refine (retargetref07_Great.calls k _ _ l0 true _ ?side1 ?side2 A5.out).mono ?_); (case side1 => repeat (first | exact (Kd.C_below HR0.out HB.out) | (with_reducible refine Kd.C_alloc ?_ _) | (with_reducible refine Kd.C_drewN ?_ _) | (with_reducible refine Kd.C_drew ?_))); (case side2 => exact HC0.out); rintro e w7 ⟨rfl, hb⟩; have n0_ := Aside0.mk (below_step (by repeat (first | (with_reducible first | exact HB.out | apply below_alloc | apply pw_below_drewN | apply below_drew1) | exact HB.out)) hb); clear HB; have HB := n0_; clear n0_; (try clear hb); (try clear hb2); (try clear hk); (try clear hi)))
      repeat (go_quiet (first | (go_at_call 17; (with_reducible refine (retargetref07_Great.calls k _ _ l0 true _ ?side1 ?side2 A5.out).mono ?_); (case side1 => repeat (first | exact (Kd.C_below HR0.out HB.out) | (with_reducible refine Kd.C_alloc ?_ _) | (with_reducible refine Kd.C_drewN ?_ _) | (with_reducible refine Kd.C_drew ?_))); (case side2 => exact HC0.out); rintro e w7 ⟨rfl, hb⟩; have n0_ := Aside0.mk (below_step (by repeat (first | (with_reducible first | exact HB.out | apply below_alloc | apply pw_below_drewN | apply below_drew1) | exact HB.out)) hb); clear HB; have HB := n0_; clear n0_; (try clear hb); (try clear hb2); (try clear hk); (try clear hi))); try go_wp2_with (first | (go_at_call 17; (with_reducible refine (retargetref07_Great.calls k _ _ l0 true _ ?side1 ?side2 A5.out).mono ?_); (case side1 => repeat (first | exact (Kd.C_below HR0.out HB.out) | (with_reducible refine Kd.C_alloc ?_ _) | (with_reducible refine Kd.C_drewN ?_ _) | (with_reducible refine Kd.C_drew ?_))); (case side2 => exact HC0.out); rintro e w7 ⟨rfl, hb⟩; have n0_ := Aside0.mk (below_step (by repeat (first | (with_reducible first | exact HB.out | apply below_alloc | apply pw_below_drewN | apply below_drew1) | exact HB.out)) hb); clear HB; have HB := n0_; clear n0_; (try clear hb); (try clear hb2); (try clear hk); (try clear hi))))
      go_meet
      case rel => exact ⟨_, (true), (by first | rfl | (simp; done) | (simp [*]; done)), H', ⟨by first | omega | exact Nat.le_refl _⟩, ⟨by repeat (first | (with_reducible first | exact HB.out | apply below_alloc | apply pw_below_drewN | apply below_drew1) | exact HB.out)⟩⟩
    · replace c6 := Bool.eq_false_iff.mpr c6
      subst c6
      have H1 : (retargetlaw07_LexerLines.j0 k l0 t208 (!t208)) = some r := by rw [if_neg (show ¬ (false = true) by decide)] at H; exact H
      clear H
      have H := H1
      clear H1
      have H' := Aside0.mk H
      clear H
      go_wp2_with (first | (go_at_call 17; (with_reducible refine (retargetref07_Great.calls k _ _ l0 false _ ?side1 ?side2 A5.out).mono ?_); (case side1 => repeat (first | exact (Kd.C_below HR0.out HB.out) | (with_reducible refine Kd.C_alloc ?_ _) | (with_reducible refine Kd.C_drewN ?_ _) | (with_reducible refine Kd.C_drew ?_))); (case side2 => exact HC0.out); rintro e w8 ⟨rfl, hb⟩; have n0_ := Aside0.mk (below_step (by repeat (first | (with_reducible first | exact HB.out | apply below_alloc | apply pw_below_drewN | apply below_drew1) | exact HB.out)) hb); clear HB; have HB := n0_; clear n0_; (try clear hb); (try clear hb2); (try clear hk); (try clear hi)))
      repeat (go_quiet (first | (go_at_call 17; (with_reducible refine (retargetref07_Great.calls k _ _ l0 false _ ?side1 ?side2 A5.out).mono ?_); (case side1 => repeat (first | exact (Kd.C_below HR0.out HB.out) | (with_reducible refine Kd.C_alloc ?_ _) | (with_reducible refine Kd.C_drewN ?_ _) | (with_reducible refine Kd.C_drew ?_))); (case side2 => exact HC0.out); rintro e w8 ⟨rfl, hb⟩; have n0_ := Aside0.mk (below_step (by repeat (first | (with_reducible first | exact HB.out | apply below_alloc | apply pw_below_drewN | apply below_drew1) | exact HB.out)) hb); clear HB; have HB := n0_; clear n0_; (try clear hb); (try clear hb2); (try clear hk); (try clear hi))); try go_wp2_with (first | (go_at_call 17; (with_reducible refine (retargetref07_Great.calls k _ _ l0 false _ ?side1 ?side2 A5.out).mono ?_); (case side1 => repeat (first | exact (Kd.C_below HR0.out HB.out) | (with_reducible refine Kd.C_alloc ?_ _) | (with_reducible refine Kd.C_drewN ?_ _) | (with_reducible refine Kd.C_drew ?_))); (case side2 => exact HC0.out); rintro e w8 ⟨rfl, hb⟩; have n0_ := Aside0.mk (below_step (by repeat (first | (with_reducible first | exact HB.out | apply below_alloc | apply pw_below_drewN | apply below_drew1) | exact HB.out)) hb); clear HB; have HB := n0_; clear n0_; (try clear hb); (try clear hb2); (try clear hk); (try clear hi))))
      go_meet
      case rel => exact ⟨_, (!t208), (by first | rfl | (simp; done) | (simp [*]; done)), H', ⟨by first | omega | exact Nat.le_refl _⟩, ⟨by repeat (first | (with_reducible first | exact HB.out | apply below_alloc | apply pw_below_drewN | apply below_drew1) | exact HB.out)⟩⟩
  case rest =>
    clear HC3
    try clear p2
    try clear c6
    try clear c7
    obtain ⟨kq, x14_2, rfl, HA, HJ2, HB⟩ := hcut
    cases kq with
    | zero => exact absurd HA.out (by simp [retargetlaw07_LexerLines.j0])
    | succ kj2 =>
      have H := HA.out
      clear HA
      simp only [retargetlaw07_LexerLines.j0] at H
      by_cases c9 : x14_2 = true
      · subst c9
        have H1 : (some t208) = some r := by rw [if_pos rfl] at H; exact H
        clear H
        have H := H1
        clear H1
        obtain rfl := Option.some.inj H
        go_wp2
        repeat (go_quiet (fail); try go_wp2)
        go_ret
        exact ⟨by first | rfl | (simp [errW_none, errW_some] <;> rfl) | (simp [*, errW_none, errW_some] <;> rfl), by repeat (first | (with_reducible first | exact HB.out | apply below_alloc | apply pw_below_drewN | apply below_drew1) | exact HB.out)⟩
      · replace c9 := Bool.eq_false_iff.mpr c9
        subst c9
        have H1 : ((lexer_Lines.f l0).bind fun t210 => (retargetlaw07_LexerLines.l0 kj2 l0 t208 t210 0 0)) = some r := by rw [if_neg (show ¬ (false = true) by decide)] at H; exact H
        clear H
        have H := H1
        clear H1
        replace H := Option.bind_eq_some_iff.mp H
        obtain ⟨t210, A100, H⟩ := H
        replace H : (retargetlaw07_LexerLines.l0 kj2 l0 t208 t210 0 0) = some r := H
        have A10 := Aside0.mk A100
        clear A100
        have H' := Aside0.mk H
        clear H
        go_wp2_with (first | (go_at_call 18; (with_reducible refine (lexer_Lines.calls _ _ l0 t210 _ ?side1 ?side2 A10.out).mono ?_); (case side1 => repeat (first | exact (Kd.C_below HR0.out HB.out) | (with_reducible refine Kd.C_alloc ?_ _) | (with_reducible refine Kd.C_drewN ?_ _) | (with_reducible refine Kd.C_drew ?_))); (case side2 => exact HC0.out); rintro e w11 ⟨v211, rfl, ho0, hb⟩; have n0_ := Aside0.mk (Kd.S_lower ho0 (below_size (by repeat (first | (with_reducible first | exact HB.out | apply below_alloc | apply pw_below_drewN | apply below_drew1) | exact HB.out)))); have n1_ := Aside0.mk (below_step (by repeat (first | (with_reducible first | exact HB.out | apply below_alloc | apply pw_below_drewN | apply below_drew1) | exact HB.out)) hb); clear HB; have HO212 := n0_; have HB := n1_; clear n0_ n1_; (try clear hb); (try clear hb2); (try clear hk); (try clear hi); (try clear ho0)))
        repeat (go_quiet (first | (go_at_call 18; (with_reducible refine (lexer_Lines.calls _ _ l0 t210 _ ?side1 ?side2 A10.out).mono ?_); (case side1 => repeat (first | exact (Kd.C_below HR0.out HB.out) | (with_reducible refine Kd.C_alloc ?_ _) | (with_reducible refine Kd.C_drewN ?_ _) | (with_reducible refine Kd.C_drew ?_))); (case side2 => exact HC0.out); rintro e w11 ⟨v211, rfl, ho0, hb⟩; have n0_ := Aside0.mk (Kd.S_lower ho0 (below_size (by repeat (first | (with_reducible first | exact HB.out | apply below_alloc | apply pw_below_drewN | apply below_drew1) | exact HB.out)))); have n1_ := Aside0.mk (below_step (by repeat (first | (with_reducible first | exact HB.out | apply below_alloc | apply pw_below_drewN | apply below_drew1) | exact HB.out)) hb); clear HB; have HO212 := n0_; have HB := n1_; clear n0_ n1_; (try clear hb); (try clear hb2); (try clear hk); (try clear hi); (try clear ho0))); try go_wp2_with (first | (go_at_call 18; (with_reducible refine (lexer_Lines.calls _ _ l0 t210 _ ?side1 ?side2 A10.out).mono ?_); (case side1 => repeat (first | exact (Kd.C_below HR0.out HB.out) | (with_reducible refine Kd.C_alloc ?_ _) | (with_reducible refine Kd.C_drewN ?_ _) | (with_reducible refine Kd.C_drew ?_))); (case side2 => exact HC0.out); rintro e w11 ⟨v211, rfl, ho0, hb⟩; have n0_ := Aside0.mk (Kd.S_lower ho0 (below_size (by repeat (first | (with_reducible first | exact HB.out | apply below_alloc | apply pw_below_drewN | apply below_drew1) | exact HB.out)))); have n1_ := Aside0.mk (below_step (by repeat (first | (with_reducible first | exact HB.out | apply below_alloc | apply pw_below_drewN | apply below_drew1) | exact HB.out)) hb); clear HB; have HO212 := n0_; have HB := n1_; clear n0_ n1_; (try clear hb); (try clear hb2); (try clear hk); (try clear hi); (try clear ho0))))
        go_loopg [5, 6] kj2 (fun kq v5 v6 w' => ∃ (x5_2 : Int) (x6_2 : Int), v5 = .int .i64 x5_2 ∧ v6 = .int .i64 x6_2 ∧ Aside0 (retargetlaw07_LexerLines.l0 kq l0 t208 t210 x5_2 x6_2 = some r) ∧ Aside0 (kq ≤ kj2) ∧ Aside0 (Kd.S (Kd.slice 33 k33) 22 w' w.heap.size (fun _ => True) v211 t210) ∧ Aside0 (Below w.heap.size w w'))
        case atStart => exact ⟨(0), (0), (by first | rfl | (simp; done) | (simp [*]; done)), (by first | rfl | (simp; done) | (simp [*]; done)), H', ⟨Nat.le_refl _⟩, ⟨by (with_reducible repeat (first | apply Kd.S_alloc | apply Kd.S_drewN | apply Kd.S_drew)); exact HO212.out⟩, ⟨by repeat (first | (with_reducible first | exact HB.out | apply below_alloc | apply pw_below_drewN | apply below_drew1) | exact HB.out)⟩⟩
        case round =>
          clear H'
          try clear p2
          try clear c6
          try clear c7
          try clear c9
          try clear p2
          obtain ⟨x5_2, x6_2, rfl, rfl, HA, HK2, HO_4, HB⟩ := hrel
          cases gk with
          | zero => exact absurd HA.out (by simp [retargetlaw07_LexerLines.l0])
          | succ k2 =>
            have H := HA.out
            clear HA
            simp only [retargetlaw07_LexerLines.l0] at H
            by_cases c12 : x6_2 < (t210.length : Int)
            · rw [if_pos c12] at H
              have c12b0 : decide (x6_2 < (t210.length : Int)) = true := decide_eq_true c12
              clear c12
              have HC13 := Aside0.mk H
              clear H
              obtain ⟨Ao14, co14, eo14⟩ := Kd.S_slice HO_4.out
              subst eo14
              go_upto_if 25 with (fail)
              repeat (go_quiet (fail); go_upto_if 25 with (fail))
              go_cut [5] (fun v5 wc => ∃ (kq : Nat) (x5_12 : Int), v5 = .int .i64 x5_12 ∧ Aside0 (retargetlaw07_LexerLines.j2 kq l0 t208 t210 x5_12 x6_2 = some r) ∧ Aside0 (kq ≤ k2) ∧ Aside0 (Kd.S (Kd.slice 33 k33) 22 wc w.heap.size (fun _ => True) (.slice Ao14 t210.length co14) t210) ∧ Aside0 (Below w.heap.size w wc))
              case first =>
                have H := HC13.out
                clear HC13
                by_cases c15 : x6_2 > 0
                · rw [if_pos c15] at H
                  have c15b0 : decide (0 < x6_2) = true := decide_eq_true c15
                  clear c15
                  (first | rw [c15b0] | (simp only [i64_w, i32_w]; rw [c15b0]) | skip)
                  by_cases c16 : x5_2 ≥ (l0.length : Int)
                  · rw [if_pos c16] at H
                    have c16b0 : decide ((l0.length : Int) ≤ x5_2) = true := decide_eq_true c16
                    clear c16
                    obtain rfl := Option.some.inj H
                    go_wp2
                    repeat (go_quiet (fail); try go_wp2)
                    go_ret
                    exact ⟨by first | rfl | (simp [errW_none, errW_some] <;> rfl) | (simp [*, errW_none, errW_some] <;> rfl), by repeat (first | (with_reducible first | exact HB.out | apply below_alloc | apply pw_below_drewN | apply below_drew1) | exact HB.out)⟩
                  · rw [if_neg c16] at H
                    have c16b0 : decide ((l0.length : Int) ≤ x5_2) = false := decide_eq_false c16
                    clear c16
                    by_cases c17 : 0 ≤ x5_2
                    · rw [if_pos c17] at H
                      have c17b0 : decide (0 ≤ x5_2) = true := decide_eq_true c17
                      clear c17
                      by_cases c18 : x5_2 < (l0.length : Int)
                      · rw [if_pos c18] at H
                        have c18b0 : decide (x5_2 < (l0.length : Int)) = true := decide_eq_true c18
                        clear c18
                        by_cases c19 : ((rd_T33 l0 x5_2).f0) = 5
                        · rw [if_pos c19] at H
                          have c19b0 : (((rd_T33 l0 x5_2).f0) == 5) = true := beq_iff_eq.mpr c19
                          have c19b1 : (((rd_T33 l0 x5_2).f0) != 5) = false := bne_eq_false_iff_eq.mpr c19
                          clear c19
                          have H' := Aside0.mk H
                          clear H
                          have p213 : 0 ≤ (x5_2 : Int) := of_decide_eq_true (by first | (with_reducible assumption) | assumption)
                          have q213 : x5_2 < (l0.length : Int) := of_decide_eq_true (by first | (with_reducible assumption) | assumption)
                          obtain ⟨ad213, e213, hx213_0, hx213_1, hx213_2, hx213_3⟩ := at_T33 HR0.out x5_2 p213 q213
                          cases e213
                          replace hx213_0 := (HB.out.cell (World.block_lt_of_cell? w _ hx213_0)).trans hx213_0
                          replace hx213_1 := (HB.out.cell (World.block_lt_of_cell? w _ hx213_1)).trans hx213_1
                          replace hx213_2 := (HB.out.cell (World.block_lt_of_cell? w _ hx213_2)).trans hx213_2
                          replace hx213_3 := (HB.out.cell (World.block_lt_of_cell? w _ hx213_3)).trans hx213_3
                          replace p213 := eq_true p213
                          replace q213 := eq_true q213
                          go_wp2
                          repeat (go_quiet (fail); try go_wp2)
                          go_meet
                          case rel => exact ⟨_, (wrap64 (x5_2 + 1)), (by first | rfl | (simp; done) | (simp [*]; done)), H', ⟨by have := HJ2.out; have := HK2.out; first | omega | exact Nat.le_refl _⟩, ⟨by (with_reducible repeat (first | apply Kd.S_alloc | apply Kd.S_drewN | apply Kd.S_drew)); exact HO_4.out⟩, ⟨by repeat (first | (with_reducible first | exact HB.out | apply below_alloc | apply pw_below_drewN | apply below_drew1) | exact HB.out)⟩⟩
                        · rw [if_neg c19] at H
                          have c19b0 : (((rd_T33 l0 x5_2).f0) == 5) = false := beq_eq_false_iff_ne.mpr c19
                          have c19b1 : (((rd_T33 l0 x5_2).f0) != 5) = true := bne_iff_ne.mpr c19
                          obtain rfl := Option.some.inj H
                          have p213 : 0 ≤ (x5_2 : Int) := of_decide_eq_true (by first | (with_reducible assumption) | assumption)
                          have q213 : x5_2 < (l0.length : Int) := of_decide_eq_true (by first | (with_reducible assumption) | assumption)
                          obtain ⟨ad213, e213, hx213_0, hx213_1, hx213_2, hx213_3⟩ := at_T33 HR0.out x5_2 p213 q213
                          cases e213
                          replace hx213_0 := (HB.out.cell (World.block_lt_of_cell? w _ hx213_0)).trans hx213_0
                          replace hx213_1 := (HB.out.cell (World.block_lt_of_cell? w _ hx213_1)).trans hx213_1
                          replace hx213_2 := (HB.out.cell (World.block_lt_of_cell? w _ hx213_2)).trans hx213_2
                          replace hx213_3 := (HB.out.cell (World.block_lt_of_cell? w _ hx213_3)).trans hx213_3
                          replace p213 := eq_true p213
                          replace q213 := eq_true q213
                          go_wp2
                          repeat (go_quiet (fail); try go_wp2)
                          go_ret
                          exact ⟨by first | rfl | (simp [errW_none, errW_some] <;> rfl) | (simp [*, errW_none, errW_some] <;> rfl), by repeat (first | (with_reducible first | exact HB.out | apply below_alloc | apply pw_below_drewN | apply below_drew1) | exact HB.out)⟩
                      · rw [if_neg c18] at H
                        exact absurd H (by simp)
                    · rw [if_neg c17] at H
                      exact absurd H (by simp)
                · rw [if_neg c15] at H
                  have c15b0 : decide (0 < x6_2) = false := decide_eq_false c15
                  clear c15
                  (first | rw [c15b0] | (simp only [i64_w, i32_w]; rw [c15b0]) | skip)
                  have H' := Aside0.mk H
                  clear H
                  go_wp2
                  repeat (go_quiet (fail); try go_wp2)
                  go_meet
                  case rel => exact ⟨_, (x5_2), (by first | rfl | (simp; done) | (simp [*]; done)), H', ⟨by have := HJ2.out; have := HK2.out; first | omega | exact Nat.le_refl _⟩, ⟨by (with_reducible repeat (first | apply Kd.S_alloc | apply Kd.S_drewN | apply Kd.S_drew)); exact HO_4.out⟩, ⟨by repeat (first | (with_reducible first | exact HB.out | apply below_alloc | apply pw_below_drewN | apply below_drew1) | exact HB.out)⟩⟩
              case rest =>
                clear HC13
                try clear c1
                try clear p2
                try clear q2
                try clear hx2
                try clear c6
                try clear p6
                try clear c7
                try clear c9
                try clear c12
                try clear c12b0
                try clear c15
                try clear c15b0
                try clear c16
                try clear c16b0
                try clear c17
                try clear c17b0
                try clear c18
                try clear c18b0
                try clear c19
                try clear c19b0
                try clear c19b1
                try clear hx213_0
                try clear hx213_1
                try clear hx213_2
                try clear hx213_3
                try clear p2
                try clear p213
                try clear q213
                obtain ⟨kq, x5_12, rfl, HA, HJ12, HO_4, HB⟩ := hcut
                cases kq with
                | zero => exact absurd HA.out (by simp [retargetlaw07_LexerLines.j2])
                | succ kj12 =>
                  have H := HA.out
                  clear HA
                  simp only [retargetlaw07_LexerLines.j2] at H
                  have H' := Aside0.mk H
                  clear H
                  go_wp2
                  repeat (go_quiet (fail); try go_wp2)
                  go_loopg [5, 7] kj12 (fun kq v5 v7 w' => ∃ (x5_4 : Int) (x7_4 : Int), v5 = .int .i64 x5_4 ∧ v7 = .int .i64 x7_4 ∧ Aside0 (retargetlaw07_LexerLines.l1 kq l0 t208 t210 x5_4 x6_2 x7_4 = some r) ∧ Aside0 (kq ≤ kj12) ∧ Aside0 (Kd.S (Kd.slice 33 k33) 22 w' w.heap.size (fun _ => True) (.slice Ao14 t210.length co14) t210) ∧ Aside0 (Below w.heap.size w w'))
                  case atStart => exact ⟨(x5_12), (0), (by first | rfl | (simp; done) | (simp [*]; done)), (by first | rfl | (simp; done) | (simp [*]; done)), H', ⟨Nat.le_refl _⟩, ⟨by (with_reducible repeat (first | apply Kd.S_alloc | apply Kd.S_drewN | apply Kd.S_drew)); exact HO_4.out⟩, ⟨by repeat (first | (with_reducible first | exact HB.out | apply below_alloc | apply pw_below_drewN | apply below_drew1) | exact HB.out)⟩⟩
                  case round =>
                    clear H'
                    try clear c1
                    try clear p2
                    try clear q2
                    try clear hx2
                    try clear c6
                    try clear p6
                    try clear c7
                    try clear c9
                    try clear c12
                    try clear c12b0
                    try clear c15
                    try clear c15b0
                    try clear c16
                    try clear c16b0
                    try clear c17
                    try clear c17b0
                    try clear c18
                    try clear c18b0
                    try clear c19
                    try clear c19b0
                    try clear c19b1
                    try clear hx213_0
                    try clear hx213_1
                    try clear hx213_2
                    try clear hx213_3
                    try clear p2
                    try clear p213
                    try clear p6
                    try clear q2
                    try clear q213
                    obtain ⟨x5_4, x7_4, rfl, rfl, HA, HK4, HO_4, HB⟩ := hrel
                    cases gk with
                    | zero => exact absurd HA.out (by simp [retargetlaw07_LexerLines.l1])
                    | succ k4 =>
                      have H := HA.out
                      clear HA
                      simp only [retargetlaw07_LexerLines.l1] at H
                      by_cases c20 : 0 ≤ x6_2
                      · rw [if_pos c20] at H
                        have c20b0 : decide (0 ≤ x6_2) = true := decide_eq_true c20
                        clear c20
                        by_cases c21 : x6_2 < (t210.length : Int)
                        · rw [if_pos c21] at H
                          have c21b0 : decide (x6_2 < (t210.length : Int)) = true := decide_eq_true c21
                          clear c21
                          by_cases c22 : x7_4 < ((rd_L4 t210 x6_2).length : Int)
                          · rw [if_pos c22] at H
                            have c22b0 : decide (x7_4 < ((rd_L4 t210 x6_2).length : Int)) = true := decide_eq_true c22
                            clear c22
                            by_cases c23 : x5_4 ≥ (l0.length : Int)
                            · rw [if_pos c23] at H
                              have c23b0 : decide ((l0.length : Int) ≤ x5_4) = true := decide_eq_true c23
                              clear c23
                              obtain rfl := Option.some.inj H
                              have p214 : 0 ≤ (x6_2 : Int) := of_decide_eq_true (by first | (with_reducible assumption) | assumption)
                              have q214 : x6_2 < (t210.length : Int) := of_decide_eq_true (by first | (with_reducible assumption) | assumption)
                              obtain ⟨ad214, A214_0, c214_0, e214, hx214_0, hl214_0, hi214_0⟩ := at_L4 (Kd.S_reads' HO_4.out).2.2 x6_2 p214 q214
                              cases e214
                              obtain ⟨ce214, hce214, hMe214, hcc214⟩ := Kd.S_get HO_4.out [] x6_2 p214 (by first | exact q214 | exact of_decide_eq_true (by first | (with_reducible assumption) | assumption) | (have e_ := (Kd.S_reads' HO_4.out).1; omega))
                              obtain ⟨ve214_0, rfl, ge214_0⟩ := hMe214
                              have hv214_0 := hcc214 0 _ rfl
                              rw [Nat.add_zero, show ((Kd.slice 33 k33)).sz = 1 from rfl, Nat.mul_one] at hv214_0
                              replace hv214_0 := Option.some.inj (hv214_0.symm.trans hx214_0)
                              rw [hv214_0] at ge214_0
                              have HL214_0 := Aside0.mk (show Kd.R k33 33 _ _ _ _ (rd_L4 t210 x6_2) from ge214_0)
                              clear hv214_0 ge214_0
                              clear hcc214 hce214
                              have HR214_0 := Aside0.mk hi214_0
                              have HC214_0 := Aside0.mk hl214_0
                              clear hi214_0 hl214_0
                              replace p214 := eq_true p214
                              replace q214 := eq_true q214
                              go_wp2
                              repeat (go_quiet (fail); try go_wp2)
                              go_ret
                              exact ⟨by first | rfl | (simp [errW_none, errW_some] <;> rfl) | (simp [*, errW_none, errW_some] <;> rfl), by repeat (first | (with_reducible first | exact HB.out | apply below_alloc | apply pw_below_drewN | apply below_drew1) | exact HB.out)⟩
                            · rw [if_neg c23] at H
                              have c23b0 : decide ((l0.length : Int) ≤ x5_4) = false := decide_eq_false c23
                              clear c23
                              by_cases c24 : 0 ≤ x7_4
                              · rw [if_pos c24] at H
                                have c24b0 : decide (0 ≤ x7_4) = true := decide_eq_true c24
                                clear c24
                                by_cases c25 : 0 ≤ x5_4
                                · rw [if_pos c25] at H
                                  have c25b0 : decide (0 ≤ x5_4) = true := decide_eq_true c25
                                  clear c25
                                  by_cases c26 : x5_4 < (l0.length : Int)
                                  · rw [if_pos c26] at H
                                    have c26b0 : decide (x5_4 < (l0.length : Int)) = true := decide_eq_true c26
                                    clear c26
                                    by_cases c27 : (!(((rd_T33 (rd_L4 t210 x6_2) x7_4).f0) == ((rd_T33 l0 x5_4).f0)) || (!((((rd_T33 (rd_L4 t210 x6_2) x7_4).f1).toList) == (((rd_T33 l0 x5_4).f1).toList)) || (!(((rd_T33 (rd_L4 t210 x6_2) x7_4).f2) == ((rd_T33 l0 x5_4).f2)) || (!(((rd_T33 (rd_L4 t210 x6_2) x7_4).f3) == ((rd_T33 l0 x5_4).f3)))))) = true
                                    · rw [if_pos c27] at H
                                      have c27b0 : (!(((rd_T33 (rd_L4 t210 x6_2) x7_4).f0) == ((rd_T33 l0 x5_4).f0)) || (!((((rd_T33 (rd_L4 t210 x6_2) x7_4).f1).toList) == (((rd_T33 l0 x5_4).f1).toList)) || (!(((rd_T33 (rd_L4 t210 x6_2) x7_4).f2) == ((rd_T33 l0 x5_4).f2)) || (!(((rd_T33 (rd_L4 t210 x6_2) x7_4).f3) == ((rd_T33 l0 x5_4).f3)))))) = true := c27
                                      clear c27
                                      obtain rfl := Option.some.inj H
                                      have p214 : 0 ≤ (x6_2 : Int) := of_decide_eq_true (by first | (with_reducible assumption) | assumption)
                                      have q214 : x6_2 < (t210.length : Int) := of_decide_eq_true (by first | (with_reducible assumption) | assumption)
                                      obtain ⟨ad214, A214_0, c214_0, e214, hx214_0, hl214_0, hi214_0⟩ := at_L4 (Kd.S_reads' HO_4.out).2.2 x6_2 p214 q214
                                      cases e214
                                      obtain ⟨ce214, hce214, hMe214, hcc214⟩ := Kd.S_get HO_4.out [] x6_2 p214 (by first | exact q214 | exact of_decide_eq_true (by first | (with_reducible assumption) | assumption) | (have e_ := (Kd.S_reads' HO_4.out).1; omega))
                                      obtain ⟨ve214_0, rfl, ge214_0⟩ := hMe214
                                      have hv214_0 := hcc214 0 _ rfl
                                      rw [Nat.add_zero, show ((Kd.slice 33 k33)).sz = 1 from rfl, Nat.mul_one] at hv214_0
                                      replace hv214_0 := Option.some.inj (hv214_0.symm.trans hx214_0)
                                      rw [hv214_0] at ge214_0
                                      have HL214_0 := Aside0.mk (show Kd.R k33 33 _ _ _ _ (rd_L4 t210 x6_2) from ge214_0)
                                      clear hv214_0 ge214_0
                                      clear hcc214 hce214
                                      have HR214_0 := Aside0.mk hi214_0
                                      have HC214_0 := Aside0.mk hl214_0
                                      clear hi214_0 hl214_0
                                      replace p214 := eq_true p214
                                      replace q214 := eq_true q214
                                      have p215 : 0 ≤ (x6_2 : Int) := of_decide_eq_true (by first | (with_reducible assumption) | assumption)
                                      have q215 : x6_2 < (t210.length : Int) := of_decide_eq_true (by first | (with_reducible assumption) | assumption)
                                      obtain ⟨ad215, A215_0, c215_0, e215, hx215_0, hl215_0, hi215_0⟩ := at_L4 (Kd.S_reads' HO_4.out).2.2 x6_2 p215 q215
                                      obtain rfl : ad214 = ad215 := (by injection e215)
                                      obtain ⟨ce215, hce215, hMe215, hcc215⟩ := Kd.S_get HO_4.out [] x6_2 p215 (by first | exact q215 | exact of_decide_eq_true (by first | (with_reducible assumption) | assumption) | (have e_ := (Kd.S_reads' HO_4.out).1; omega))
                                      obtain ⟨ve215_0, rfl, ge215_0⟩ := hMe215
                                      have hv215_0 := hcc215 0 _ rfl
                                      rw [Nat.add_zero, show ((Kd.slice 33 k33)).sz = 1 from rfl, Nat.mul_one] at hv215_0
                                      replace hv215_0 := Option.some.inj (hv215_0.symm.trans hx215_0)
                                      rw [hv215_0] at ge215_0
                                      have HL215_0 := Aside0.mk (show Kd.R k33 33 _ _ _ _ (rd_L4 t210 x6_2) from ge215_0)
                                      clear hv215_0 ge215_0
                                      clear hcc215 hce215
                                      have HR215_0 := Aside0.mk hi215_0
                                      have HC215_0 := Aside0.mk hl215_0
                                      clear hi215_0 hl215_0
                                      replace p215 := eq_true p215
                                      replace q215 := eq_true q215
                                      have ea_ := Option.some.inj (hx214_0.symm.trans hx215_0)
                                      injection ea_ with ea_ en_ ec_
                                      subst ea_
                                      subst ec_
                                      clear en_
                                      have p216 : 0 ≤ (x7_4 : Int) := of_decide_eq_true (by first | (with_reducible assumption) | assumption)
                                      have q216 : x7_4 < ((rd_L4 t210 x6_2).length : Int) := of_decide_eq_true (by first | (with_reducible assumption) | assumption)
                                      obtain ⟨ad216, e216, hx216_0, hx216_1, hx216_2, hx216_3⟩ := at_T33 (by repeat (first | (with_reducible exact HR215_0.out) | (with_reducible refine Kd.C_alloc ?_ _) | (with_reducible refine Kd.C_drewN ?_ _) | (with_reducible refine Kd.C_drew ?_) | exact HR215_0.out)) x7_4 p216 q216
                                      cases e216
                                      replace p216 := eq_true p216
                                      replace q216 := eq_true q216
                                      have p217 : 0 ≤ (x5_4 : Int) := of_decide_eq_true (by first | (with_reducible assumption) | assumption)
                                      have q217 : x5_4 < (l0.length : Int) := of_decide_eq_true (by first | (with_reducible assumption) | assumption)
                                      obtain ⟨ad217, e217, hx217_0, hx217_1, hx217_2, hx217_3⟩ := at_T33 HR0.out x5_4 p217 q217
                                      cases e217
                                      replace hx217_0 := (HB.out.cell (World.block_lt_of_cell? w _ hx217_0)).trans hx217_0
                                      replace hx217_1 := (HB.out.cell (World.block_lt_of_cell? w _ hx217_1)).trans hx217_1
                                      replace hx217_2 := (HB.out.cell (World.block_lt_of_cell? w _ hx217_2)).trans hx217_2
                                      replace hx217_3 := (HB.out.cell (World.block_lt_of_cell? w _ hx217_3)).trans hx217_3
                                      replace p217 := eq_true p217
                                      replace q217 := eq_true q217
                                      go_wp2
                                      repeat (go_quiet (fail); try go_wp2)
                                      go_ret
                                      exact ⟨by first | rfl | (simp [errW_none, errW_some] <;> rfl) | (simp [*, errW_none, errW_some] <;> rfl), by repeat (first | (with_reducible first | exact HB.out | apply below_alloc | apply pw_below_drewN | apply below_drew1) | exact HB.out)⟩
                                    · rw [if_neg c27] at H
                                      have c27b0 : (!(((rd_T33 (rd_L4 t210 x6_2) x7_4).f0) == ((rd_T33 l0 x5_4).f0)) || (!((((rd_T33 (rd_L4 t210 x6_2) x7_4).f1).toList) == (((rd_T33 l0 x5_4).f1).toList)) || (!(((rd_T33 (rd_L4 t210 x6_2) x7_4).f2) == ((rd_T33 l0 x5_4).f2)) || (!(((rd_T33 (rd_L4 t210 x6_2) x7_4).f3) == ((rd_T33 l0 x5_4).f3)))))) = false := by simpa using c27
                                      clear c27
                                      by_cases c28 : ((rd_T33 l0 x5_4).f0) = 5
                                      · rw [if_pos c28] at H
                                        have c28b0 : (((rd_T33 l0 x5_4).f0) == 5) = true := beq_iff_eq.mpr c28
                                        have c28b1 : (((rd_T33 l0 x5_4).f0) != 5) = false := bne_eq_false_iff_eq.mpr c28
                                        clear c28
                                        obtain rfl := Option.some.inj H
                                        have p214 : 0 ≤ (x6_2 : Int) := of_decide_eq_true (by first | (with_reducible assumption) | assumption)
                                        have q214 : x6_2 < (t210.length : Int) := of_decide_eq_true (by first | (with_reducible assumption) | assumption)
                                        obtain ⟨ad214, A214_0, c214_0, e214, hx214_0, hl214_0, hi214_0⟩ := at_L4 (Kd.S_reads' HO_4.out).2.2 x6_2 p214 q214
                                        cases e214
                                        obtain ⟨ce214, hce214, hMe214, hcc214⟩ := Kd.S_get HO_4.out [] x6_2 p214 (by first | exact q214 | exact of_decide_eq_true (by first | (with_reducible assumption) | assumption) | (have e_ := (Kd.S_reads' HO_4.out).1; omega))
                                        obtain ⟨ve214_0, rfl, ge214_0⟩ := hMe214
                                        have hv214_0 := hcc214 0 _ rfl
                                        rw [Nat.add_zero, show ((Kd.slice 33 k33)).sz = 1 from rfl, Nat.mul_one] at hv214_0
                                        replace hv214_0 := Option.some.inj (hv214_0.symm.trans hx214_0)
                                        rw [hv214_0] at ge214_0
                                        have HL214_0 := Aside0.mk (show Kd.R k33 33 _ _ _ _ (rd_L4 t210 x6_2) from ge214_0)
                                        clear hv214_0 ge214_0
                                        clear hcc214 hce214
                                        have HR214_0 := Aside0.mk hi214_0
                                        have HC214_0 := Aside0.mk hl214_0
                                        clear hi214_0 hl214_0
                                        replace p214 := eq_true p214
                                        replace q214 := eq_true q214
                                        have p215 : 0 ≤ (x6_2 : Int) := of_decide_eq_true (by first | (with_reducible assumption) | assumption)
                                        have q215 : x6_2 < (t210.length : Int) := of_decide_eq_true (by first | (with_reducible assumption) | assumption)
                                        obtain ⟨ad215, A215_0, c215_0, e215, hx215_0, hl215_0, hi215_0⟩ := at_L4 (Kd.S_reads' HO_4.out).2.2 x6_2 p215 q215
                                        obtain rfl : ad214 = ad215 := (by injection e215)
                                        obtain ⟨ce215, hce215, hMe215, hcc215⟩ := Kd.S_get HO_4.out [] x6_2 p215 (by first | exact q215 | exact of_decide_eq_true (by first | (with_reducible assumption) | assumption) | (have e_ := (Kd.S_reads' HO_4.out).1; omega))
                                        obtain ⟨ve215_0, rfl, ge215_0⟩ := hMe215
                                        have hv215_0 := hcc215 0 _ rfl
                                        rw [Nat.add_zero, show ((Kd.slice 33 k33)).sz = 1 from rfl, Nat.mul_one] at hv215_0
                                        replace hv215_0 := Option.some.inj (hv215_0.symm.trans hx215_0)
                                        rw [hv215_0] at ge215_0
                                        have HL215_0 := Aside0.mk (show Kd.R k33 33 _ _ _ _ (rd_L4 t210 x6_2) from ge215_0)
                                        clear hv215_0 ge215_0
                                        clear hcc215 hce215
                                        have HR215_0 := Aside0.mk hi215_0
                                        have HC215_0 := Aside0.mk hl215_0
                                        clear hi215_0 hl215_0
                                        replace p215 := eq_true p215
                                        replace q215 := eq_true q215
                                        have ea_ := Option.some.inj (hx214_0.symm.trans hx215_0)
                                        injection ea_ with ea_ en_ ec_
                                        subst ea_
                                        subst ec_
                                        clear en_
                                        have p216 : 0 ≤ (x7_4 : Int) := of_decide_eq_true (by first | (with_reducible assumption) | assumption)
                                        have q216 : x7_4 < ((rd_L4 t210 x6_2).length : Int) := of_decide_eq_true (by first | (with_reducible assumption) | assumption)
                                        obtain ⟨ad216, e216, hx216_0, hx216_1, hx216_2, hx216_3⟩ := at_T33 (by repeat (first | (with_reducible exact HR215_0.out) | (with_reducible refine Kd.C_alloc ?_ _) | (with_reducible refine Kd.C_drewN ?_ _) | (with_reducible refine Kd.C_drew ?_) | exact HR215_0.out)) x7_4 p216 q216
                                        cases e216
                                        replace p216 := eq_true p216
                                        replace q216 := eq_true q216
                                        have p217 : 0 ≤ (x5_4 : Int) := of_decide_eq_true (by first | (with_reducible assumption) | assumption)
                                        have q217 : x5_4 < (l0.length : Int) := of_decide_eq_true (by first | (with_reducible assumption) | assumption)
                                        obtain ⟨ad217, e217, hx217_0, hx217_1, hx217_2, hx217_3⟩ := at_T33 HR0.out x5_4 p217 q217
                                        cases e217
                                        replace hx217_0 := (HB.out.cell (World.block_lt_of_cell? w _ hx217_0)).trans hx217_0
                                        replace hx217_1 := (HB.out.cell (World.block_lt_of_cell? w _ hx217_1)).trans hx217_1
                                        replace hx217_2 := (HB.out.cell (World.block_lt_of_cell? w _ hx217_2)).trans hx217_2
                                        replace hx217_3 := (HB.out.cell (World.block_lt_of_cell? w _ hx217_3)).trans hx217_3
                                        replace p217 := eq_true p217
                                        replace q217 := eq_true q217
                                        have p218 : 0 ≤ (x5_4 : Int) := of_decide_eq_true (by first | (with_reducible assumption) | assumption)
                                        have q218 : x5_4 < (l0.length : Int) := of_decide_eq_true (by first | (with_reducible assumption) | assumption)
                                        obtain ⟨ad218, e218, hx218_0, hx218_1, hx218_2, hx218_3⟩ := at_T33 HR0.out x5_4 p218 q218
                                        obtain rfl : ad217 = ad218 := (by injection e218)
                                        replace hx218_0 := (HB.out.cell (World.block_lt_of_cell? w _ hx218_0)).trans hx218_0
                                        replace hx218_1 := (HB.out.cell (World.block_lt_of_cell? w _ hx218_1)).trans hx218_1
                                        replace hx218_2 := (HB.out.cell (World.block_lt_of_cell? w _ hx218_2)).trans hx218_2
                                        replace hx218_3 := (HB.out.cell (World.block_lt_of_cell? w _ hx218_3)).trans hx218_3
                                        replace p218 := eq_true p218
                                        replace q218 := eq_true q218
                                        go_wp2
                                        repeat (go_quiet (fail); try go_wp2)
                                        go_ret
                                        exact ⟨by first | rfl | (simp [errW_none, errW_some] <;> rfl) | (simp [*, errW_none, errW_some] <;> rfl), by repeat (first | (with_reducible first | exact HB.out | apply below_alloc | apply pw_below_drewN | apply below_drew1) | exact HB.out)⟩
                                      · rw [if_neg c28] at H
                                        have c28b0 : (((rd_T33 l0 x5_4).f0) == 5) = false := beq_eq_false_iff_ne.mpr c28
                                        have c28b1 : (((rd_T33 l0 x5_4).f0) != 5) = true := bne_iff_ne.mpr c28
                                        have H' := Aside0.mk H
                                        clear H
                                        have p214 : 0 ≤ (x6_2 : Int) := of_decide_eq_true (by first | (with_reducible assumption) | assumption)
                                        have q214 : x6_2 < (t210.length : Int) := of_decide_eq_true (by first | (with_reducible assumption) | assumption)
                                        obtain ⟨ad214, A214_0, c214_0, e214, hx214_0, hl214_0, hi214_0⟩ := at_L4 (Kd.S_reads' HO_4.out).2.2 x6_2 p214 q214
                                        cases e214
                                        obtain ⟨ce214, hce214, hMe214, hcc214⟩ := Kd.S_get HO_4.out [] x6_2 p214 (by first | exact q214 | exact of_decide_eq_true (by first | (with_reducible assumption) | assumption) | (have e_ := (Kd.S_reads' HO_4.out).1; omega))
                                        obtain ⟨ve214_0, rfl, ge214_0⟩ := hMe214
                                        have hv214_0 := hcc214 0 _ rfl
                                        rw [Nat.add_zero, show ((Kd.slice 33 k33)).sz = 1 from rfl, Nat.mul_one] at hv214_0
                                        replace hv214_0 := Option.some.inj (hv214_0.symm.trans hx214_0)
                                        rw [hv214_0] at ge214_0
                                        have HL214_0 := Aside0.mk (show Kd.R k33 33 _ _ _ _ (rd_L4 t210 x6_2) from ge214_0)
                                        clear hv214_0 ge214_0
                                        clear hcc214 hce214
                                        have HR214_0 := Aside0.mk hi214_0
                                        have HC214_0 := Aside0.mk hl214_0
                                        clear hi214_0 hl214_0
                                        replace p214 := eq_true p214
                                        replace q214 := eq_true q214
                                        have p215 : 0 ≤ (x6_2 : Int) := of_decide_eq_true (by first | (with_reducible assumption) | assumption)
                                        have q215 : x6_2 < (t210.length : Int) := of_decide_eq_true (by first | (with_reducible assumption) | assumption)
                                        obtain ⟨ad215, A215_0, c215_0, e215, hx215_0, hl215_0, hi215_0⟩ := at_L4 (Kd.S_reads' HO_4.out).2.2 x6_2 p215 q215
                                        obtain rfl : ad214 = ad215 := (by injection e215)
                                        obtain ⟨ce215, hce215, hMe215, hcc215⟩ := Kd.S_get HO_4.out [] x6_2 p215 (by first | exact q215 | exact of_decide_eq_true (by first | (with_reducible assumption) | assumption) | (have e_ := (Kd.S_reads' HO_4.out).1; omega))
                                        obtain ⟨ve215_0, rfl, ge215_0⟩ := hMe215
                                        have hv215_0 := hcc215 0 _ rfl
                                        rw [Nat.add_zero, show ((Kd.slice 33 k33)).sz = 1 from rfl, Nat.mul_one] at hv215_0
                                        replace hv215_0 := Option.some.inj (hv215_0.symm.trans hx215_0)
                                        rw [hv215_0] at ge215_0
                                        have HL215_0 := Aside0.mk (show Kd.R k33 33 _ _ _ _ (rd_L4 t210 x6_2) from ge215_0)
                                        clear hv215_0 ge215_0
                                        clear hcc215 hce215
                                        have HR215_0 := Aside0.mk hi215_0
                                        have HC215_0 := Aside0.mk hl215_0
                                        clear hi215_0 hl215_0
                                        replace p215 := eq_true p215
                                        replace q215 := eq_true q215
                                        have ea_ := Option.some.inj (hx214_0.symm.trans hx215_0)
                                        injection ea_ with ea_ en_ ec_
                                        subst ea_
                                        subst ec_
                                        clear en_
                                        have p216 : 0 ≤ (x7_4 : Int) := of_decide_eq_true (by first | (with_reducible assumption) | assumption)
                                        have q216 : x7_4 < ((rd_L4 t210 x6_2).length : Int) := of_decide_eq_true (by first | (with_reducible assumption) | assumption)
                                        obtain ⟨ad216, e216, hx216_0, hx216_1, hx216_2, hx216_3⟩ := at_T33 (by repeat (first | (with_reducible exact HR215_0.out) | (with_reducible refine Kd.C_alloc ?_ _) | (with_reducible refine Kd.C_drewN ?_ _) | (with_reducible refine Kd.C_drew ?_) | exact HR215_0.out)) x7_4 p216 q216
                                        cases e216
                                        replace p216 := eq_true p216
                                        replace q216 := eq_true q216
                                        have p217 : 0 ≤ (x5_4 : Int) := of_decide_eq_true (by first | (with_reducible assumption) | assumption)
                                        have q217 : x5_4 < (l0.length : Int) := of_decide_eq_true (by first | (with_reducible assumption) | assumption)
                                        obtain ⟨ad217, e217, hx217_0, hx217_1, hx217_2, hx217_3⟩ := at_T33 HR0.out x5_4 p217 q217
                                        cases e217
                                        replace hx217_0 := (HB.out.cell (World.block_lt_of_cell? w _ hx217_0)).trans hx217_0
                                        replace hx217_1 := (HB.out.cell (World.block_lt_of_cell? w _ hx217_1)).trans hx217_1
                                        replace hx217_2 := (HB.out.cell (World.block_lt_of_cell? w _ hx217_2)).trans hx217_2
                                        replace hx217_3 := (HB.out.cell (World.block_lt_of_cell? w _ hx217_3)).trans hx217_3
                                        replace p217 := eq_true p217
                                        replace q217 := eq_true q217
                                        have p218 : 0 ≤ (x5_4 : Int) := of_decide_eq_true (by first | (with_reducible assumption) | assumption)
                                        have q218 : x5_4 < (l0.length : Int) := of_decide_eq_true (by first | (with_reducible assumption) | assumption)
                                        obtain ⟨ad218, e218, hx218_0, hx218_1, hx218_2, hx218_3⟩ := at_T33 HR0.out x5_4 p218 q218
                                        obtain rfl : ad217 = ad218 := (by injection e218)
                                        replace hx218_0 := (HB.out.cell (World.block_lt_of_cell? w _ hx218_0)).trans hx218_0
                                        replace hx218_1 := (HB.out.cell (World.block_lt_of_cell? w _ hx218_1)).trans hx218_1
                                        replace hx218_2 := (HB.out.cell (World.block_lt_of_cell? w _ hx218_2)).trans hx218_2
                                        replace hx218_3 := (HB.out.cell (World.block_lt_of_cell? w _ hx218_3)).trans hx218_3
                                        replace p218 := eq_true p218
                                        replace q218 := eq_true q218
                                        go_wp2
                                        repeat (go_quiet (fail); try go_wp2)
                                        go_roundg k4
                                        case measure => have := HJ2.out; have := HK2.out; have := HJ12.out; have := HK4.out; omega
                                        case rel => exact ⟨(wrap64 (x5_4 + 1)), (wrap64 (x7_4 + 1)), (by first | rfl | (simp; done) | (simp [*]; done)), (by first | rfl | (simp; done) | (simp [*]; done)), H', ⟨by have := HJ2.out; have := HK2.out; have := HJ12.out; have := HK4.out; omega⟩, ⟨by (with_reducible repeat (first | apply Kd.S_alloc | apply Kd.S_drewN | apply Kd.S_drew)); exact HO_4.out⟩, ⟨by repeat (first | (with_reducible first | exact HB.out | apply below_alloc | apply pw_below_drewN | apply below_drew1) | exact HB.out)⟩⟩
                                  · rw [if_neg c26] at H
                                    exact absurd H (by simp)
                                · rw [if_neg c25] at H
                                  exact absurd H (by simp)
                              · rw [if_neg c24] at H
                                exact absurd H (by simp)
                          · rw [if_neg c22] at H
                            have c22b0 : decide (x7_4 < ((rd_L4 t210 x6_2).length : Int)) = false := decide_eq_false c22
                            clear c22
                            have H' := Aside0.mk H
                            clear H
                            have p214 : 0 ≤ (x6_2 : Int) := of_decide_eq_true (by first | (with_reducible assumption) | assumption)
                            have q214 : x6_2 < (t210.length : Int) := of_decide_eq_true (by first | (with_reducible assumption) | assumption)
                            obtain ⟨ad214, A214_0, c214_0, e214, hx214_0, hl214_0, hi214_0⟩ := at_L4 (Kd.S_reads' HO_4.out).2.2 x6_2 p214 q214
                            cases e214
                            obtain ⟨ce214, hce214, hMe214, hcc214⟩ := Kd.S_get HO_4.out [] x6_2 p214 (by first | exact q214 | exact of_decide_eq_true (by first | (with_reducible assumption) | assumption) | (have e_ := (Kd.S_reads' HO_4.out).1; omega))
                            obtain ⟨ve214_0, rfl, ge214_0⟩ := hMe214
                            have hv214_0 := hcc214 0 _ rfl
                            rw [Nat.add_zero, show ((Kd.slice 33 k33)).sz = 1 from rfl, Nat.mul_one] at hv214_0
                            replace hv214_0 := Option.some.inj (hv214_0.symm.trans hx214_0)
                            rw [hv214_0] at ge214_0
                            have HL214_0 := Aside0.mk (show Kd.R k33 33 _ _ _ _ (rd_L4 t210 x6_2) from ge214_0)
                            clear hv214_0 ge214_0
                            clear hcc214 hce214
                            have HR214_0 := Aside0.mk hi214_0
                            have HC214_0 := Aside0.mk hl214_0
                            clear hi214_0 hl214_0
                            replace p214 := eq_true p214
                            replace q214 := eq_true q214
                            go_wp2
                            repeat (go_quiet (fail); try go_wp2)
                            go_roundg k4
                            case measure => have := HJ2.out; have := HK2.out; have := HJ12.out; have := HK4.out; omega
                            case rel => exact ⟨(x5_4), (wrap64 (x6_2 + 1)), (by first | rfl | (simp; done) | (simp [*]; done)), (by first | rfl | (simp; done) | (simp [*]; done)), H', ⟨by have := HJ2.out; have := HK2.out; have := HJ12.out; have := HK4.out; omega⟩, ⟨by (with_reducible repeat (first | apply Kd.S_alloc | apply Kd.S_drewN | apply Kd.S_drew)); exact HO_4.out⟩, ⟨by repeat (first | (with_reducible first | exact HB.out | apply below_alloc | apply pw_below_drewN | apply below_drew1) | exact HB.out)⟩⟩
                        · rw [if_neg c21] at H
                          exact absurd H (by simp)
                      · rw [if_neg c20] at H
                        exact absurd H (by simp)
            · rw [if_neg c12] at H
              have c12b0 : decide (x6_2 < (t210.length : Int)) = false := decide_eq_false c12
              clear c12
              by_cases c29 : t208 = true
              · subst c29
                have H1 : (if x5_2 = (l0.length : Int) then (some (decide ((t210.length : Int) > 0))) else (some false)) = some r := by rw [if_pos rfl] at H; exact H
                clear H
                have H := H1
                clear H1
                by_cases c30 : x5_2 = (l0.length : Int)
                · rw [if_pos c30] at H
                  have c30b0 : (x5_2 == (l0.length : Int)) = true := beq_iff_eq.mpr c30
                  have c30b1 : (x5_2 != (l0.length : Int)) = false := bne_eq_false_iff_eq.mpr c30
                  clear c30
                  obtain rfl := Option.some.inj H
                  obtain ⟨Ao31, co31, eo31⟩ := Kd.S_slice HO_4.out
                  subst eo31
                  go_wp2
                  repeat (go_quiet (fail); try go_wp2)
                  go_ret
                  exact ⟨by first | rfl | (simp [errW_none, errW_some] <;> rfl) | (simp [*, errW_none, errW_some] <;> rfl), by repeat (first | (with_reducible first | exact HB.out | apply below_alloc | apply pw_below_drewN | apply below_drew1) | exact HB.out)⟩
                · rw [if_neg c30] at H
                  have c30b0 : (x5_2 == (l0.length : Int)) = false := beq_eq_false_iff_ne.mpr c30
                  have c30b1 : (x5_2 != (l0.length : Int)) = true := bne_iff_ne.mpr c30
                  obtain rfl := Option.some.inj H
                  obtain ⟨Ao32, co32, eo32⟩ := Kd.S_slice HO_4.out
                  subst eo32
                  go_wp2
                  repeat (go_quiet (fail); try go_wp2)
                  go_ret
                  exact ⟨by first | rfl | (simp [errW_none, errW_some] <;> rfl) | (simp [*, errW_none, errW_some] <;> rfl), by repeat (first | (with_reducible first | exact HB.out | apply below_alloc | apply pw_below_drewN | apply below_drew1) | exact HB.out)⟩
              · replace c29 := Bool.eq_false_iff.mpr c29
                subst c29
                have H1 : (some false) = some r := by rw [if_neg (show ¬ (false = true) by decide)] at H; exact H
                clear H
                have H := H1
                clear H1
                obtain rfl := Option.some.inj H
                obtain ⟨Ao33, co33, eo33⟩ := Kd.S_slice HO_4.out
                subst eo33
                go_wp2
                repeat (go_quiet (fail); try go_wp2)
                go_ret
                exact ⟨by first | rfl | (simp [errW_none, errW_some] <;> rfl) | (simp [*, errW_none, errW_some] <;> rfl), by repeat (first | (with_reducible first | exact HB.out | apply below_alloc | apply pw_below_drewN | apply below_drew1) | exact HB.out)⟩

/-- THE ONE PURE STATEMENT of retargetlaw07_LexerLines: yours. -/
def retargetlaw07_LexerLines.Pure : Prop := ∀ (l0 : List (S33)), XOk33 l0 → ∃ k, retargetlaw07_LexerLines.f k l0 = some true
theorem retargetlaw07_LexerLines.walk (P : retargetlaw07_LexerLines.Pure) (A0 : Option Addr) (c0 : Nat) (l0 : List (S33)) (w : World) (ok0 : XOk33 l0) (hr0 : Kd.C k33 w A0 l0.length l0) (hc0 : l0.length ≤ c0) (hL : Lex.Laid w) :
    Calls Tryd.prog 7 #[.slice A0 l0.length c0] w fun e w' => e = .returned (.bool true) ∧ Below w.heap.size w w' := by
  obtain ⟨k, h⟩ := P l0 ok0
  refine (retargetlaw07_LexerLines.calls k _ _ l0 true w hL hr0 hc0 h).mono ?_
  rintro e w' ⟨rfl, hd⟩
  exact ⟨rfl, hd⟩

end Go.Proofs.YtbaojlfnbfbjmaaDoor.PLex
