/- The lexer's reading of numbers, where the digits are a number. -/
import Derived.Test.YtbaojlfnbfbjmaaDoorLexNumErr
namespace Go.Proofs.YtbaojlfnbfbjmaaDoor
open Go.RowKit Go.Proofs Go.Proofs.YtbaojlfnbfbjmaaDoorW.PrintWords Go.Proofs.YtbaojlfnbfbjmaaDoorW.PrintLast Go.Proofs.YtbaojlfnbfbjmaaDoorW.PrintMore
set_option linter.unusedVariables false
set_option linter.unusedSimpArgs false
namespace PLex
set_option maxHeartbeats 8000000 in
set_option maxRecDepth 100000 in
theorem number_ok (g : Nat) (s D D0 D1 D2 F : ByteArray) (hx : Bool) (n N base most c0 : Int) (fin : Bool) (i j : Nat) (w : World) (h : Lex.Rd w g s i) (hL : Lex.Laid w) (hg5 : 5 < g)
    (hix : ∀ W, (Instr.index 9 (.string D) (.int .i64 0)).run Tryd.prog W = .ok (.int .u8 c0) W) (hneg : ¬ (hx = true ∧ c0 = 45))
    (hW : ∀ W, Lex.Rd W g s i → Calls Tryd.prog 54 #[.pointer (some ⟨g, 0, none⟩)] W fun e w' => e = .returned (.string D) ∧ Lex.Rd w' g s j ∧ Lex.Kb g W w')
    (hT : ∀ W, Calls Tryd.prog 56 #[.string D, .string ⟨#[45]⟩] W fun e w' => e = .returned (.string D0) ∧ w' = W)
    (hC : ∀ W, Calls Tryd.prog 57 #[.string D, .string ⟨#[48, 120]⟩] W fun e w' => e = .returned (.tuple #[.string D1, .bool hx]) ∧ w' = W)
    (hD2 : D2 = if hx then D1 else D0) (hbase : base = if hx then 16 else 10) (hmost : most = if hx then 15 else 18)
    (hP : ∀ W, Lex.Laid W → Calls Tryd.prog 58 #[.string D2, .int .i64 base, .int .i64 64] W fun e w' => e = .returned (.tuple #[.int .i64 n, .nilIface]) ∧ Below W.heap.size W w') (hn0 : 0 ≤ n) (hn1 : n ≤ 9223372036854775807)
    (hF : ∀ W, Lex.Laid W → Calls Tryd.prog 59 #[.int .i64 n, .int .i64 base] W fun e w' => e = .returned (.string F) ∧ Below W.heap.size W w')
    (hN : N = if c0 = 45 then -n else n)
    (hfin : fin = (decide ((D2.size : Int) ≤ most) && decide (D2 = F) && (decide (c0 ≠ 45) || decide (0 < n)))) :
    Calls Tryd.prog 42 #[.pointer (some ⟨g, 0, none⟩)] w fun e w' => e = .returned (.tuple #[.agg (Lex.nTok D N), .bool fin]) ∧ Lex.Rd w' g s j ∧ Lex.Kb g w w' := by
  have hwn : IntKind.i64.wrap (-n) = -n := IntWalk.i64_in _ (by omega)
  have hwn2 : wrap64 (-n) = -n := Lex.w64 (by omega) (by omega)
  have hbeq : (D2.toList == F.toList) = decide (D2 = F) := by
    rw [ByteArray.toList_eq, ByteArray.toList_eq, Bool.eq_iff_iff]
    simp only [beq_iff_eq, decide_eq_true_eq]
    exact ⟨fun h => ByteArray.ext (Array.toList_inj.1 h), fun h => by rw [h]⟩
  have hcases : (¬ (D2.size : Int) ≤ most ∧ fin = false) ∨ ((D2.size : Int) ≤ most ∧ (D2.toList == F.toList) = false ∧ fin = false) ∨
      ((D2.size : Int) ≤ most ∧ (D2.toList == F.toList) = true ∧ ((c0 ≠ 45 ∧ fin = true) ∨ (c0 = 45 ∧ 0 < n ∧ fin = true) ∨ (c0 = 45 ∧ ¬ 0 < n ∧ fin = false))) := by
    rw [hbeq, hfin]
    by_cases hn45 : c0 = 45 <;> by_cases hlen : (D2.size : Int) ≤ most <;> by_cases heq : D2 = F <;> by_cases hnp : 0 < n <;> simp [hn45, hlen, heq, hnp] <;> simp_all
  clear hfin hbeq
  rcases hcases with ⟨hlen, rfl⟩ | ⟨hlen, heq, rfl⟩ | ⟨hlen, heq, ⟨hn45, rfl⟩ | ⟨hn45, hnp, rfl⟩ | ⟨hn45, hnp, rfl⟩⟩
  case' inl => by_cases hn45 : c0 = 45
  case' inr.inl => by_cases hn45 : c0 = 45
  all_goals
    simp only [hn45, if_true, if_false] at hN
    subst hN
    cases hx
  all_goals first
    | (exfalso; exact hneg ⟨rfl, hn45⟩)
    | skip
  all_goals
    simp only [Bool.false_eq_true, if_false, if_true] at hD2 hbase hmost
    subst hbase hmost
    subst hD2
    clear hneg
    go_enter Tryd.func42, Tryd.ntmps42
    go_wp2_with (first
      | ((with_reducible refine gate_dst (N := 2) rfl ?_); refine box_event rfl (N := 2) rfl (cs := Lex.zTok) (t := 33) ?hr ?_; (case hr => first | (go_simp; done) | (go_simp; rfl)); intro g0 hg w1 hbox hb; have HG := Aside0.mk hg; have HX := Aside0.mk hbox; have HB := Aside0.mk hb; clear hg hbox hb)
      | (go_at_call 54; refine (hW _ (h.below HB.out)).mono ?_; rintro e w2 ⟨rfl, hR2, hk2⟩; have HX2 := Aside0.mk ((hk2.block g0 (blk_lt HX.out) (by have := h.lt; have := HG.out; simp; omega)).trans HX.out); have HR2 := Aside0.mk hR2; have HK2 := Aside0.mk hk2; clear hR2 hk2)
      | ((with_reducible refine gate_dst (N := 5) rfl ?_); refine box_event rfl (N := 5) rfl (cs := Lex.zTok) (t := 33) ?hr ?_; (case hr => first | (go_simp; done) | (go_simp; rfl)); intro g1 hg w3 hbox hb; have HG1 := Aside0.mk hg; have HX3 := Aside0.mk hbox; have HB3 := Aside0.mk hb; have hcz0 : w3.cell? ⟨g1, 0, none⟩ = some (.int .u8 0) := blk_cell hbox 0; have hcz1 : w3.cell? ⟨g1, 1, none⟩ = some (.string (⟨#[]⟩ : ByteArray)) := blk_cell hbox 1; have hcz2 : w3.cell? ⟨g1, 2, none⟩ = some (.int .i64 0) := blk_cell hbox 2; have hcz3 : w3.cell? ⟨g1, 3, none⟩ = some (.int .i64 0) := blk_cell hbox 3; have hfz0 := blk_frozen hbox 0; have hfz1 := blk_frozen hbox 1; have hfz2 := blk_frozen hbox 2; have hfz3 := blk_frozen hbox 3; clear hg hbox hb)
      | (go_at_call 56; refine (hT _).mono ?_; rintro e w' ⟨rfl, rfl⟩)
      | (go_at_call 57; refine (hC _).mono ?_; rintro e w' ⟨rfl, rfl⟩)
      | (go_at_call 58; have HN0 := Aside0.mk (Lex.NumMem.start (w := w) D HX2.out HR2.out (Lex.kb_trans (Lex.kb_below HB.out) HK2.out) (Lex.kb_trans (Lex.kb_below HB.out) HK2.out).size HB3.out HG1.out HX3.out); refine (hP _ (hL.kb hg5 HN0.out.kb)).mono ?_; rintro e w4 ⟨rfl, hb4⟩; have HN := Aside0.mk (HN0.out.below hb4); have hNT := HN.out.tail (by have := HG1.out; have := blk_lt HX2.out; omega); obtain ⟨ta0, ta1, ta2, ta3, tz0, tz1, tz2, tz3, tf0, tf1, tf2, tf3, tn2, th2⟩ := hNT; clear hb4 HN0 hcz0 hcz1 hcz2 hcz3 hfz0 hfz1 hfz2 hfz3)
      | (go_at_call 59; refine (hF _ (hL.kb hg5 HN.out.kb)).mono ?_; rintro e w5 ⟨rfl, hb5⟩; have HN := Aside0.mk (HN.out.below hb5); have hNT := HN.out.tail (by have := HG1.out; have := blk_lt HX2.out; omega); obtain ⟨ta0, ta1, ta2, ta3, tz0, tz1, tz2, tz3, tf0, tf1, tf2, tf3, tn2, th2⟩ := hNT; clear hb5))
    have hne : g0 ≠ g1 := by have := HG1.out; have := blk_lt HX2.out; omega
    have hg0 : w.heap.size ≤ g0 := by have := HG.out; omega
    have hg1 : w.heap.size ≤ g1 := by have := HG1.out; have := blk_lt HX2.out; omega
    have hgl := h.lt
    refine bodyPost_ret (results_ct rfl _ _ g0 33 _ (0, 0) _ rfl (HN.out.last hne _) Tryd.underlying33 rfl (by kernel_rfl)) rfl ?_
    refine ⟨?_, HN.out.ends hg0 hg1 (by omega) (by omega) _⟩
    first | rfl | (rw [decide_eq_true hnp]; rfl) | (rw [decide_eq_false (Int.not_lt.2 hnp)]; rfl)
end PLex
end Go.Proofs.YtbaojlfnbfbjmaaDoor
