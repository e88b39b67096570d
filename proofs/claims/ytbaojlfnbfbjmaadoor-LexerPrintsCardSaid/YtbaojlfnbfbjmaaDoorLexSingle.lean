/- The lexer's reading functions: the closure for marks and line feeds, and quoted texts. -/
import Derived.Test.YtbaojlfnbfbjmaaDoorLexName
import Derived.IntWalk
import Derived.RegionTactic
import Derived.BigRegion
import Derived.StillTactics
import Derived.StillTailTactics
namespace Go.Proofs.YtbaojlfnbfbjmaaDoor
open Go.RowKit Go.Proofs.YtbaojlfnbfbjmaaDoorW.PrintWords Go.Proofs.YtbaojlfnbfbjmaaDoorW.PrintLast Go.Proofs.YtbaojlfnbfbjmaaDoorW.PrintMore
set_option linter.unusedVariables false
set_option linter.unusedSimpArgs false
namespace Lex
theorem set4_cell (W : World) (g0 : Nat) (a b c d : Value) {q : Addr} (h : q.block ≠ g0) : ((((W.setCell ⟨g0, 0, none⟩ a).setCell ⟨g0, 1, none⟩ b).setCell ⟨g0, 2, none⟩ c).setCell ⟨g0, 3, none⟩ d).cell? q = W.cell? q := by
  refine World.cell?_of_block ?_
  exact (Below.heap_setCell _ ⟨g0, 3, none⟩ _ _ h).trans ((Below.heap_setCell _ ⟨g0, 2, none⟩ _ _ h).trans ((Below.heap_setCell _ ⟨g0, 1, none⟩ _ _ h).trans (Below.heap_setCell _ ⟨g0, 0, none⟩ _ _ h)))
end Lex
namespace PLex
set_option maxHeartbeats 4000000 in
set_option maxRecDepth 100000 in
theorem single_calls (g b1 b2 : Nat) (s : ByteArray) (i : Nat) (kd : Nat) (w : World) (hs : s.size ≤ 140737488355328) (hi : i < s.size) (h : Lex.Rd w g s i)
    (h1 : w.cell? ⟨b1, 0, none⟩ = some (.pointer (some ⟨g, 0, none⟩))) (h2 : w.cell? ⟨b2, 0, none⟩ = some (.int .u8 kd)) (n1 : b1 ≠ g) (n2 : b2 ≠ g) (hk : kd ≠ 3) :
    Calls Tryd.prog 62 #[.pointer (some ⟨b1, 0, none⟩), .pointer (some ⟨b2, 0, none⟩)] w (Lex.ReadTo w g s i (some ⟨kd, [s[i]], 0⟩)) := by
  obtain ⟨o, ho⟩ : ∃ o : Option Lx.Tok, o = some ⟨kd, [s[i]], 0⟩ := ⟨_, rfl⟩
  rw [← ho]
  have HO := Lib.hid ho
  clear ho
  have HK := Lib.hid hk
  clear hk
  go_enter Tryd.func62, Tryd.ntmps62
  go_wp2_with (first
    | ((with_reducible refine gate_dst (N := 2) rfl ?_); refine box_event rfl (N := 2) rfl (cs := #[.int .u8 0, .string (⟨#[]⟩ : ByteArray), .int .i64 0, .int .i64 0]) (t := 33) ?hr ?_; (case hr => first | (go_simp; done) | (go_simp; rfl)); intro g0 hg w1 hbox hb; have HG := Aside0.mk hg; have HX := Aside0.mk hbox; have HB := Aside0.mk hb; have hR1 := h.below hb; have c0 := hR1.cell0; have c1 := hR1.cell1; have f1 := hR1.free 1; have hc1 := pw_cell_below hb h1; have hc2 := pw_cell_below hb h2; have HR1 := Aside0.mk hR1; clear hR1 hg hbox hb))
  have hlt1 := World.block_lt_of_cell? w _ h1
  have hlt2 := World.block_lt_of_cell? w _ h2
  have hltg := h.lt
  have ng : g ≠ g0 := by have := HG.out; omega
  have nb1 : b1 ≠ g0 := by have := HG.out; simp at hlt1; omega
  have nb2 : b2 ≠ g0 := by have := HG.out; simp at hlt2; omega
  obtain ⟨W, hW⟩ : ∃ W, W = w1.setCell ⟨g, 1, none⟩ (.int .i64 ((i : Int) + 1)) := ⟨_, rfl⟩
  rw [← hW]
  have HRW : Aside0 (Lex.Rd W g s ((i : Int) + 1)) := ⟨by rw [hW]; exact HR1.out.set _⟩
  have HXW := Aside0.mk (show W.heap[g0]? = some (.cells #[.int .u8 0, .string (⟨#[]⟩ : ByteArray), .int .i64 0, .int .i64 0] 33 (0, 0)) by rw [hW]; exact blk_far HX.out (Ne.symm ng) _)
  have hw1 : W.cell? ⟨b1, 0, none⟩ = some (.pointer (some ⟨g, 0, none⟩)) := by rw [hW]; exact (World.cell?_of_block (a := ⟨b1, 0, none⟩) (Below.heap_setCell w1 ⟨g, 1, none⟩ _ b1 n1)).trans hc1
  have hw2 : W.cell? ⟨b2, 0, none⟩ = some (.int .u8 kd) := by rw [hW]; exact (World.cell?_of_block (a := ⟨b2, 0, none⟩) (Below.heap_setCell w1 ⟨g, 1, none⟩ _ b2 n2)).trans hc2
  have HWK : Aside0 (Lex.Kb g w W) := ⟨by rw [hW]; exact Lex.kb_set (Lex.kb_below HB.out) _ _⟩
  have hw3 := HRW.out.cell0
  have hw4 := HRW.out.cell1
  have hcz0 := (blk_cell HXW.out 0).trans rfl
  have hcz1 := (blk_cell HXW.out 1).trans rfl
  have hcz2 := (blk_cell HXW.out 2).trans rfl
  have hcz3 := (blk_cell HXW.out 3).trans rfl
  have hfz0 := blk_frozen HXW.out 0
  have hfz1 := blk_frozen HXW.out 1
  have hfz2 := blk_frozen HXW.out 2
  have hfz3 := blk_frozen HXW.out 3
  clear hW c0 c1 f1 hc1 hc2
  have hi0 : (0 : Int) ≤ (i : Int) := by omega
  have hi1 : (i : Int) ≤ (i : Int) + 1 := by omega
  have hi2 : (i : Int) + 1 ≤ (s.size : Int) := by omega
  have hs1 : IntKind.i64.wrap ((i : Int) + 1 - 1) = (i : Int) := by rw [show (i : Int) + 1 - 1 = i by omega]; exact IntWalk.i64_in _ (by omega)
  have hs2 : IntKind.i64.wrap (i : Int) = (i : Int) := IntWalk.i64_in _ (by omega)
  have hkeep : (fun w' : World => w'.cell? ⟨g, 0, none⟩ = some (.string s) ∧ w'.cell? ⟨g, 1, none⟩ = some (.int .i64 ((i : Int) + 1)) ∧ w'.cell? ⟨b1, 0, none⟩ = some (.pointer (some ⟨g, 0, none⟩)) ∧ w'.cell? ⟨b2, 0, none⟩ = some (.int .u8 kd)) ((((W.setCell { block := g0, off := 0 } (Value.int IntKind.u8 ↑kd)).setCell { block := g0, off := 1 } (Value.string (s.extract i (i + 1)))).setCell { block := g0, off := 2 } (Value.int IntKind.i64 0)).setCell { block := g0, off := 3 } (Value.int IntKind.i64 0)).drew :=
    ⟨(Lex.set4_cell W g0 _ _ _ _ (q := ⟨g, 0, none⟩) ng).trans hw3, (Lex.set4_cell W g0 _ _ _ _ (q := ⟨g, 1, none⟩) ng).trans hw4, (Lex.set4_cell W g0 _ _ _ _ (q := ⟨b1, 0, none⟩) nb1).trans hw1, (Lex.set4_cell W g0 _ _ _ _ (q := ⟨b2, 0, none⟩) nb2).trans hw2⟩
  have HKP := Aside0.mk hkeep
  clear hkeep
  go_region_held3 (fun w' => w'.cell? ⟨g, 0, none⟩ = some (.string s) ∧ w'.cell? ⟨g, 1, none⟩ = some (.int .i64 ((i : Int) + 1)) ∧ w'.cell? ⟨b1, 0, none⟩ = some (.pointer (some ⟨g, 0, none⟩)) ∧ w'.cell? ⟨b2, 0, none⟩ = some (.int .u8 kd))
    (first | exact HKP.out | go_keep)
    (first | fail)
  go_wp2
  refine bodyPost_ret (results_ct rfl _ _ g0 33 #[.int .u8 kd, .string (s.extract i (i + 1)), .int .i64 0, .int .i64 0] (0, 0) _ rfl (blk_drew (blk_put (blk_put (blk_put (blk_put HXW.out 0 _ rfl) 1 _ rfl) 2 _ rfl) 3 _ rfl)) Tryd.underlying33 rfl (by kernel_rfl)) rfl ?_
  have h0 : w.heap.size ≤ g0 := by have := HG.out; omega
  have hR := (((HRW.out.far (p := ⟨g0, 0, none⟩) ng (.int .u8 kd)).far (p := ⟨g0, 1, none⟩) ng (.string (s.extract i (i + 1)))).far (p := ⟨g0, 2, none⟩) ng (.int .i64 0)).far (p := ⟨g0, 3, none⟩) ng (.int .i64 0)
  have hK := Lex.kb_drew (Lex.kb_far (Lex.kb_far (Lex.kb_far (Lex.kb_far HWK.out (p := ⟨g0, 0, none⟩) h0 (.int .u8 kd)) (p := ⟨g0, 1, none⟩) h0 (.string (s.extract i (i + 1)))) (p := ⟨g0, 2, none⟩) h0 (.int .i64 0)) (p := ⟨g0, 3, none⟩) h0 (.int .i64 0))
  rw [HO.out]
  refine ⟨?_, ?_, hK⟩
  · have e : s.extract i (i + 1) = Lex.BA [s[i]] := by
      rw [Lex.extract_L, Lex.dropL s i hi, show i + 1 - i = 1 by omega]
      rfl
    simp [Lex.tokV, e]
  · have e : ((i + (⟨kd, [s[i]], 0⟩ : Lx.Tok).written.length : Nat) : Int) = (i : Int) + 1 := by simp [Lx.Tok.written, HK.out]
    rw [e]
    exact ⟨hR.out⟩
end PLex
end Go.Proofs.YtbaojlfnbfbjmaaDoor
