/- The lexer's forms: a map from classes to reading functions. -/
import Derived.Test.YtbaojlfnbfbjmaaDoorLexNumber
import Derived.Test.YtbaojlfnbfbjmaaDoorLexSingle
import Derived.Test.YtbaojlfnbfbjmaaDoorLexQuoted
import Derived.WideMake
namespace Go.Proofs.YtbaojlfnbfbjmaaDoor
open Go.RowKit Go.Proofs Go.Proofs.YtbaojlfnbfbjmaaDoorW.PrintWords Go.Proofs.YtbaojlfnbfbjmaaDoorW.PrintLast Go.Proofs.YtbaojlfnbfbjmaaDoorW.PrintMore
set_option linter.unusedVariables false
set_option linter.unusedSimpArgs false
namespace Lex
/-- The closure that reads a token of one byte. -/
def SingleAt (w : World) (lo g : Nat) (kd : Nat) (v : Value) : Prop :=
  ∃ b1 b2 : Nat, v = .func (.func 62) #[] #[.pointer (some ⟨b1, 0, none⟩), .pointer (some ⟨b2, 0, none⟩)] ∧ lo ≤ b1 ∧ lo ≤ b2 ∧
    w.cell? ⟨b1, 0, none⟩ = some (.pointer (some ⟨g, 0, none⟩)) ∧ w.cell? ⟨b2, 0, none⟩ = some (.int .u8 kd)
theorem alloc_new (w : World) (o : Obj) : (w.alloc o).heap[w.heap.size]? = some o := by
  show (w.heap.push o)[w.heap.size]? = some o
  simp
/-- A world whose map at r has one entry more. -/
def insW (W : World) (r : Nat) (es : Array MapEntry) (clock : Nat) (key val : Value) : World := { W with heap := W.heap.setIfInBounds r (.map (es.push { key, val, born := clock }) (clock + 1)) }
theorem run_ins {W : World} {r : Nat} {es : Array MapEntry} {clock : Nat} {n : Int} {val : Value} (hb : W.heap[r]? = some (.map es clock)) (hf : Instr.findNow (.int .u8) (.int .u8 n) es.toList 0 = some none) :
    (Instr.mapUpdate 52 (.map (some r)) (.int .u8 n) val).run Tryd.prog W = .ok () (insW W r es clock (.int .u8 n) val) := by
  have hm : Tryd.prog.underlying 52 = some (.map 5 54) := Tryd.underlying52
  have hc : (Instr.checkKey false 10000 5 (.int .u8 n)).run Tryd.prog W = .ok () W := MapKept.run_checkKey (k := .int .u8 n) Tryd.underlying5 (by simp [MapKept.IsKey]) false 9999
  simp [Instr.mapUpdate, run_underlying hm, MapKept.run_getObj_map hb, hc, MapKept.run_findKey Tryd.underlying5 hf, MapKept.run_setObj_map _ hb, Result.andThen, insW]
theorem insW_get {W : World} {r : Nat} {es : Array MapEntry} {clock : Nat} (hb : W.heap[r]? = some (.map es clock)) (key val : Value) :
    (insW W r es clock key val).heap[r]? = some (.map (es.push { key, val, born := clock }) (clock + 1)) := (MapKept.heap_set hb).1
theorem insW_far {W : World} {r : Nat} {es : Array MapEntry} {clock : Nat} (hb : W.heap[r]? = some (.map es clock)) (key val : Value) {b : Nat} (h : b ≠ r) :
    (insW W r es clock key val).heap[b]? = W.heap[b]? := (MapKept.heap_set hb).2 b h
theorem insW_below {B : Nat} {w W : World} {r : Nat} {es : Array MapEntry} {clock : Nat} (hw : Below B w W) (hr : B ≤ r) (hb : W.heap[r]? = some (.map es clock)) (key val : Value) : Below B w (insW W r es clock key val) :=
  ⟨hw.os, hw.tape, hw.output, by simpa [insW] using hw.size, fun k hk => (insW_far hb key val (by omega)).trans (hw.block k hk)⟩
theorem SingleAt.ins {W : World} {lo g kd r : Nat} {v : Value} {es : Array MapEntry} {clock : Nat} (h : SingleAt W lo g kd v) (hr : r < lo) (hb : W.heap[r]? = some (.map es clock)) (key val : Value) : SingleAt (insW W r es clock key val) lo g kd v := by
  obtain ⟨b1, b2, h1, h2, h3, h4, h5⟩ := h
  exact ⟨b1, b2, h1, h2, h3, (World.cell?_of_block (a := ⟨b1, 0, none⟩) (insW_far hb key val (b := b1) (by omega))).trans h4, (World.cell?_of_block (a := ⟨b2, 0, none⟩) (insW_far hb key val (b := b2) (by omega))).trans h5⟩
theorem SingleAt.below {W W' : World} {lo g kd : Nat} {v : Value} (h : SingleAt W lo g kd v) (hb : Below W.heap.size W W') : SingleAt W' lo g kd v := by
  obtain ⟨b1, b2, h1, h2, h3, h4, h5⟩ := h
  exact ⟨b1, b2, h1, h2, h3, pw_cell_below hb h4, pw_cell_below hb h5⟩
theorem SingleAt.mono {W : World} {lo lo' g kd : Nat} {v : Value} (h : SingleAt W lo g kd v) (hl : lo' ≤ lo) : SingleAt W lo' g kd v := by
  obtain ⟨b1, b2, h1, h2, h3, h4, h5⟩ := h
  exact ⟨b1, b2, h1, by omega, by omega, h4, h5⟩
theorem ins_some {B : Nat} {w W : World} {r : Nat} {es : Array MapEntry} {clock : Nat} {n : Int} {val : Value} (hw : Below B w W) (hr : B ≤ r) (hb : W.heap[r]? = some (.map es clock)) (hf : Instr.findNow (.int .u8) (.int .u8 n) es.toList 0 = some none) :
    ∃ W', (Instr.mapUpdate 52 (.map (some r)) (.int .u8 n) val).run Tryd.prog W = .ok () W' ∧ W'.heap[r]? = some (.map (es.push { key := .int .u8 n, val := val, born := clock }) (clock + 1)) ∧ Below B w W' ∧
      (∀ lo g kd v, r < lo → SingleAt W lo g kd v → SingleAt W' lo g kd v) :=
  ⟨_, run_ins hb hf, insW_get hb _ _, insW_below hw hr hb _ _, fun lo g kd v hl h => h.ins hl hb _ _⟩
abbrev mV (f g : Nat) : Value := .func (.func f) #[.pointer (some ⟨g, 0, none⟩)] #[]
/-- The forms' map. -/
def formsM (g : Nat) (v4 v5 : Value) : Array MapEntry :=
  (((((#[] : Array MapEntry).push { key := .int .u8 3, val := mV 41 g, born := 0 }).push { key := .int .u8 4, val := mV 42 g, born := 1 }).push { key := .int .u8 6, val := mV 42 g, born := 2 }).push { key := .int .u8 7, val := mV 43 g, born := 3 }).push { key := .int .u8 8, val := v4, born := 4 } |>.push { key := .int .u8 9, val := v5, born := 5 }
end Lex
namespace PLex
set_option maxHeartbeats 4000000 in
set_option maxRecDepth 100000 in
theorem singleOf_calls (g : Nat) (kd : Nat) (w : World) :
    Calls Tryd.prog 44 #[.pointer (some ⟨g, 0, none⟩), .int .u8 kd] w fun e w' => ∃ v, e = .returned v ∧ Lex.SingleAt w' w.heap.size g kd v ∧ Below w.heap.size w w' := by
  go_enter Tryd.func44, Tryd.ntmps44
  go_wp2
  go_ret
  refine ⟨_, rfl, ⟨w.heap.size, w.heap.size + 1, rfl, Nat.le_refl _, by omega, ?_, ?_⟩, ?_⟩
  · refine pw_cell_below (below_alloc (Below.refl _ _) _) ?_
    rw [World.cell?_alloc_new]
    rfl
  · have h1 : (w.alloc (.cells #[.pointer (some ⟨g, 0, none⟩)] 49)).heap.size = w.heap.size + 1 := Array.size_push _
    rw [← h1, World.cell?_alloc_new]
    rfl
  · exact below_step (below_alloc (Below.refl _ _) _) (below_alloc (Below.refl _ _) _)
set_option maxHeartbeats 4000000 in
set_option maxRecDepth 100000 in
theorem forms_calls (g : Nat) (w : World) :
    Calls Tryd.prog 28 #[.pointer (some ⟨g, 0, none⟩)] w fun e w' => ∃ (M : Nat) (v4 v5 : Value), e = .returned (.map (some M)) ∧ w.heap.size ≤ M ∧ w'.heap[M]? = some (.map (Lex.formsM g v4 v5) 6) ∧ Lex.SingleAt w' (w.heap.size + 1) g 4 v4 ∧ Lex.SingleAt w' (w.heap.size + 1) g 5 v5 ∧ Below w.heap.size w w' := by
  have hmk : ∀ W, (Instr.makeMap 52 none).run Tryd.prog W = .ok (.map (some W.heap.size)) (W.alloc (.map #[] 0)) := fun W => run_makeMap_plain W _
  have HM : Aside0 ((w.alloc (.map #[] 0)).heap[w.heap.size]? = some (.map #[] 0)) := ⟨Lex.alloc_new _ _⟩
  have HB : Aside0 (Below w.heap.size w (w.alloc (.map #[] 0))) := ⟨below_alloc (Below.refl _ _) _⟩
  go_enter Tryd.func28, Tryd.ntmps28
  go_wp2_with (first
    | (obtain ⟨W', hrun, hget, hbel, _⟩ := Lex.ins_some (n := 3) (val := (Lex.mV 41 g)) HB.out (Nat.le_refl _) HM.out rfl; rw [hrun]; have HB := Aside0.mk hbel; have HM := Aside0.mk hget; clear hrun hbel hget)
    | (obtain ⟨W', hrun, hget, hbel, _⟩ := Lex.ins_some (n := 4) (val := (Lex.mV 42 g)) HB.out (Nat.le_refl _) HM.out rfl; rw [hrun]; have HB := Aside0.mk hbel; have HM := Aside0.mk hget; clear hrun hbel hget)
    | (obtain ⟨W', hrun, hget, hbel, _⟩ := Lex.ins_some (n := 6) (val := (Lex.mV 42 g)) HB.out (Nat.le_refl _) HM.out rfl; rw [hrun]; have HB := Aside0.mk hbel; have HM := Aside0.mk hget; clear hrun hbel hget)
    | (obtain ⟨W', hrun, hget, hbel, _⟩ := Lex.ins_some (n := 7) (val := (Lex.mV 43 g)) HB.out (Nat.le_refl _) HM.out rfl; rw [hrun]; have HB := Aside0.mk hbel; have HM := Aside0.mk hget; clear hrun hbel hget)
    | (go_at_call 44; refine (singleOf_calls g 4 _).mono ?_; rintro e w' ⟨v4, rfl, hS, hb⟩; have HS4 := Aside0.mk (Lex.SingleAt.mono hS (lo' := w.heap.size + 1) (blk_lt HM.out)); have HM := Aside0.mk ((hb.block _ (blk_lt HM.out)).trans HM.out); have HB := Aside0.mk (below_step HB.out hb); clear hS hb)
    | (obtain ⟨W', hrun, hget, hbel, hsn⟩ := Lex.ins_some (n := 8) (val := v4) HB.out (Nat.le_refl _) HM.out rfl; rw [hrun]; have HS4 := Aside0.mk (hsn _ _ _ _ (Nat.lt_succ_self _) HS4.out); have HB := Aside0.mk hbel; have HM := Aside0.mk hget; clear hrun hbel hget hsn)
    | (go_at_call 44; refine (singleOf_calls g 5 _).mono ?_; rintro e w' ⟨v5, rfl, hS, hb⟩; have HS4 := Aside0.mk (HS4.out.below hb); have HS5 := Aside0.mk (Lex.SingleAt.mono hS (lo' := w.heap.size + 1) (blk_lt HM.out)); have HM := Aside0.mk ((hb.block _ (blk_lt HM.out)).trans HM.out); have HB := Aside0.mk (below_step HB.out hb); clear hS hb)
    | (obtain ⟨W', hrun, hget, hbel, hsn⟩ := Lex.ins_some (n := 9) (val := v5) HB.out (Nat.le_refl _) HM.out rfl; rw [hrun]; have HS4 := Aside0.mk (hsn _ _ _ _ (Nat.lt_succ_self _) HS4.out); have HS5 := Aside0.mk (hsn _ _ _ _ (Nat.lt_succ_self _) HS5.out); have HB := Aside0.mk hbel; have HM := Aside0.mk hget; clear hrun hbel hget hsn))
  go_ret
  exact ⟨_, v4, v5, rfl, Nat.le_refl _, HM.out, HS4.out, HS5.out, HB.out⟩
end PLex
end Go.Proofs.YtbaojlfnbfbjmaaDoor
