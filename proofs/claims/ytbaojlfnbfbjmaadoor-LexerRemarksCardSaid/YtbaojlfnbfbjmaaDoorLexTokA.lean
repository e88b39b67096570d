/- The lexer's Tokens: what its loop keeps, and how a form is looked up. -/
import Derived.Test.YtbaojlfnbfbjmaaDoorLexForms
import Derived.Test.YtbaojlfnbfbjmaaDoorPLex0
import Derived.IntWalk
import Derived.RegionTactic
import Derived.BigRegion
import Derived.StillTactics
import Derived.StillTailTactics
namespace Go.Proofs.YtbaojlfnbfbjmaaDoor
open Go.RowKit Go.Proofs Go.Proofs.YtbaojlfnbfbjmaaDoorW.PrintWords Go.Proofs.YtbaojlfnbfbjmaaDoorW.PrintLast Go.Proofs.YtbaojlfnbfbjmaaDoorW.PrintMore
set_option linter.unusedVariables false
set_option linter.unusedSimpArgs false
namespace Lex
/-- A token and its place, as the printed structure. -/
def tS (x : Lx.Tok × Nat) : PLex.S33 := ⟨x.1.kind, BA x.1.text, x.1.num, x.2⟩
/-- The world in which the reading begins. -/
structure TokBase (w W : World) (g M : Nat) (v4 v5 : Value) : Prop where
  laid : Laid W
  g5 : 5 < g
  gM : g < M
  MW : M < W.heap.size
  map : W.heap[M]? = some (.map (formsM g v4 v5) 6)
  s4 : SingleAt W (g + 1) g 4 v4
  s5 : SingleAt W (g + 1) g 5 v5
  wg : w.heap.size ≤ g
  bel : Below w.heap.size w W
theorem SingleAt.kb {w w' : World} {lo g kd : Nat} {v : Value} (h : SingleAt w lo g kd v) (hlo : g < lo) (hk : Kb g w w') : SingleAt w' lo g kd v := by
  obtain ⟨b1, b2, h1, h2, h3, h4, h5⟩ := h
  exact ⟨b1, b2, h1, h2, h3, (World.cell?_of_block (a := ⟨b1, 0, none⟩) (var_kb (b := b1) hk (by omega) (World.block_lt_of_cell? w _ h4))).trans h4, (World.cell?_of_block (a := ⟨b2, 0, none⟩) (var_kb (b := b2) hk (by omega) (World.block_lt_of_cell? w _ h5))).trans h5⟩
theorem TokBase.kb {w W W' : World} {g M : Nat} {v4 v5 : Value} (h : TokBase w W g M v4 v5) (hk : Kb g W W') : TokBase w W' g M v4 v5 := by
  have hg := h.gM
  have hM := h.MW
  exact ⟨h.laid.kb h.g5 hk, h.g5, hg, Nat.lt_of_lt_of_le hM hk.size, (var_kb hk (by omega) hM).trans h.map, h.s4.kb (by omega) hk, h.s5.kb (by omega) hk, h.wg,
    ⟨hk.os.trans h.bel.os, hk.tape.trans h.bel.tape, hk.output.trans h.bel.output, Nat.le_trans h.bel.size hk.size, fun k hk' => (hk.block k (Nat.lt_of_lt_of_le hk' h.bel.size) (by have := h.wg; simp; omega)).trans (h.bel.block k hk')⟩⟩
theorem R_kb {w w1 : World} {g base : Nat} {v : Value} {xs : List PLex.S33} (h : Kd.R PLex.k33 33 w base (fun _ => True) v xs) (hg : g < base) (hk : Kb g w w1) : Kd.R PLex.k33 33 w1 base (fun _ => True) v xs :=
  Kd.R_mono (Kd.R_step (ok := fun k => True ∧ base ≤ k ∧ k < w.heap.size ∧ ∃ q, q ∈ 33 :: PLex.k33.E ∧ ∃ cells, w.heap[k]? = some (.cells cells q (0, 0))) (Kd.R_bound h) (fun k hk1 hk2 => hk.block k hk2 (by have := hk1.2.1; simp; omega))) (fun _ _ => trivial)
theorem skipLen_le : ∀ l : List UInt8, Lx.skipLen l ≤ l.length
  | [] => Nat.le_refl _
  | c :: t => by
    have := skipLen_le t
    have h2 := (List.takeWhile_prefix (· != 10) (l := t)).length_le
    unfold Lx.skipLen
    split
    · simp; omega
    · split
      · simp; omega
      · simp
theorem next_pos {c : UInt8} {t : List UInt8} {k : Lx.Tok} (h : Lx.next c t = some k) : 1 ≤ k.written.length ∧ k.written.length ≤ t.length + 1 := by
  have hw := (List.takeWhile_prefix Lx.isW (l := t)).length_le
  have hq : (t.dropWhile Lx.isQ).head? = some 34 → (t.takeWhile Lx.isQ).length + 1 ≤ t.length := by
    intro h
    have e : (t.takeWhile Lx.isQ).length + (t.dropWhile Lx.isQ).length = t.length := by rw [← List.length_append, List.takeWhile_append_dropWhile]
    cases hd : t.dropWhile Lx.isQ with
    | nil => rw [hd] at h; cases h
    | cons a r => rw [hd] at e; simp at e; omega
  unfold Lx.next at h
  split at h
  · cases h; simp [Lx.Tok.written]
  · cases h; simp [Lx.Tok.written]
  · split at h
    · rename_i h34
      have := hq h34
      cases h
      simp [Lx.Tok.written]
      omega
    · cases h
  · split at h
    · cases h
      simp [Lx.Tok.written]
      omega
    · cases h
  · obtain ⟨n, _, rfl⟩ := Option.map_eq_some_iff.1 h
    simp [Lx.Tok.written]
    omega
  · obtain ⟨n, _, rfl⟩ := Option.map_eq_some_iff.1 h
    simp [Lx.Tok.written]
    omega
  · cases h
theorem cls_cases (c : UInt8) : Lx.cls c = 3 ∨ Lx.cls c = 4 ∨ Lx.cls c = 6 ∨ Lx.cls c = 7 ∨ Lx.cls c = 8 ∨ Lx.cls c = 9 ∨ ((Lx.cls c = 0 ∨ Lx.cls c = 1 ∨ Lx.cls c = 2 ∨ Lx.cls c = 5) ∧ ∀ t, Lx.next c t = none) := by
  have h := (byte_all (P := fun c => Lx.cls c = 3 ∨ Lx.cls c = 4 ∨ Lx.cls c = 6 ∨ Lx.cls c = 7 ∨ Lx.cls c = 8 ∨ Lx.cls c = 9 ∨ (Lx.cls c = 0 ∨ Lx.cls c = 1 ∨ Lx.cls c = 2 ∨ Lx.cls c = 5)) (by decide +kernel)) c
  rcases h with h | h | h | h | h | h | h
  · exact .inl h
  · exact .inr (.inl h)
  · exact .inr (.inr (.inl h))
  · exact .inr (.inr (.inr (.inl h)))
  · exact .inr (.inr (.inr (.inr (.inl h))))
  · exact .inr (.inr (.inr (.inr (.inr (.inl h)))))
  · refine .inr (.inr (.inr (.inr (.inr (.inr ⟨h, fun t => ?_⟩)))))
    unfold Lx.next
    rcases h with h | h | h | h <;> (rw [h]; rfl)
theorem run_lookup {W : World} {M : Nat} {es : Array MapEntry} {clock : Nat} {n : Int} (hb : W.heap[M]? = some (.map es clock)) {r : Option (Nat × Value)} (hf : Instr.findNow (.int .u8) (.int .u8 n) es.toList 0 = some r) :
    (Instr.lookup 52 (.map (some M)) (.int .u8 n) false).run Tryd.prog W = .ok (match r with | some x => x.2 | none => .nilFunc) W := by
  have hm : Tryd.prog.underlying 52 = some (.map 5 54) := Tryd.underlying52
  have hc : ∀ e, (Instr.checkKey e 10000 5 (.int .u8 n)).run Tryd.prog W = .ok () W := fun e => MapKept.run_checkKey (k := .int .u8 n) Tryd.underlying5 (by simp [MapKept.IsKey]) e 9999
  have hz : (zeroValue 54).run Tryd.prog W = .ok .nilFunc W := by
    first | exact Tryd.zeroValue54 W | (rw [Tryd.zeroValue54]; rfl)
  cases r with
  | none => simp [Instr.lookup, run_underlying hm, MapKept.run_getObj_map hb, hc, MapKept.run_findKey Tryd.underlying5 hf, Result.andThen, hz]
  | some x => simp [Instr.lookup, run_underlying hm, MapKept.run_getObj_map hb, hc, MapKept.run_findKey Tryd.underlying5 hf, Result.andThen]
theorem run_eq_nilFunc (W : World) : (binOp .eql 54 .nilFunc .nilFunc).run Tryd.prog W = .ok (.bool true) W := by
  have h : ∀ d : Nat, (Op.equalIn (d + 1) 54 .nilFunc .nilFunc).run Tryd.prog W = .ok true W := fun d => by
    simp [Op.equalIn, run_underlying Tryd.underlying54]
  simp only [binOp]
  simp [Op.equal, Op.maxDepth, h 9999]
theorem run_eq_func (W : World) (f : Fn) (a b : Array Value) : (binOp .eql 54 (.func f a b) .nilFunc).run Tryd.prog W = .ok (.bool false) W := by
  have h : ∀ d : Nat, (Op.equalIn (d + 1) 54 (.func f a b) .nilFunc).run Tryd.prog W = .ok false W := fun d => by
    simp [Op.equalIn, run_underlying Tryd.underlying54]
  simp only [binOp]
  simp [Op.equal, Op.maxDepth, h 9999]
def stepR (s : ByteArray) (k1 p : Nat) (acc : List (Lx.Tok × Nat)) : Option Lx.Tok → List (Lx.Tok × Nat) × Nat × Nat
  | none => ([], p, 12)
  | some k => if 20000 ≤ acc.length then ([], p, 4) else Lx.run k1 (p + k.written.length) ((L s).drop (p + k.written.length)) (acc ++ [(k, p)])
theorem run_at (s : ByteArray) (k1 pos p : Nat) (acc : List (Lx.Tok × Nat)) (hp : p = pos + Lx.skipLen ((L s).drop pos)) (hlt : p < s.size) : Lx.run (k1 + 1) pos ((L s).drop pos) acc = stepR s k1 p acc (Lx.next s[p] ((L s).drop (p + 1))) := by
  unfold Lx.run
  rw [List.drop_drop, ← hp, dropL s p hlt]
  simp only [List.drop_drop, ← Nat.add_assoc, ← hp]
  cases Lx.next s[p] ((L s).drop (p + 1)) <;> rfl
theorem run_end (s : ByteArray) (k1 pos p : Nat) (acc : List (Lx.Tok × Nat)) (hp : p = pos + Lx.skipLen ((L s).drop pos)) (hge : s.size ≤ p) : Lx.run (k1 + 1) pos ((L s).drop pos) acc = (acc, 0, 0) := by
  unfold Lx.run
  rw [List.drop_drop, ← hp, drop_end s p hge]
theorem kb_base {g : Nat} {W0 W W1 : World} (h : Kb g W0 W) (hb : Below W0.heap.size W W1) : Kb g W0 W1 :=
  ⟨hb.os.trans h.os, hb.tape.trans h.tape, hb.output.trans h.output, Nat.le_trans h.size hb.size, fun k hk hne => (hb.block k hk).trans (h.block k hk hne)⟩
theorem Rd.base {g B : Nat} {W W1 : World} {s : ByteArray} {i : Int} (h : Rd W g s i) (hg : g < B) (hb : Below B W W1) : Rd W1 g s i := ⟨(hb.block g hg).trans h.out⟩
/-- The state at the loop's head. -/
structure TokSt (W0 wr : World) (g : Nat) (s : ByteArray) (v : Value) (pos : Nat) (acc : List (Lx.Tok × Nat)) : Prop where
  rd : Rd wr g s ((pos + Lx.skipLen ((L s).drop pos) : Nat) : Int)
  kb : Kb g W0 wr
  row : Kd.R PLex.k33 33 wr W0.heap.size (fun _ => True) v (acc.map tS)
  le : pos ≤ s.size
/-- A call of a function that has a body enters it. -/
theorem call_enters {f : FuncId} {fn : Func} (h1 : Tryd.prog.funcs[f]? = some fn) (h2 : (fn.name == "runtime.NumGoroutine") = false) (h3 : fn.body.isSome = true) : ∀ (args : Array Value) (w : World), (callFunc f args).run Tryd.prog w = .ok (.enter f args) w := by
  intro args w
  have h2' : fn.name ≠ "runtime.NumGoroutine" := by simpa using h2
  obtain ⟨c, h3'⟩ := Option.isSome_iff_exists.1 h3
  simp [callFunc, h1, h2', h3']
/-- What the map has for the class of a byte: nothing, or a function that reads a token. -/
inductive FormAt (w : World) (g M : Nat) (v4 v5 : Value) (s : ByteArray) (p : Nat) (hlt : p < s.size) : Prop where
  | none (hlk : ∀ W, W.heap[M]? = some (.map (formsM g v4 v5) 6) → (Instr.lookup 52 (.map (some M)) (.int .u8 ((Lx.cls s[p] : Nat) : Int)) false).run Tryd.prog W = .ok .nilFunc W)
      (hn : Lx.next s[p] ((L s).drop (p + 1)) = Option.none)
  | some (f : Nat) (a b : Array Value) (hlk : ∀ W, W.heap[M]? = some (.map (formsM g v4 v5) 6) → (Instr.lookup 52 (.map (some M)) (.int .u8 ((Lx.cls s[p] : Nat) : Int)) false).run Tryd.prog W = .ok (.func (.func f) a b) W)
      (hcall : ∀ (args : Array Value) (W : World), (callFunc f args).run Tryd.prog W = .ok (.enter f args) W)
      (hread : ∀ W, TokBase w W g M v4 v5 → Rd W g s p → Calls Tryd.prog f (a ++ b) W (ReadTo W g s p (Lx.next s[p] ((L s).drop (p + 1)))))
theorem form_at {w W0 : World} {g M : Nat} {v4 v5 : Value} (h0 : TokBase w W0 g M v4 v5) (s : ByteArray) (hs : s.size ≤ 140737488355328) (p : Nat) (hlt : p < s.size) : FormAt w g M v4 v5 s p hlt := by
  rcases cls_cases s[p] with hcl | hcl | hcl | hcl | hcl | hcl | ⟨hcl, hnone⟩
  · refine .some 41 #[.pointer (some ⟨g, 0, none⟩)] #[] (fun W h => ?_) (call_enters Tryd.func41 (by kernel_rfl) (by kernel_rfl)) (fun W hb h => PLex.name_calls g s p W hs hlt h hcl)
    rw [hcl]
    exact run_lookup (r := some (0, _)) h rfl
  · refine .some 42 #[.pointer (some ⟨g, 0, none⟩)] #[] (fun W h => ?_) (call_enters Tryd.func42 (by kernel_rfl) (by kernel_rfl)) (fun W hb h => PLex.number_calls g s p W hs hlt h (.inl hcl) hb.laid hb.g5)
    rw [hcl]
    exact run_lookup (r := some (1, _)) h rfl
  · refine .some 42 #[.pointer (some ⟨g, 0, none⟩)] #[] (fun W h => ?_) (call_enters Tryd.func42 (by kernel_rfl) (by kernel_rfl)) (fun W hb h => PLex.number_calls g s p W hs hlt h (.inr hcl) hb.laid hb.g5)
    rw [hcl]
    exact run_lookup (r := some (2, _)) h rfl
  · refine .some 43 #[.pointer (some ⟨g, 0, none⟩)] #[] (fun W h => ?_) (call_enters Tryd.func43 (by kernel_rfl) (by kernel_rfl)) (fun W hb h => PLex.quoted_calls g s p W hs hlt h hcl)
    rw [hcl]
    exact run_lookup (r := some (3, _)) h rfl
  · obtain ⟨b1, b2, hv, hb1, hb2, _, _⟩ := h0.s4
    refine .some 62 #[] #[.pointer (some ⟨b1, 0, none⟩), .pointer (some ⟨b2, 0, none⟩)] (fun W h => ?_) (call_enters Tryd.func62 (by kernel_rfl) (by kernel_rfl)) (fun W hb h => ?_)
    · rw [hcl]
      subst hv
      exact run_lookup (r := some (4, _)) h rfl
    · obtain ⟨c1, c2, hv', _, _, h1, h2⟩ := hb.s4
      rw [hv] at hv'
      injection hv' with _ _ e
      injection e with e
      injection e with e1 e
      injection e with e2 _
      injection e1 with e1
      injection e2 with e2
      injection e1 with e1
      injection e2 with e2
      injection e1 with e1
      injection e2 with e2
      subst e1
      subst e2
      have := PLex.single_calls g b1 b2 s p 4 W hs hlt h h1 h2 (by omega) (by omega) (by decide)
      have hn : Lx.next s[p] ((L s).drop (p + 1)) = Option.some ⟨4, [s[p]], 0⟩ := by unfold Lx.next; rw [hcl]; rfl
      rw [hn]
      exact this
  · obtain ⟨b1, b2, hv, hb1, hb2, _, _⟩ := h0.s5
    refine .some 62 #[] #[.pointer (some ⟨b1, 0, none⟩), .pointer (some ⟨b2, 0, none⟩)] (fun W h => ?_) (call_enters Tryd.func62 (by kernel_rfl) (by kernel_rfl)) (fun W hb h => ?_)
    · rw [hcl]
      subst hv
      exact run_lookup (r := some (5, _)) h rfl
    · obtain ⟨c1, c2, hv', _, _, h1, h2⟩ := hb.s5
      rw [hv] at hv'
      injection hv' with _ _ e
      injection e with e
      injection e with e1 e
      injection e with e2 _
      injection e1 with e1
      injection e2 with e2
      injection e1 with e1
      injection e2 with e2
      injection e1 with e1
      injection e2 with e2
      subst e1
      subst e2
      have := PLex.single_calls g b1 b2 s p 5 W hs hlt h h1 h2 (by omega) (by omega) (by decide)
      have hn : Lx.next s[p] ((L s).drop (p + 1)) = Option.some ⟨5, [s[p]], 0⟩ := by unfold Lx.next; rw [hcl]; rfl
      rw [hn]
      exact this
  · refine .none (fun W h => ?_) (hnone _)
    rcases hcl with e | e | e | e <;> rw [e] <;> exact run_lookup (r := Option.none) h rfl
end Lex
end Go.Proofs.YtbaojlfnbfbjmaaDoor
