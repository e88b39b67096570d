/- The lexer's Tokens: what its loop keeps, and how a form is looked up. The lexer's Tokens. The lexer's Tokens: its contract in the printed texts' shape. -/
import Derived.Test.YtbaojlfnbfbjmaaDoorLexForms
import Derived.Test.YtbaojlfnbfbjmaaDoorPLex0
import Derived.IntWalk
import Derived.RegionTactic
import Derived.BigRegion
import Derived.StillTactics
import Derived.StillTailTactics
namespace Go.Proofs.YtbaojlfnbfbjmaaDoor
open Go.RowKit Go.Proofs Go.Proofs.YtbaojlfnbfbjmaaDoorW.PrintWords Go.Proofs.YtbaojlfnbfbjmaaDoorW.PrintLast Go.Proofs.YtbaojlfnbfbjmaaDoorW.PrintMore
set_option linter.unusedVariables false
set_option linter.unusedSimpArgs false
namespace Lex
/-- A token and its place, as the printed structure. -/
def tS (x : Lx.Tok × Nat) : PLex.S33 := ⟨x.1.kind, BA x.1.text, x.1.num, x.2⟩
/-- The world in which the reading begins. -/
structure TokBase (w W : World) (g M : Nat) (v4 v5 : Value) : Prop where
  laid : Laid W
  g5 : 5 < g
  gM : g < M
  MW : M < W.heap.size
  map : W.heap[M]? = some (.map (formsM g v4 v5) 6)
  s4 : SingleAt W (g + 1) g 4 v4
  s5 : SingleAt W (g + 1) g 5 v5
  wg : w.heap.size ≤ g
  bel : Below w.heap.size w W
theorem SingleAt.kb {w w' : World} {lo g kd : Nat} {v : Value} (h : SingleAt w lo g kd v) (hlo : g < lo) (hk : Kb g w w') : SingleAt w' lo g kd v := by
  obtain ⟨b1, b2, h1, h2, h3, h4, h5⟩ := h
  exact ⟨b1, b2, h1, h2, h3, (World.cell?_of_block (a := ⟨b1, 0, none⟩) (var_kb (b := b1) hk (by omega) (World.block_lt_of_cell? w _ h4))).trans h4, (World.cell?_of_block (a := ⟨b2, 0, none⟩) (var_kb (b := b2) hk (by omega) (World.block_lt_of_cell? w _ h5))).trans h5⟩
theorem TokBase.kb {w W W' : World} {g M : Nat} {v4 v5 : Value} (h : TokBase w W g M v4 v5) (hk : Kb g W W') : TokBase w W' g M v4 v5 := by
  have hg := h.gM
  have hM := h.MW
  exact ⟨h.laid.kb h.g5 hk, h.g5, hg, Nat.lt_of_lt_of_le hM hk.size, (var_kb hk (by omega) hM).trans h.map, h.s4.kb (by omega) hk, h.s5.kb (by omega) hk, h.wg,
    ⟨hk.os.trans h.bel.os, hk.tape.trans h.bel.tape, hk.output.trans h.bel.output, Nat.le_trans h.bel.size hk.size, fun k hk' => (hk.block k (Nat.lt_of_lt_of_le hk' h.bel.size) (by have := h.wg; simp; omega)).trans (h.bel.block k hk')⟩⟩
theorem R_kb {w w1 : World} {g base : Nat} {v : Value} {xs : List PLex.S33} (h : Kd.R PLex.k33 33 w base (fun _ => True) v xs) (hg : g < base) (hk : Kb g w w1) : Kd.R PLex.k33 33 w1 base (fun _ => True) v xs :=
  Kd.R_mono (Kd.R_step (ok := fun k => True ∧ base ≤ k ∧ k < w.heap.size ∧ ∃ q, q ∈ 33 :: PLex.k33.E ∧ ∃ cells, w.heap[k]? = some (.cells cells q (0, 0))) (Kd.R_bound h) (fun k hk1 hk2 => hk.block k hk2 (by have := hk1.2.1; simp; omega))) (fun _ _ => trivial)
theorem skipLen_le : ∀ l : List UInt8, Lx.skipLen l ≤ l.length
  | [] => Nat.le_refl _
  | c :: t => by
    have := skipLen_le t
    have h2 := (List.takeWhile_prefix (· != 10) (l := t)).length_le
    unfold Lx.skipLen
    split
    · simp; omega
    · split
      · simp; omega
      · simp
theorem next_pos {c : UInt8} {t : List UInt8} {k : Lx.Tok} (h : Lx.next c t = some k) : 1 ≤ k.written.length ∧ k.written.length ≤ t.length + 1 := by
  have hw := (List.takeWhile_prefix Lx.isW (l := t)).length_le
  have hq : (t.dropWhile Lx.isQ).head? = some 34 → (t.takeWhile Lx.isQ).length + 1 ≤ t.length := by
    intro h
    have e : (t.takeWhile Lx.isQ).length + (t.dropWhile Lx.isQ).length = t.length := by rw [← List.length_append, List.takeWhile_append_dropWhile]
    cases hd : t.dropWhile Lx.isQ with
    | nil => rw [hd] at h; cases h
    | cons a r => rw [hd] at e; simp at e; omega
  unfold Lx.next at h
  split at h
  · cases h; simp [Lx.Tok.written]
  · cases h; simp [Lx.Tok.written]
  · split at h
    · rename_i h34
      have := hq h34
      cases h
      simp [Lx.Tok.written]
      omega
    · cases h
  · split at h
    · cases h
      simp [Lx.Tok.written]
      omega
    · cases h
  · obtain ⟨n, _, rfl⟩ := Option.map_eq_some_iff.1 h
    simp [Lx.Tok.written]
    omega
  · obtain ⟨n, _, rfl⟩ := Option.map_eq_some_iff.1 h
    simp [Lx.Tok.written]
    omega
  · cases h
theorem cls_cases (c : UInt8) : Lx.cls c = 3 ∨ Lx.cls c = 4 ∨ Lx.cls c = 6 ∨ Lx.cls c = 7 ∨ Lx.cls c = 8 ∨ Lx.cls c = 9 ∨ ((Lx.cls c = 0 ∨ Lx.cls c = 1 ∨ Lx.cls c = 2 ∨ Lx.cls c = 5) ∧ ∀ t, Lx.next c t = none) := by
  have h := (byte_all (P := fun c => Lx.cls c = 3 ∨ Lx.cls c = 4 ∨ Lx.cls c = 6 ∨ Lx.cls c = 7 ∨ Lx.cls c = 8 ∨ Lx.cls c = 9 ∨ (Lx.cls c = 0 ∨ Lx.cls c = 1 ∨ Lx.cls c = 2 ∨ Lx.cls c = 5)) (by decide +kernel)) c
  rcases h with h | h | h | h | h | h | h
  · exact .inl h
  · exact .inr (.inl h)
  · exact .inr (.inr (.inl h))
  · exact .inr (.inr (.inr (.inl h)))
  · exact .inr (.inr (.inr (.inr (.inl h))))
  · exact .inr (.inr (.inr (.inr (.inr (.inl h)))))
  · refine .inr (.inr (.inr (.inr (.inr (.inr ⟨h, fun t => ?_⟩)))))
    unfold Lx.next
    rcases h with h | h | h | h <;> (rw [h]; rfl)
theorem run_lookup {W : World} {M : Nat} {es : Array MapEntry} {clock : Nat} {n : Int} (hb : W.heap[M]? = some (.map es clock)) {r : Option (Nat × Value)} (hf : Instr.findNow (.int .u8) (.int .u8 n) es.toList 0 = some r) :
    (Instr.lookup 52 (.map (some M)) (.int .u8 n) false).run Tryd.prog W = .ok (match r with | some x => x.2 | none => .nilFunc) W := by
  have hm : Tryd.prog.underlying 52 = some (.map 5 54) := Tryd.underlying52
  have hc : ∀ e, (Instr.checkKey e 10000 5 (.int .u8 n)).run Tryd.prog W = .ok () W := fun e => MapKept.run_checkKey (k := .int .u8 n) Tryd.underlying5 (by simp [MapKept.IsKey]) e 9999
  have hz : (zeroValue 54).run Tryd.prog W = .ok .nilFunc W := by
    first | exact Tryd.zeroValue54 W | (rw [Tryd.zeroValue54]; rfl)
  cases r with
  | none => simp [Instr.lookup, run_underlying hm, MapKept.run_getObj_map hb, hc, MapKept.run_findKey Tryd.underlying5 hf, Result.andThen, hz]
  | some x => simp [Instr.lookup, run_underlying hm, MapKept.run_getObj_map hb, hc, MapKept.run_findKey Tryd.underlying5 hf, Result.andThen]
theorem run_eq_nilFunc (W : World) : (binOp .eql 54 .nilFunc .nilFunc).run Tryd.prog W = .ok (.bool true) W := by
  have h : ∀ d : Nat, (Op.equalIn (d + 1) 54 .nilFunc .nilFunc).run Tryd.prog W = .ok true W := fun d => by
    simp [Op.equalIn, run_underlying Tryd.underlying54]
  simp only [binOp]
  simp [Op.equal, Op.maxDepth, h 9999]
theorem run_eq_func (W : World) (f : Fn) (a b : Array Value) : (binOp .eql 54 (.func f a b) .nilFunc).run Tryd.prog W = .ok (.bool false) W := by
  have h : ∀ d : Nat, (Op.equalIn (d + 1) 54 (.func f a b) .nilFunc).run Tryd.prog W = .ok false W := fun d => by
    simp [Op.equalIn, run_underlying Tryd.underlying54]
  simp only [binOp]
  simp [Op.equal, Op.maxDepth, h 9999]
def stepR (s : ByteArray) (k1 p : Nat) (acc : List (Lx.Tok × Nat)) : Option Lx.Tok → List (Lx.Tok × Nat) × Nat × Nat
  | none => ([], p, 12)
  | some k => if 20000 ≤ acc.length then ([], p, 4) else Lx.run k1 (p + k.written.length) ((L s).drop (p + k.written.length)) (acc ++ [(k, p)])
theorem run_at (s : ByteArray) (k1 pos p : Nat) (acc : List (Lx.Tok × Nat)) (hp : p = pos + Lx.skipLen ((L s).drop pos)) (hlt : p < s.size) : Lx.run (k1 + 1) pos ((L s).drop pos) acc = stepR s k1 p acc (Lx.next s[p] ((L s).drop (p + 1))) := by
  unfold Lx.run
  rw [List.drop_drop, ← hp, dropL s p hlt]
  simp only [List.drop_drop, ← Nat.add_assoc, ← hp]
  cases Lx.next s[p] ((L s).drop (p + 1)) <;> rfl
theorem run_end (s : ByteArray) (k1 pos p : Nat) (acc : List (Lx.Tok × Nat)) (hp : p = pos + Lx.skipLen ((L s).drop pos)) (hge : s.size ≤ p) : Lx.run (k1 + 1) pos ((L s).drop pos) acc = (acc, 0, 0) := by
  unfold Lx.run
  rw [List.drop_drop, ← hp, drop_end s p hge]
theorem kb_base {g : Nat} {W0 W W1 : World} (h : Kb g W0 W) (hb : Below W0.heap.size W W1) : Kb g W0 W1 :=
  ⟨hb.os.trans h.os, hb.tape.trans h.tape, hb.output.trans h.output, Nat.le_trans h.size hb.size, fun k hk hne => (hb.block k hk).trans (h.block k hk hne)⟩
theorem Rd.base {g B : Nat} {W W1 : World} {s : ByteArray} {i : Int} (h : Rd W g s i) (hg : g < B) (hb : Below B W W1) : Rd W1 g s i := ⟨(hb.block g hg).trans h.out⟩
/-- The state at the loop's head. -/
structure TokSt (W0 wr : World) (g : Nat) (s : ByteArray) (v : Value) (pos : Nat) (acc : List (Lx.Tok × Nat)) : Prop where
  rd : Rd wr g s ((pos + Lx.skipLen ((L s).drop pos) : Nat) : Int)
  kb : Kb g W0 wr
  row : Kd.R PLex.k33 33 wr W0.heap.size (fun _ => True) v (acc.map tS)
  le : pos ≤ s.size
/-- A call of a function that has a body enters it. -/
theorem call_enters {f : FuncId} {fn : Func} (h1 : Tryd.prog.funcs[f]? = some fn) (h2 : (fn.name == "runtime.NumGoroutine") = false) (h3 : fn.body.isSome = true) : ∀ (args : Array Value) (w : World), (callFunc f args).run Tryd.prog w = .ok (.enter f args) w := by
  intro args w
  have h2' : fn.name ≠ "runtime.NumGoroutine" := by simpa using h2
  obtain ⟨c, h3'⟩ := Option.isSome_iff_exists.1 h3
  simp [callFunc, h1, h2', h3']
/-- What the map has for the class of a byte: nothing, or a function that reads a token. -/
inductive FormAt (w : World) (g M : Nat) (v4 v5 : Value) (s : ByteArray) (p : Nat) (hlt : p < s.size) : Prop where
  | none (hlk : ∀ W, W.heap[M]? = some (.map (formsM g v4 v5) 6) → (Instr.lookup 52 (.map (some M)) (.int .u8 ((Lx.cls s[p] : Nat) : Int)) false).run Tryd.prog W = .ok .nilFunc W)
      (hn : Lx.next s[p] ((L s).drop (p + 1)) = Option.none)
  | some (f : Nat) (a b : Array Value) (hlk : ∀ W, W.heap[M]? = some (.map (formsM g v4 v5) 6) → (Instr.lookup 52 (.map (some M)) (.int .u8 ((Lx.cls s[p] : Nat) : Int)) false).run Tryd.prog W = .ok (.func (.func f) a b) W)
      (hcall : ∀ (args : Array Value) (W : World), (callFunc f args).run Tryd.prog W = .ok (.enter f args) W)
      (hread : ∀ W, TokBase w W g M v4 v5 → Rd W g s p → Calls Tryd.prog f (a ++ b) W (ReadTo W g s p (Lx.next s[p] ((L s).drop (p + 1)))))
theorem form_at {w W0 : World} {g M : Nat} {v4 v5 : Value} (h0 : TokBase w W0 g M v4 v5) (s : ByteArray) (hs : s.size ≤ 140737488355328) (p : Nat) (hlt : p < s.size) : FormAt w g M v4 v5 s p hlt := by
  rcases cls_cases s[p] with hcl | hcl | hcl | hcl | hcl | hcl | ⟨hcl, hnone⟩
  · refine .some 41 #[.pointer (some ⟨g, 0, none⟩)] #[] (fun W h => ?_) (call_enters Tryd.func41 (by kernel_rfl) (by kernel_rfl)) (fun W hb h => PLex.name_calls g s p W hs hlt h hcl)
    rw [hcl]
    exact run_lookup (r := some (0, _)) h rfl
  · refine .some 42 #[.pointer (some ⟨g, 0, none⟩)] #[] (fun W h => ?_) (call_enters Tryd.func42 (by kernel_rfl) (by kernel_rfl)) (fun W hb h => PLex.number_calls g s p W hs hlt h (.inl hcl) hb.laid hb.g5)
    rw [hcl]
    exact run_lookup (r := some (1, _)) h rfl
  · refine .some 42 #[.pointer (some ⟨g, 0, none⟩)] #[] (fun W h => ?_) (call_enters Tryd.func42 (by kernel_rfl) (by kernel_rfl)) (fun W hb h => PLex.number_calls g s p W hs hlt h (.inr hcl) hb.laid hb.g5)
    rw [hcl]
    exact run_lookup (r := some (2, _)) h rfl
  · refine .some 43 #[.pointer (some ⟨g, 0, none⟩)] #[] (fun W h => ?_) (call_enters Tryd.func43 (by kernel_rfl) (by kernel_rfl)) (fun W hb h => PLex.quoted_calls g s p W hs hlt h hcl)
    rw [hcl]
    exact run_lookup (r := some (3, _)) h rfl
  · obtain ⟨b1, b2, hv, hb1, hb2, _, _⟩ := h0.s4
    refine .some 62 #[] #[.pointer (some ⟨b1, 0, none⟩), .pointer (some ⟨b2, 0, none⟩)] (fun W h => ?_) (call_enters Tryd.func62 (by kernel_rfl) (by kernel_rfl)) (fun W hb h => ?_)
    · rw [hcl]
      subst hv
      exact run_lookup (r := some (4, _)) h rfl
    · obtain ⟨c1, c2, hv', _, _, h1, h2⟩ := hb.s4
      rw [hv] at hv'
      injection hv' with _ _ e
      injection e with e
      injection e with e1 e
      injection e with e2 _
      injection e1 with e1
      injection e2 with e2
      injection e1 with e1
      injection e2 with e2
      injection e1 with e1
      injection e2 with e2
      subst e1
      subst e2
      have := PLex.single_calls g b1 b2 s p 4 W hs hlt h h1 h2 (by omega) (by omega) (by decide)
      have hn : Lx.next s[p] ((L s).drop (p + 1)) = Option.some ⟨4, [s[p]], 0⟩ := by unfold Lx.next; rw [hcl]; rfl
      rw [hn]
      exact this
  · obtain ⟨b1, b2, hv, hb1, hb2, _, _⟩ := h0.s5
    refine .some 62 #[] #[.pointer (some ⟨b1, 0, none⟩), .pointer (some ⟨b2, 0, none⟩)] (fun W h => ?_) (call_enters Tryd.func62 (by kernel_rfl) (by kernel_rfl)) (fun W hb h => ?_)
    · rw [hcl]
      subst hv
      exact run_lookup (r := some (5, _)) h rfl
    · obtain ⟨c1, c2, hv', _, _, h1, h2⟩ := hb.s5
      rw [hv] at hv'
      injection hv' with _ _ e
      injection e with e
      injection e with e1 e
      injection e with e2 _
      injection e1 with e1
      injection e2 with e2
      injection e1 with e1
      injection e2 with e2
      injection e1 with e1
      injection e2 with e2
      subst e1
      subst e2
      have := PLex.single_calls g b1 b2 s p 5 W hs hlt h h1 h2 (by omega) (by omega) (by decide)
      have hn : Lx.next s[p] ((L s).drop (p + 1)) = Option.some ⟨5, [s[p]], 0⟩ := by unfold Lx.next; rw [hcl]; rfl
      rw [hn]
      exact this
  · refine .none (fun W h => ?_) (hnone _)
    rcases hcl with e | e | e | e <;> rw [e] <;> exact run_lookup (r := Option.none) h rfl
end Lex
end Go.Proofs.YtbaojlfnbfbjmaaDoor
namespace Go.Proofs.YtbaojlfnbfbjmaaDoor
open Go.RowKit Go.Proofs Go.Proofs.YtbaojlfnbfbjmaaDoorW.PrintWords Go.Proofs.YtbaojlfnbfbjmaaDoorW.PrintLast Go.Proofs.YtbaojlfnbfbjmaaDoorW.PrintMore
set_option linter.unusedVariables false
set_option linter.unusedSimpArgs false
namespace PLex
set_option maxHeartbeats 4000000 in
set_option maxRecDepth 100000 in
theorem tokens_long (s : ByteArray) (w : World) (hs : 65536 < s.size) :
    Calls Tryd.prog 11 #[.string s] w fun e w' => e = .returned (.tuple #[.slice none 0 0, .int .i64 0, .int .i64 4]) ∧ w' = w := by
  go_enter Tryd.func11, Tryd.ntmps11
  go_wp2
  go_ret3
  exact ⟨rfl, rfl⟩
set_option maxHeartbeats 4000000 in
set_option maxRecDepth 100000 in
theorem tokens_short (s : ByteArray) (w : World) (hs : s.size ≤ 65536) (hL : Lex.Laid w) (res : List (Lx.Tok × Nat) × Nat × Nat) (hres : Lx.run (s.size + 1) 0 (Lex.L s) [] = res) :
    Calls Tryd.prog 11 #[.string s] w fun e w' => ∃ v, e = .returned (.tuple #[v, .int .i64 res.2.1, .int .i64 res.2.2]) ∧ Kd.R k33 33 w' w.heap.size (fun _ => True) v (res.1.map Lex.tS) ∧ Below w.heap.size w w' := by
  have hs' : (s.size : Int) ≤ 65536 := by omega
  have HL := Aside0.mk hL
  clear hL
  go_enter Tryd.func11, Tryd.ntmps11
  go_wp2_with (first
    | ((with_reducible refine gate_dst (N := 16) rfl ?_); refine box_event rfl (N := 16) rfl (cs := #[.string s, .int .i64 0]) (t := 51) ?hr ?_; (case hr => first | (go_simp; done) | (go_simp; rfl)); intro g hg w1 hbox hb; have HG := Aside0.mk hg; have HX := Aside0.mk hbox; have HB := Aside0.mk hb; clear hg hbox hb)
    | (go_at_call 28; refine (forms_calls g _).mono ?_; rintro e W1 ⟨M, v4, v5, rfl, hM, hmap, hS4, hS5, hb⟩; have HM := Aside0.mk hM; have HMAP := Aside0.mk hmap; have HS4 := Aside0.mk hS4; have HS5 := Aside0.mk hS5; have HB2 := Aside0.mk hb; clear hM hmap hS4 hS5 hb)
    | (go_at_call 29; refine (skip_calls g s 0 _ (by omega) (by omega) ⟨(HB2.out.block g (blk_lt HX.out)).trans HX.out⟩).mono ?_; rintro e W2 ⟨rfl, hR, hk⟩; have HR := Aside0.mk hR; have HK := Aside0.mk hk; clear hR hk))
  have hbase : Lex.TokBase w W2 g M v4 v5 := by
    have hgw : w.heap.size ≤ g := by have := HG.out; omega
    have h1 := HL.out.below HB.out
    have hgl := blk_lt HX.out
    have hMl := blk_lt HMAP.out
    have hlt : 5 < w.heap.size := by
      have := HL.out.four
      exact World.block_lt_of_cell? w _ this
    have hb1 : Lex.TokBase w W1 g M v4 v5 := ⟨h1.below HB2.out, by omega, by have := HM.out; omega, hMl, HMAP.out, HS4.out.mono (by omega), HS5.out.mono (by omega), hgw, below_step HB.out HB2.out⟩
    exact hb1.kb HK.out
  have HBASE := Aside0.mk hbase
  clear hbase HX HB HM HMAP HS4 HS5 HB2 HK
  have HRES := Aside0.mk hres
  clear hres
  go_loopg [2] (s.size + 1) (fun k v2 wr => ∃ (pos : Nat) (acc : List (Lx.Tok × Nat)), Aside0 (Lex.TokSt W2 wr g s v2 pos acc) ∧ Aside0 (s.size - pos < k) ∧ Aside0 (Lx.run k pos ((Lex.L s).drop pos) acc = res))
  case atStart =>
    refine ⟨0, [], ⟨⟨?_, Lex.kb_refl _ _, Kd.R_nil _ _ _ _ _, Nat.zero_le _⟩⟩, ⟨by omega⟩, ⟨by simpa using HRES.out⟩⟩
    simpa using HR.out
  case round =>
    obtain ⟨pos, acc, HST, HLT, HRUN⟩ := hrel
    cases gk with
    | zero => exact absurd HLT.out (by omega)
    | succ k1 =>
      obtain ⟨p, hp⟩ : ∃ p, p = pos + Lx.skipLen ((Lex.L s).drop pos) := ⟨_, rfl⟩
      have hst := HST.out
      have hposl := hst.le
      have hskip := Lex.skipLen_le ((Lex.L s).drop pos)
      have hLs : (Lex.L s).length = s.size := by simp [Lex.L]
      rw [List.length_drop, hLs] at hskip
      have hps : p ≤ s.size := by omega
      have hrun := HRUN.out
      have hrd := hst.rd
      rw [← hp] at hrd
      have HRD := Aside0.mk hrd
      have c0 := hrd.cell0
      have c1 := hrd.cell1
      obtain ⟨xs, hxs⟩ : ∃ xs, xs = acc.map Lex.tS := ⟨_, rfl⟩
      have hxl : xs.length = acc.length := by rw [hxs, List.length_map]
      have HROW := Aside0.mk (hxs ▸ hst.row : Kd.R k33 33 wr W2.heap.size (fun _ => True) _ xs)
      have HXS := Aside0.mk hxs
      have HXL := Aside0.mk hxl
      clear hxs hxl
      have HKB := Aside0.mk hst.kb
      have HB1 := Aside0.mk (HBASE.out.kb hst.kb)
      have HP := Aside0.mk hp
      have HPS := Aside0.mk (show pos ≤ p by omega)
      clear hrd hst hskip HST HR
      by_cases hlt : p < s.size
      · rw [Lex.run_at s k1 pos p acc hp hlt] at hrun
        have hlI : (p : Int) < (s.size : Int) := by omega
        have hp0 : (0 : Int) ≤ (p : Int) := by omega
        have hc0 := (s[p]).toNat_lt
        have hmap := HB1.out.map
        have hB0 : Below wr.heap.size wr wr.drew := below_drew (Below.refl _ _)
        obtain ⟨cc, hcc⟩ : ∃ cc, cc = s[p] := ⟨_, rfl⟩
        have hix0 : ∀ W, (Instr.index 55 (.agg Lex.classA) (.int .u8 (s[p].toNat : Int))).run Tryd.prog W = .ok (.int .u8 ((Lx.cls s[p] : Nat) : Int)) W := fun W => by rw [Lex.run_index_class _ (by omega) (by omega) W, Lex.clsI_byte]
        have hform := Lex.form_at HBASE.out s (by omega) p hlt
        obtain ⟨o, ho⟩ : ∃ o, o = Lx.next s[p] ((Lex.L s).drop (p + 1)) := ⟨_, rfl⟩
        rw [← ho] at hrun
        have HRUN2 := Aside0.mk hrun
        clear hrun hp
        cases hform with
        | none hlk hnone =>
          generalize ((Lx.cls s[p] : Nat) : Int) = n at hix0 hlk
          have hfn := Lex.run_eq_nilFunc
          rw [hnone] at ho
          subst ho
          clear hnone
          go_wp2_with (fail)
          go_region_held3 (fun w' => w'.heap[M]? = some (.map (Lex.formsM g v4 v5) 6) ∧ Below wr.heap.size wr w')
            (first | exact ⟨hmap, hB0⟩ | go_keep | ((try go_split_ands); refine ⟨?_, ?_⟩ <;> (first | assumption | (simp [*]; done) | exact (hb.block M (blk_lt (by assumption))).trans (by assumption) | exact below_step (by assumption) hb)))
            (first | (go_at_call 30; refine (lexer_class.calls () _ rfl).mono ?_; rintro e w' ⟨rfl, hb⟩))
          all_goals
            go_split_ands
            have hb1 : Below wr.heap.size wr w' := by assumption
            have HBW := Aside0.mk hb1
            have HBB := Aside0.mk (HB1.out.kb (Lex.kb_below HBW.out))
            clear hb1
            go_wp2
            go_ret3
            have er := HRUN2.out
            simp only [Lex.stepR] at er
            subst er
            exact ⟨.slice none 0 0, rfl, Kd.R_nil _ _ _ _ _, below_step HB1.out.bel HBW.out⟩
        | some fn fa fb hlk hcall hread =>
          generalize ((Lx.cls s[p] : Nat) : Int) = n at hix0 hlk
          have hfn := Lex.run_eq_func
          rw [← ho] at hread
          obtain ⟨Ao, co, rfl⟩ := Kd.R_slice HROW.out
          have HO := Aside0.mk ho
          clear ho
          cases o with
          | none =>
            go_wp2_with (fail)
            go_region_held3 (fun w' => w'.heap[M]? = some (.map (Lex.formsM g v4 v5) 6) ∧ Below wr.heap.size wr w')
              (first | exact ⟨hmap, hB0⟩ | go_keep | ((try go_split_ands); refine ⟨?_, ?_⟩ <;> (first | assumption | (simp [*]; done) | exact (hb.block M (blk_lt (by assumption))).trans (by assumption) | exact below_step (by assumption) hb)))
              (first | (go_at_call 30; refine (lexer_class.calls () _ rfl).mono ?_; rintro e w' ⟨rfl, hb⟩))
            all_goals
              go_split_ands
              have hb1 : Below wr.heap.size wr w' := by assumption
              have HBW := Aside0.mk hb1
              have HBB := Aside0.mk (HB1.out.kb (Lex.kb_below HBW.out))
              clear hb1
              go_wp2_with (first
                | ((with_reducible refine Calls.mono (hread _ HBB.out (HRD.out.below HBW.out)) ?_); rintro e w3 ⟨⟨ta, tb, tc, td, rfl⟩, _, hK⟩; have HK3 := Aside0.mk hK; clear hK))
              go_ret3
              have er := HRUN2.out
              simp only [Lex.stepR] at er
              subst er
              exact ⟨.slice none 0 0, rfl, Kd.R_nil _ _ _ _ _, below_alloc (HB1.out.kb (Lex.kb_trans (Lex.kb_below HBW.out) HK3.out)).bel _⟩
          | some k =>
            by_cases h20 : 20000 ≤ acc.length
            · have h20I : (20000 : Int) ≤ (xs.length : Int) := by have := HXL.out; omega
              have er := HRUN2.out
              simp only [Lex.stepR, if_pos h20] at er
              subst er
              go_wp2_with (fail)
              go_region_held3 (fun w' => w'.heap[M]? = some (.map (Lex.formsM g v4 v5) 6) ∧ Below wr.heap.size wr w')
                (first | exact ⟨hmap, hB0⟩ | go_keep | ((try go_split_ands); refine ⟨?_, ?_⟩ <;> (first | assumption | (simp [*]; done) | exact (hb.block M (blk_lt (by assumption))).trans (by assumption) | exact below_step (by assumption) hb)))
                (first | (go_at_call 30; refine (lexer_class.calls () _ rfl).mono ?_; rintro e w' ⟨rfl, hb⟩))
              all_goals
                go_split_ands
                have hb1 : Below wr.heap.size wr w' := by assumption
                have HBW := Aside0.mk hb1
                have HBB := Aside0.mk (HB1.out.kb (Lex.kb_below HBW.out))
                clear hb1
                go_wp2_with (first
                  | ((with_reducible refine Calls.mono (hread _ HBB.out (HRD.out.below HBW.out)) ?_); rintro e w3 ⟨he, hR3, hK⟩; (have he' : e = .returned (.tuple #[.agg #[.int .u8 k.kind, .string (Lex.BA k.text), .int .i64 k.num, .int .i64 0], .bool true]) := he); subst he'; clear he; have HK3 := Aside0.mk hK; have HR3 := Aside0.mk hR3; clear hK hR3))
                go_ret3
                exact ⟨.slice none 0 0, rfl, Kd.R_nil _ _ _ _ _, below_alloc (HB1.out.kb (Lex.kb_trans (Lex.kb_below HBW.out) HK3.out)).bel _⟩
            · have h20I : (xs.length : Int) < 20000 := by have := HXL.out; omega
              have er := HRUN2.out
              simp only [Lex.stepR, if_neg h20] at er
              have HER := Aside0.mk er
              have hnx := Lex.next_pos HO.out.symm
              rw [List.length_drop, hLs] at hnx
              have HNX := Aside0.mk hnx
              have HL20 := Aside0.mk h20
              have hgbase : g < W2.heap.size := by have h1 := HBASE.out.gM; have h2 := HBASE.out.MW; omega
              have HGB := Aside0.mk hgbase
              clear er hnx h20 hgbase
              go_wp2_with (fail)
              go_region_held3 (fun w' => w'.heap[M]? = some (.map (Lex.formsM g v4 v5) 6) ∧ Below wr.heap.size wr w')
                (first | exact ⟨hmap, hB0⟩ | go_keep | ((try go_split_ands); refine ⟨?_, ?_⟩ <;> (first | assumption | (simp [*]; done) | exact (hb.block M (blk_lt (by assumption))).trans (by assumption) | exact below_step (by assumption) hb)))
                (first | (go_at_call 30; refine (lexer_class.calls () _ rfl).mono ?_; rintro e w' ⟨rfl, hb⟩))
              all_goals
                go_split_ands
                have hb1 : Below wr.heap.size wr w' := by assumption
                have HBW := Aside0.mk hb1
                have HBB := Aside0.mk (HB1.out.kb (Lex.kb_below HBW.out))
                clear hb1
                go_wp2_with (first
                  | ((with_reducible refine Calls.mono (hread _ HBB.out (HRD.out.below HBW.out)) ?_); rintro e w3 ⟨he, hR3, hK⟩; (have he' : e = .returned (.tuple #[.agg #[.int .u8 k.kind, .string (Lex.BA k.text), .int .i64 k.num, .int .i64 0], .bool true]) := he); subst he'; clear he; have HK3 := Aside0.mk hK; have HR3 := Aside0.mk hR3; clear hK hR3)
                  | ((with_reducible refine gate_builtin (b := .append) (xs := #[.tmp 58, .tmp 60]) rfl ?_); at_builtin; refine Kd.R_append k33 W2.heap.size rfl (.tmp 58) (.tmp 60) 22 33 (.agg #[(.int .u8 0), (.string ⟨#[]⟩), (.int .i64 0), (.int .i64 0)]) 40 rfl Tryd.underlying22 info33 rfl (by decide) (by omega) (.slice Ao xs.length co) xs (Lex.tS (k, p)) [.int .u8 k.kind, .string (Lex.BA k.text), .int .i64 k.num, .int .i64 p] (fun _ => True) (fun _ => False) rfl ?hx ?aP (fun _ hk => hk.elim) (fun _ _ => trivial) ?aO (Below.refl _ _) ?aS ?aL ?_; (case hx => first | (go_simp; done) | (go_simp; rfl)); (case aP => exact k33_mkM _ _ _ (Lex.tS (k, p))); (case aO => exact Kd.R_alloc (Lex.R_kb (Kd.R_below HROW.out HBW.out) HGB.out HK3.out) _); (case aS => exact (Lex.kb_step (Lex.kb_trans (Lex.kb_step HKB.out HBW.out) HK3.out) (below_alloc (Below.refl _ _) _)).size); (case aL => have := HL20.out; have := HXL.out; omega); intro v1 w5 ho hb hg hat; have HO5 := Aside0.mk ho; have HR5 : Aside0 (Lex.Rd w5 g s ((p + k.written.length : Nat) : Int)) := ⟨Lex.Rd.base (HR3.out.below (below_alloc (Below.refl _ _) _)) HGB.out hb⟩; have HK5 : Aside0 (Lex.Kb g W2 w5) := ⟨Lex.kb_base (Lex.kb_step (Lex.kb_trans (Lex.kb_step HKB.out HBW.out) HK3.out) (below_alloc (Below.refl _ _) _)) hb⟩; clear ho hb hg hat)
                  | (go_at_call 29; refine (skip_calls g s (p + k.written.length) _ (by omega) (by have := HNX.out; omega) HR5.out).mono ?_; rintro e w6 ⟨rfl, hR6, hK6⟩; have HR6 := Aside0.mk hR6; have HK6 := Aside0.mk hK6; clear hR6 hK6))
                go_roundg k1
                case measure => omega
                case rel =>
                  refine ⟨p + k.written.length, acc ++ [(k, p)], ⟨HR6.out, Lex.kb_trans HK5.out HK6.out, ?_, ?_⟩, ⟨?_⟩, ⟨HER.out⟩⟩
                  · have hxs := HXS.out
                    have := Lex.R_kb HO5.out HGB.out HK6.out
                    rw [hxs] at this
                    rw [List.map_append]
                    exact this
                  · have := HNX.out
                    omega
                  · have := HNX.out
                    have := HLT.out
                    have := HPS.out
                    omega
      · have hend : s.size ≤ p := by omega
        rw [Lex.run_end s k1 pos p acc hp hend] at hrun
        subst hrun
        have hge : ¬ ((p : Int) < (s.size : Int)) := by omega
        clear hp
        go_wp2
        go_ret3
        have hxs := HXS.out
        have hrow := HROW.out
        rw [hxs] at hrow
        exact ⟨_, rfl, Kd.R_lower hrow (below_size HBASE.out.bel), HB1.out.bel⟩
end PLex
end Go.Proofs.YtbaojlfnbfbjmaaDoor
namespace Go.Proofs.YtbaojlfnbfbjmaaDoor
open Go.RowKit Go.Proofs Go.Proofs.YtbaojlfnbfbjmaaDoorW.PrintWords Go.Proofs.YtbaojlfnbfbjmaaDoorW.PrintLast Go.Proofs.YtbaojlfnbfbjmaaDoorW.PrintMore
namespace PLex
/-- What Tokens answers. -/
def lexer_Tokens.f (a0 : ByteArray) : Option (List S33 × Int × Int) := some ((Lx.tokens (Lex.L a0)).1.map Lex.tS, ((Lx.tokens (Lex.L a0)).2.1 : Nat), ((Lx.tokens (Lex.L a0)).2.2 : Nat))
theorem lexer_Tokens.calls (a0 : ByteArray) (r1 : List S33) (r2 r3 : Int) (w : World) (hL : Lex.Laid w) (h : lexer_Tokens.f a0 = some (r1, r2, r3)) :
    Calls Tryd.prog 11 #[.string a0] w fun e w' => ∃ v0_, e = .returned (.tuple #[v0_, .int .i64 r2, .int .i64 r3]) ∧ Kd.R k33 33 w' w.heap.size (fun _ => True) v0_ r1 ∧ Below w.heap.size w w' := by
  injection h with h
  injection h with h1 h
  injection h with h2 h3
  subst h1
  subst h2
  subst h3
  have hl : (Lex.L a0).length = a0.size := by simp [Lex.L]
  by_cases hs : 65536 < a0.size
  · have hl' : 65536 < (Lex.L a0).length := by omega
    refine (tokens_long a0 w hs).mono ?_
    rintro e w' ⟨rfl, rfl⟩
    rw [Lx.tokens, if_pos hl']
    exact ⟨_, rfl, Kd.R_nil _ _ _ _ _, Below.refl _ _⟩
  · have hl' : ¬ 65536 < (Lex.L a0).length := by omega
    rw [Lx.tokens, if_neg hl', hl]
    exact tokens_short a0 w (by omega) hL _ rfl
end PLex
end Go.Proofs.YtbaojlfnbfbjmaaDoor
