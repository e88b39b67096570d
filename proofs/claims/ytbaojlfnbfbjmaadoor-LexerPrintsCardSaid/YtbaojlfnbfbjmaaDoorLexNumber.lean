/- The lexer's reading of numbers, where the digits are no number at all. Numbers: what parsing, the limit and formatting together come to. Plain. The lexer's reading of numbers, where the digits are a number. The lexer's reading of numbers: the joined contract. -/
import Derived.Test.YtbaojlfnbfbjmaaDoorLexName
import Derived.Test.YtbaojlfnbfbjmaaDoorLexParse
import Derived.IntWalk
import Derived.RegionTactic
import Derived.BigRegion
import Derived.StillTactics
import Derived.StillTailTactics
import Derived.Lib.ParseIntBCases
namespace Go.Proofs.YtbaojlfnbfbjmaaDoor
open Go.RowKit Go.Proofs Go.Proofs.YtbaojlfnbfbjmaaDoorW.PrintWords Go.Proofs.YtbaojlfnbfbjmaaDoorW.PrintLast Go.Proofs.YtbaojlfnbfbjmaaDoorW.PrintMore
set_option linter.unusedVariables false
set_option linter.unusedSimpArgs false
namespace Lex
def zTok : Array Value := #[.int .u8 0, .string (⟨#[]⟩ : ByteArray), .int .i64 0, .int .i64 0]
def nTok (D : ByteArray) (n : Int) : Array Value := #[.int .u8 2, .string D, .int .i64 n, .int .i64 0]
/-- The memory of the reading of a number: the result's box, the token's box. -/
structure NumMem (T : TypeId) (w W : World) (g g0 g1 : Nat) (s D : ByteArray) (j : Int) : Prop where
  res : W.heap[g0]? = some (.cells zTok T (0, 0))
  tok : W.heap[g1]? = some (.cells (nTok D 0) T (0, 0))
  rd : Rd W g s j
  kb : Kb g w W
theorem NumMem.below {T : TypeId} {w W W' : World} {g g0 g1 : Nat} {s D : ByteArray} {j : Int} (h : NumMem T w W g g0 g1 s D j) (hb : Below W.heap.size W W') : NumMem T w W' g g0 g1 s D j :=
  ⟨(hb.block g0 (blk_lt h.res)).trans h.res, (hb.block g1 (blk_lt h.tok)).trans h.tok, h.rd.below hb, kb_step h.kb hb⟩
theorem NumMem.start {T : TypeId} {w w2 w3 : World} {g g0 g1 : Nat} {s : ByteArray} {j : Int} (D : ByteArray) (hr : w2.heap[g0]? = some (.cells zTok T (0, 0))) (rd : Rd w2 g s j) (kb : Kb g w w2)
    (hw : w.heap.size ≤ w2.heap.size) (hb : Below w2.heap.size w2 w3) (h1 : g1 = w2.heap.size) (ht : w3.heap[g1]? = some (.cells zTok T (0, 0))) :
    NumMem T w ((((w3.setCell ⟨g1, 0, none⟩ (.int .u8 2)).setCell ⟨g1, 1, none⟩ (.string D)).setCell ⟨g1, 2, none⟩ (.int .i64 0)).setCell ⟨g1, 3, none⟩ (.int .i64 0)) g g0 g1 s D j := by
  have hlt := blk_lt hr
  have hne : g0 ≠ g1 := by omega
  have hgl := rd.lt
  have hgn : g ≠ g1 := by omega
  have hr3 := (hb.block g0 hlt).trans hr
  refine ⟨blk_far (blk_far (blk_far (blk_far hr3 (p := ⟨g1, 0, none⟩) hne _) (p := ⟨g1, 1, none⟩) hne _) (p := ⟨g1, 2, none⟩) hne _) (p := ⟨g1, 3, none⟩) hne _,
    blk_put (blk_put (blk_put (blk_put ht 0 _ rfl) 1 _ rfl) 2 _ rfl) 3 _ rfl,
    ((((rd.below hb).far (p := ⟨g1, 0, none⟩) hgn _).far (p := ⟨g1, 1, none⟩) hgn _).far (p := ⟨g1, 2, none⟩) hgn _).far (p := ⟨g1, 3, none⟩) hgn _,
    kb_far (kb_far (kb_far (kb_far (kb_step kb hb) (p := ⟨g1, 0, none⟩) (by show _ ≤ g1; omega) _) (p := ⟨g1, 1, none⟩) (by show _ ≤ g1; omega) _) (p := ⟨g1, 2, none⟩) (by show _ ≤ g1; omega) _) (p := ⟨g1, 3, none⟩) (by show _ ≤ g1; omega) _⟩
theorem var_kb {w w' : World} {g b : Nat} (h : Kb g w w') (hne : b ≠ g) (hlt : b < w.heap.size) : w'.heap[b]? = w.heap[b]? := h.block b hlt (by simpa using hne)
theorem tab_kb {w w' : World} {g b : Nat} {n : String} {k : IntKind} {zs : List Int} (hg : Tryd.prog.globalNamed n = some b) (h : Lib.TabIs Tryd.prog w n k zs) (hk : Kb g w w') (hne : b ≠ g) : Lib.TabIs Tryd.prog w' n k zs := by
  unfold Lib.TabIs World.var? at h ⊢
  rw [hg] at h ⊢
  simp only [Option.bind_some] at h ⊢
  have hlt : b < w.heap.size := by
    rcases Nat.lt_or_ge b w.heap.size with h' | h'
    · exact h'
    · rw [Array.getElem?_eq_none h'] at h; cases h
  rw [var_kb hk hne hlt]
  exact h
theorem err_kb {w w' : World} {g b : Nat} (h : ErrAt w b) (hk : Kb g w w') (hne : b ≠ g) : ErrAt w' b := by
  obtain ⟨ev, h1, h2⟩ := h
  refine ⟨ev, ?_, h2⟩
  have hlt := World.block_lt_of_cell? w _ h1
  rw [← h1]
  exact World.cell?_of_block (a := ⟨b, 0, none⟩) (var_kb hk hne hlt)
theorem Laid.kb {w w' : World} {g : Nat} (h : Laid w) (hg : 5 < g) (hk : Kb g w w') : Laid w' :=
  ⟨tab_kb gPow h.pow hk (by omega), tab_kb gBru h.bru hk (by omega), err_kb h.syn hk (by omega), err_kb h.rng hk (by omega)⟩
/-- What is read and stored behind the store of the number. -/
structure NumTail (W : World) (g0 g1 : Nat) (D : ByteArray) : Prop where
  a0 : ∀ v, (W.setCell ⟨g1, 2, none⟩ v).cell? ⟨g1, 0, none⟩ = some (.int .u8 2)
  a1 : ∀ v, (W.setCell ⟨g1, 2, none⟩ v).cell? ⟨g1, 1, none⟩ = some (.string D)
  a2 : ∀ v, (W.setCell ⟨g1, 2, none⟩ v).cell? ⟨g1, 2, none⟩ = some v
  a3 : ∀ v, (W.setCell ⟨g1, 2, none⟩ v).cell? ⟨g1, 3, none⟩ = some (.int .i64 0)
  z0 : ∀ v, (W.setCell ⟨g1, 2, none⟩ v).cell? ⟨g0, 0, none⟩ = some (.int .u8 0)
  z1 : ∀ v, (W.setCell ⟨g1, 2, none⟩ v).cell? ⟨g0, 1, none⟩ = some (.string (⟨#[]⟩ : ByteArray))
  z2 : ∀ v, (W.setCell ⟨g1, 2, none⟩ v).cell? ⟨g0, 2, none⟩ = some (.int .i64 0)
  z3 : ∀ v, (W.setCell ⟨g1, 2, none⟩ v).cell? ⟨g0, 3, none⟩ = some (.int .i64 0)
  f0 : ∀ v, (W.setCell ⟨g1, 2, none⟩ v).frozen? ⟨g0, 0, none⟩ = false
  f1 : ∀ v, (W.setCell ⟨g1, 2, none⟩ v).frozen? ⟨g0, 1, none⟩ = false
  f2 : ∀ v, (W.setCell ⟨g1, 2, none⟩ v).frozen? ⟨g0, 2, none⟩ = false
  f3 : ∀ v, (W.setCell ⟨g1, 2, none⟩ v).frozen? ⟨g0, 3, none⟩ = false
  n2 : W.cell? ⟨g1, 2, none⟩ = some (.int .i64 0)
  h2 : W.frozen? ⟨g1, 2, none⟩ = false
theorem NumMem.tail {T : TypeId} {w W : World} {g g0 g1 : Nat} {s D : ByteArray} {j : Int} (h : NumMem T w W g g0 g1 s D j) (hne : g0 ≠ g1) : NumTail W g0 g1 D := by
  have ht := fun v => blk_put h.tok 2 v (cs' := #[.int .u8 2, .string D, v, .int .i64 0]) rfl
  have hr := fun v => blk_far h.res (p := ⟨g1, 2, none⟩) hne v
  exact ⟨fun v => blk_cell (ht v) 0, fun v => blk_cell (ht v) 1, fun v => blk_cell (ht v) 2, fun v => blk_cell (ht v) 3, fun v => blk_cell (hr v) 0, fun v => blk_cell (hr v) 1, fun v => blk_cell (hr v) 2, fun v => blk_cell (hr v) 3,
    fun v => blk_frozen (hr v) 0, fun v => blk_frozen (hr v) 1, fun v => blk_frozen (hr v) 2, fun v => blk_frozen (hr v) 3, blk_cell h.tok 2, blk_frozen h.tok 2⟩
/-- The result's box behind the last store. -/
theorem NumMem.last {T : TypeId} {w W : World} {g g0 g1 : Nat} {s D : ByteArray} {j : Int} (h : NumMem T w W g g0 g1 s D j) (hne : g0 ≠ g1) (n : Int) :
    (((((W.setCell ⟨g1, 2, none⟩ (.int .i64 n)).setCell ⟨g0, 0, none⟩ (.int .u8 2)).setCell ⟨g0, 1, none⟩ (.string D)).setCell ⟨g0, 2, none⟩ (.int .i64 n)).setCell ⟨g0, 3, none⟩ (.int .i64 0)).heap[g0]? = some (.cells (nTok D n) T (0, 0)) :=
  blk_put (blk_put (blk_put (blk_put (blk_far h.res (p := ⟨g1, 2, none⟩) hne _) 0 _ rfl) 1 _ rfl) 2 _ rfl) 3 _ rfl
theorem NumMem.ends {T : TypeId} {w W : World} {g g0 g1 : Nat} {s D : ByteArray} {j : Int} (h : NumMem T w W g g0 g1 s D j) (h0 : w.heap.size ≤ g0) (h1 : w.heap.size ≤ g1) (hg0 : g ≠ g0) (hg1 : g ≠ g1) (n : Int) :
    Rd (((((W.setCell ⟨g1, 2, none⟩ (.int .i64 n)).setCell ⟨g0, 0, none⟩ (.int .u8 2)).setCell ⟨g0, 1, none⟩ (.string D)).setCell ⟨g0, 2, none⟩ (.int .i64 n)).setCell ⟨g0, 3, none⟩ (.int .i64 0)) g s j ∧
    Kb g w (((((W.setCell ⟨g1, 2, none⟩ (.int .i64 n)).setCell ⟨g0, 0, none⟩ (.int .u8 2)).setCell ⟨g0, 1, none⟩ (.string D)).setCell ⟨g0, 2, none⟩ (.int .i64 n)).setCell ⟨g0, 3, none⟩ (.int .i64 0)) :=
  ⟨((((h.rd.far (p := ⟨g1, 2, none⟩) hg1 _).far (p := ⟨g0, 0, none⟩) hg0 _).far (p := ⟨g0, 1, none⟩) hg0 _).far (p := ⟨g0, 2, none⟩) hg0 _).far (p := ⟨g0, 3, none⟩) hg0 _,
   kb_far (kb_far (kb_far (kb_far (kb_far h.kb (p := ⟨g1, 2, none⟩) h1 _) (p := ⟨g0, 0, none⟩) h0 _) (p := ⟨g0, 1, none⟩) h0 _) (p := ⟨g0, 2, none⟩) h0 _) (p := ⟨g0, 3, none⟩) h0 _⟩
end Lex
namespace PLex
set_option maxHeartbeats 4000000 in
set_option maxRecDepth 100000 in
theorem number_err (g : Nat) (s D D0 D1 : ByteArray) (hx : Bool) (i j : Nat) (w : World) (h : Lex.Rd w g s i) (hL : Lex.Laid w) (hg5 : 5 < g)
    (hpos : 0 < D.size) (hneg : ¬ (hx = true ∧ (D[0]'hpos).toNat = 45))
    (hW : ∀ W, Lex.Rd W g s i → Calls Tryd.prog 54 #[.pointer (some ⟨g, 0, none⟩)] W fun e w' => e = .returned (.string D) ∧ Lex.Rd w' g s j ∧ Lex.Kb g W w')
    (hT : ∀ W, Calls Tryd.prog 56 #[.string D, .string ⟨#[45]⟩] W fun e w' => e = .returned (.string D0) ∧ w' = W)
    (hC : ∀ W, Calls Tryd.prog 57 #[.string D, .string ⟨#[48, 120]⟩] W fun e w' => e = .returned (.tuple #[.string D1, .bool hx]) ∧ w' = W)
    (hP : ∀ W, Lex.Laid W → Calls Tryd.prog 58 #[.string (if hx then D1 else D0), .int .i64 (if hx then 16 else 10), .int .i64 64] W (Lex.Parsed W none)) :
    Calls Tryd.prog 42 #[.pointer (some ⟨g, 0, none⟩)] w fun e w' => (∃ n : Int, e = .returned (.tuple #[.agg (Lex.nTok D n), .bool false])) ∧ Lex.Rd w' g s j ∧ Lex.Kb g w w' := by
  have hix : ∀ W, (Instr.index 9 (.string D) (.int .i64 0)).run Tryd.prog W = .ok (.int .u8 ((D[0]'hpos).toNat : Int)) W := fun W => by
    rw [run_index_string W 9 D .i64 0 Tryd.underlying9, dif_pos (by omega)]
    rfl
  obtain ⟨c0, hc0⟩ : ∃ c0 : Int, c0 = ((D[0]'hpos).toNat : Int) := ⟨_, rfl⟩
  rw [← hc0] at hix
  have hneg' : ¬ (hx = true ∧ c0 = 45) := by rw [hc0]; intro h; exact hneg ⟨h.1, by omega⟩
  clear hneg hc0
  have HDP := Aside0.mk hpos
  clear hpos
  have hnil : ∀ W p, (binOp .eql 67 (.iface 98 (.pointer (some p))) .nilIface).run Tryd.prog W = .ok (.bool false) W := fun W p => by
    go_simp
  by_cases hn45 : c0 = 45 <;> cases hx
  all_goals first
    | (exfalso; simp [hn45] at hneg'; done)
    | skip
  all_goals
    simp only [Bool.false_eq_true, if_false, if_true] at hP
    clear hneg'
    go_enter Tryd.func42, Tryd.ntmps42
    go_wp2_with (first
      | ((with_reducible refine gate_dst (N := 2) rfl ?_); refine box_event rfl (N := 2) rfl (cs := Lex.zTok) (t := 33) ?hr ?_; (case hr => first | (go_simp; done) | (go_simp; rfl)); intro g0 hg w1 hbox hb; have HG := Aside0.mk hg; have HX := Aside0.mk hbox; have HB := Aside0.mk hb; clear hg hbox hb)
      | (go_at_call 54; refine (hW _ (h.below HB.out)).mono ?_; rintro e w2 ⟨rfl, hR2, hk2⟩; have HX2 := Aside0.mk ((hk2.block g0 (blk_lt HX.out) (by have := h.lt; have := HG.out; simp; omega)).trans HX.out); have HR2 := Aside0.mk hR2; have HK2 := Aside0.mk hk2; clear hR2 hk2)
      | ((with_reducible refine gate_dst (N := 5) rfl ?_); refine box_event rfl (N := 5) rfl (cs := Lex.zTok) (t := 33) ?hr ?_; (case hr => first | (go_simp; done) | (go_simp; rfl)); intro g1 hg w3 hbox hb; have HG1 := Aside0.mk hg; have HX3 := Aside0.mk hbox; have HB3 := Aside0.mk hb; have hcz0 : w3.cell? ⟨g1, 0, none⟩ = some (.int .u8 0) := blk_cell hbox 0; have hcz1 : w3.cell? ⟨g1, 1, none⟩ = some (.string (⟨#[]⟩ : ByteArray)) := blk_cell hbox 1; have hcz2 : w3.cell? ⟨g1, 2, none⟩ = some (.int .i64 0) := blk_cell hbox 2; have hcz3 : w3.cell? ⟨g1, 3, none⟩ = some (.int .i64 0) := blk_cell hbox 3; have hfz0 := blk_frozen hbox 0; have hfz1 := blk_frozen hbox 1; have hfz2 := blk_frozen hbox 2; have hfz3 := blk_frozen hbox 3; clear hg hbox hb)
      | (go_at_call 56; refine (hT _).mono ?_; rintro e w' ⟨rfl, rfl⟩)
      | (go_at_call 57; refine (hC _).mono ?_; rintro e w' ⟨rfl, rfl⟩)
      | (go_at_call 58; have HN0 := Aside0.mk (Lex.NumMem.start (w := w) D HX2.out HR2.out (Lex.kb_trans (Lex.kb_below HB.out) HK2.out) (Lex.kb_trans (Lex.kb_below HB.out) HK2.out).size HB3.out HG1.out HX3.out); refine (hP _ (hL.kb hg5 HN0.out.kb)).mono ?_; rintro e w4 ⟨n, er, rfl, ⟨n0, n1⟩, ⟨hno, _⟩ | ⟨_, nn0, p, rfl⟩, hb4⟩; cases hno; have HN := Aside0.mk (HN0.out.below hb4); have hNT := HN.out.tail (by have := HG1.out; have := blk_lt HX2.out; omega); obtain ⟨ta0, ta1, ta2, ta3, tz0, tz1, tz2, tz3, tf0, tf1, tf2, tf3, tn2, th2⟩ := hNT; clear hb4 HN0 hcz0 hcz1 hcz2 hcz3 hfz0 hfz1 hfz2 hfz3))
    have hne : g0 ≠ g1 := by have := HG1.out; have := blk_lt HX2.out; omega
    have hg0 : w.heap.size ≤ g0 := by have := HG.out; omega
    have hg1 : w.heap.size ≤ g1 := by have := HG1.out; have := blk_lt HX2.out; omega
    have hgl := h.lt
    refine bodyPost_ret (results_ct rfl _ _ g0 33 _ (0, 0) _ rfl (HN.out.last hne _) Tryd.underlying33 rfl (by kernel_rfl)) rfl ?_
    exact ⟨⟨_, rfl⟩, HN.out.ends hg0 hg1 (by omega) (by omega) _⟩
end PLex
end Go.Proofs.YtbaojlfnbfbjmaaDoor
namespace Go.Proofs.YtbaojlfnbfbjmaaDoor
open Go.RowKit Go.Proofs Go
namespace Lex
theorem hexd_hx (c : UInt8) (x : Nat) (h : Lx.hexd c = some x) : hx c = some x := by
  revert h
  revert x
  revert c
  intro c x h
  have := (show ∀ c : UInt8, Lx.hexd c = none ∨ Lx.hexd c = hx c from byte_allX (by decide +kernel)) c
  rcases this with e | e
  · rw [e] at h; cases h
  · rw [← e]; exact h
theorem hexU_digits : ∀ (l : List UInt8) (acc m : Nat), Lx.digits Lx.hexd 16 acc l = some m → m < 18446744073709551616 → hexU acc l = .ok m
  | [], acc, m, h, hm => by
    simp only [Lx.digits, Option.some.injEq] at h
    simp [hexU, h]
  | c :: l, acc, m, h, hm => by
    simp only [Lx.digits] at h
    cases hd : Lx.hexd c with
    | none => rw [hd] at h; cases h
    | some x =>
      rw [hd] at h
      have hge := Lx.digits_ge Lx.hexd 16 (by decide) l _ m h
      simp only [hexU, hexd_hx c x hd]
      rw [if_neg (by omega), Nat.mul_comm]
      exact hexU_digits l _ m h hm
theorem dec_digits : ∀ (l : List UInt8) (acc m : Nat), Lx.digits Lx.dec 10 acc l = some m → m < 18446744073709551616 → Lib.parseUint10 acc l = .ok m
  | [], acc, m, h, hm => by
    simp only [Lx.digits, Option.some.injEq] at h
    simp [Lib.parseUint10, h]
  | c :: l, acc, m, h, hm => by
    simp only [Lx.digits] at h
    cases hd : Lx.dec c with
    | none => rw [hd] at h; cases h
    | some x =>
      rw [hd] at h
      have hge := Lx.digits_ge Lx.dec 10 (by decide) l _ m h
      unfold Lx.dec at hd
      split at hd
      · rename_i hc
        rw [isD_iff] at hc
        injection hd with hd
        simp only [Lib.parseUint10]
        rw [if_pos hc, if_neg (by omega), if_neg (by omega), show acc * 10 + (c.toNat - 48) = 10 * acc + x by omega]
        exact dec_digits l _ m h hm
      · cases hd
theorem hex_law (r : List UInt8) : (∃ n : Nat, hexI r = .ok (n : Int) ∧ n < 9223372036854775808 ∧ Lx.canon Lx.hexd 16 15 r = if r.length ≤ 15 ∧ r = Lx.fmtB Lx.dgh 16 n then some n else none) ∨ ((hexI r = Lib.NumEnd.syntax ∨ hexI r = .range) ∧ Lx.canon Lx.hexd 16 15 r = none) := by
  have key : ∀ m, Lx.canon Lx.hexd 16 15 r = some m → hexI r = .ok (m : Int) ∧ m < 9223372036854775808 := by
    intro m hm
    obtain ⟨ht, hl, hd⟩ := Lx.canon_iff.1 hm
    have hlt := Lx.digits_lt Lx.hexd 16 (fun c x h => (Lx.hexd_dg c x h).1) r 0 m hd
    have hp : 16 ^ r.length ≤ 16 ^ 15 := Nat.pow_le_pow_right (by decide) hl
    have hm' : m < 9223372036854775808 := by
      have : (16 : Nat) ^ 15 < 9223372036854775808 := by decide
      omega
    refine ⟨?_, hm'⟩
    unfold hexI
    rw [if_neg ht.1, hexU_digits r 0 m hd (by omega)]
    simp [show ¬ 9223372036854775808 ≤ m by omega]
  cases hE : hexI r with
  | ok v =>
    left
    have hv : ∃ n : Nat, v = (n : Int) ∧ n < 9223372036854775808 := by
      unfold hexI at hE
      split at hE
      · cases hE
      · split at hE
        · split at hE
          · cases hE
          · injection hE with hE; exact ⟨_, hE.symm, by omega⟩
        · cases hE
        · cases hE
    obtain ⟨n, rfl, hn⟩ := hv
    refine ⟨n, rfl, hn, ?_⟩
    split
    · rename_i h
      exact Lx.canon_hex_fmt.2 h
    · rename_i h
      cases hc : Lx.canon Lx.hexd 16 15 r with
      | none => rfl
      | some m =>
        obtain ⟨e, _⟩ := key m hc
        rw [hE] at e
        injection e with e
        obtain rfl : n = m := by omega
        exact absurd (Lx.canon_hex_fmt.1 hc) h
  | range =>
    right
    refine ⟨.inr rfl, ?_⟩
    cases hc : Lx.canon Lx.hexd 16 15 r with
    | none => rfl
    | some m => have := (key m hc).1; rw [hE] at this; cases this
  | _ =>
    right
    refine ⟨.inl rfl, ?_⟩
    cases hc : Lx.canon Lx.hexd 16 15 r with
    | none => rfl
    | some m => have := (key m hc).1; rw [hE] at this; cases this
theorem dec_law (r : List UInt8) (h43 : r.head? ≠ some 43) (h45 : r.head? ≠ some 45) : (∃ n : Nat, Lib.parseIntB 64 r = .ok (n : Int) ∧ n < 9223372036854775808 ∧ Lx.canon Lx.dec 10 18 r = if r.length ≤ 18 ∧ r = Lib.decDigits n then some n else none) ∨ ((Lib.parseIntB 64 r = Lib.NumEnd.syntax ∨ Lib.parseIntB 64 r = .range) ∧ Lx.canon Lx.dec 10 18 r = none) := by
  have hpl : Lib.parseIntB 64 r = if r = [] then Lib.NumEnd.syntax else Lib.signlessC (2 ^ 63) (Lib.parseUint10 0 r) := by
    cases r with
    | nil => rfl
    | cons c t =>
      rw [Lib.parseIntB_plain 64 c t (fun h => h43 (by rw [List.head?_cons, show c = 43 from UInt8.toNat_inj.1 h])) (fun h => h45 (by rw [List.head?_cons, show c = 45 from UInt8.toNat_inj.1 h]))]
      rw [if_neg (by simp)]
      unfold Lib.parseUintB
      rw [if_neg (by simp), show (2 : Nat) ^ 64 - 1 = 18446744073709551615 by decide, Lib.parseUintM_64]
  have e63 : (2 : Nat) ^ 63 = 9223372036854775808 := by decide
  rw [e63] at hpl
  have key : ∀ m, Lx.canon Lx.dec 10 18 r = some m → Lib.parseIntB 64 r = .ok (m : Int) ∧ m < 9223372036854775808 := by
    intro m hm
    obtain ⟨ht, hl, hd⟩ := Lx.canon_iff.1 hm
    have hlt := Lx.digits_lt Lx.dec 10 (fun c x h => (Lx.dec_dg c x h).1) r 0 m hd
    have hp : 10 ^ r.length ≤ 10 ^ 18 := Nat.pow_le_pow_right (by decide) hl
    have hm' : m < 9223372036854775808 := by
      have : (10 : Nat) ^ 18 < 9223372036854775808 := by decide
      omega
    refine ⟨?_, hm'⟩
    rw [hpl, if_neg ht.1, dec_digits r 0 m hd (by omega)]
    simp [Lib.signlessC, show ¬ 9223372036854775808 ≤ m by omega]
  cases hE : Lib.parseIntB 64 r with
  | ok v =>
    left
    have hv : ∃ n : Nat, v = (n : Int) ∧ n < 9223372036854775808 := by
      rw [hpl] at hE
      split at hE
      · cases hE
      · cases hU : Lib.parseUint10 0 r with
        | ok u =>
          rw [hU] at hE
          simp only [Lib.signlessC] at hE
          split at hE
          · cases hE
          · injection hE with hE; exact ⟨_, hE.symm, by omega⟩
        | range => rw [hU] at hE; cases hE
        | _ => rw [hU] at hE; cases hE
    obtain ⟨n, rfl, hn⟩ := hv
    refine ⟨n, rfl, hn, ?_⟩
    split
    · rename_i h
      exact Lx.canon_dec_fmt.2 h
    · rename_i h
      cases hc : Lx.canon Lx.dec 10 18 r with
      | none => rfl
      | some m =>
        obtain ⟨e, _⟩ := key m hc
        rw [hE] at e
        injection e with e
        obtain rfl : n = m := by omega
        exact absurd (Lx.canon_dec_fmt.1 hc) h
  | range =>
    right
    refine ⟨.inr rfl, ?_⟩
    cases hc : Lx.canon Lx.dec 10 18 r with
    | none => rfl
    | some m => have := (key m hc).1; rw [hE] at this; cases this
  | _ =>
    right
    refine ⟨.inl rfl, ?_⟩
    cases hc : Lx.canon Lx.dec 10 18 r with
    | none => rfl
    | some m => have := (key m hc).1; rw [hE] at this; cases this
end Lex
end Go.Proofs.YtbaojlfnbfbjmaaDoor
namespace Go.Proofs.YtbaojlfnbfbjmaaDoor
open Go.RowKit Go.Proofs Go.Proofs.YtbaojlfnbfbjmaaDoorW.PrintWords Go.Proofs.YtbaojlfnbfbjmaaDoorW.PrintLast Go.Proofs.YtbaojlfnbfbjmaaDoorW.PrintMore
set_option linter.unusedVariables false
set_option linter.unusedSimpArgs false
namespace PLex
set_option maxHeartbeats 8000000 in
set_option maxRecDepth 100000 in
theorem number_ok (g : Nat) (s D D0 D1 D2 F : ByteArray) (hx : Bool) (n N base most c0 : Int) (fin : Bool) (i j : Nat) (w : World) (h : Lex.Rd w g s i) (hL : Lex.Laid w) (hg5 : 5 < g)
    (hix : ∀ W, (Instr.index 9 (.string D) (.int .i64 0)).run Tryd.prog W = .ok (.int .u8 c0) W) (hneg : ¬ (hx = true ∧ c0 = 45))
    (hW : ∀ W, Lex.Rd W g s i → Calls Tryd.prog 54 #[.pointer (some ⟨g, 0, none⟩)] W fun e w' => e = .returned (.string D) ∧ Lex.Rd w' g s j ∧ Lex.Kb g W w')
    (hT : ∀ W, Calls Tryd.prog 56 #[.string D, .string ⟨#[45]⟩] W fun e w' => e = .returned (.string D0) ∧ w' = W)
    (hC : ∀ W, Calls Tryd.prog 57 #[.string D, .string ⟨#[48, 120]⟩] W fun e w' => e = .returned (.tuple #[.string D1, .bool hx]) ∧ w' = W)
    (hD2 : D2 = if hx then D1 else D0) (hbase : base = if hx then 16 else 10) (hmost : most = if hx then 15 else 18)
    (hP : ∀ W, Lex.Laid W → Calls Tryd.prog 58 #[.string D2, .int .i64 base, .int .i64 64] W fun e w' => e = .returned (.tuple #[.int .i64 n, .nilIface]) ∧ Below W.heap.size W w') (hn0 : 0 ≤ n) (hn1 : n ≤ 9223372036854775807)
    (hF : ∀ W, Lex.Laid W → Calls Tryd.prog 59 #[.int .i64 n, .int .i64 base] W fun e w' => e = .returned (.string F) ∧ Below W.heap.size W w')
    (hN : N = if c0 = 45 then -n else n)
    (hfin : fin = (decide ((D2.size : Int) ≤ most) && decide (D2 = F) && (decide (c0 ≠ 45) || decide (0 < n)))) :
    Calls Tryd.prog 42 #[.pointer (some ⟨g, 0, none⟩)] w fun e w' => e = .returned (.tuple #[.agg (Lex.nTok D N), .bool fin]) ∧ Lex.Rd w' g s j ∧ Lex.Kb g w w' := by
  have hwn : IntKind.i64.wrap (-n) = -n := IntWalk.i64_in _ (by omega)
  have hwn2 : wrap64 (-n) = -n := Lex.w64 (by omega) (by omega)
  have hbeq : (D2.toList == F.toList) = decide (D2 = F) := by
    rw [ByteArray.toList_eq, ByteArray.toList_eq, Bool.eq_iff_iff]
    simp only [beq_iff_eq, decide_eq_true_eq]
    exact ⟨fun h => ByteArray.ext (Array.toList_inj.1 h), fun h => by rw [h]⟩
  have hcases : (¬ (D2.size : Int) ≤ most ∧ fin = false) ∨ ((D2.size : Int) ≤ most ∧ (D2.toList == F.toList) = false ∧ fin = false) ∨
      ((D2.size : Int) ≤ most ∧ (D2.toList == F.toList) = true ∧ ((c0 ≠ 45 ∧ fin = true) ∨ (c0 = 45 ∧ 0 < n ∧ fin = true) ∨ (c0 = 45 ∧ ¬ 0 < n ∧ fin = false))) := by
    rw [hbeq, hfin]
    by_cases hn45 : c0 = 45 <;> by_cases hlen : (D2.size : Int) ≤ most <;> by_cases heq : D2 = F <;> by_cases hnp : 0 < n <;> simp [hn45, hlen, heq, hnp] <;> simp_all
  clear hfin hbeq
  rcases hcases with ⟨hlen, rfl⟩ | ⟨hlen, heq, rfl⟩ | ⟨hlen, heq, ⟨hn45, rfl⟩ | ⟨hn45, hnp, rfl⟩ | ⟨hn45, hnp, rfl⟩⟩
  case' inl => by_cases hn45 : c0 = 45
  case' inr.inl => by_cases hn45 : c0 = 45
  all_goals
    simp only [hn45, if_true, if_false] at hN
    subst hN
    cases hx
  all_goals first
    | (exfalso; exact hneg ⟨rfl, hn45⟩)
    | skip
  all_goals
    simp only [Bool.false_eq_true, if_false, if_true] at hD2 hbase hmost
    subst hbase hmost
    subst hD2
    clear hneg
    go_enter Tryd.func42, Tryd.ntmps42
    go_wp2_with (first
      | ((with_reducible refine gate_dst (N := 2) rfl ?_); refine box_event rfl (N := 2) rfl (cs := Lex.zTok) (t := 33) ?hr ?_; (case hr => first | (go_simp; done) | (go_simp; rfl)); intro g0 hg w1 hbox hb; have HG := Aside0.mk hg; have HX := Aside0.mk hbox; have HB := Aside0.mk hb; clear hg hbox hb)
      | (go_at_call 54; refine (hW _ (h.below HB.out)).mono ?_; rintro e w2 ⟨rfl, hR2, hk2⟩; have HX2 := Aside0.mk ((hk2.block g0 (blk_lt HX.out) (by have := h.lt; have := HG.out; simp; omega)).trans HX.out); have HR2 := Aside0.mk hR2; have HK2 := Aside0.mk hk2; clear hR2 hk2)
      | ((with_reducible refine gate_dst (N := 5) rfl ?_); refine box_event rfl (N := 5) rfl (cs := Lex.zTok) (t := 33) ?hr ?_; (case hr => first | (go_simp; done) | (go_simp; rfl)); intro g1 hg w3 hbox hb; have HG1 := Aside0.mk hg; have HX3 := Aside0.mk hbox; have HB3 := Aside0.mk hb; have hcz0 : w3.cell? ⟨g1, 0, none⟩ = some (.int .u8 0) := blk_cell hbox 0; have hcz1 : w3.cell? ⟨g1, 1, none⟩ = some (.string (⟨#[]⟩ : ByteArray)) := blk_cell hbox 1; have hcz2 : w3.cell? ⟨g1, 2, none⟩ = some (.int .i64 0) := blk_cell hbox 2; have hcz3 : w3.cell? ⟨g1, 3, none⟩ = some (.int .i64 0) := blk_cell hbox 3; have hfz0 := blk_frozen hbox 0; have hfz1 := blk_frozen hbox 1; have hfz2 := blk_frozen hbox 2; have hfz3 := blk_frozen hbox 3; clear hg hbox hb)
      | (go_at_call 56; refine (hT _).mono ?_; rintro e w' ⟨rfl, rfl⟩)
      | (go_at_call 57; refine (hC _).mono ?_; rintro e w' ⟨rfl, rfl⟩)
      | (go_at_call 58; have HN0 := Aside0.mk (Lex.NumMem.start (w := w) D HX2.out HR2.out (Lex.kb_trans (Lex.kb_below HB.out) HK2.out) (Lex.kb_trans (Lex.kb_below HB.out) HK2.out).size HB3.out HG1.out HX3.out); refine (hP _ (hL.kb hg5 HN0.out.kb)).mono ?_; rintro e w4 ⟨rfl, hb4⟩; have HN := Aside0.mk (HN0.out.below hb4); have hNT := HN.out.tail (by have := HG1.out; have := blk_lt HX2.out; omega); obtain ⟨ta0, ta1, ta2, ta3, tz0, tz1, tz2, tz3, tf0, tf1, tf2, tf3, tn2, th2⟩ := hNT; clear hb4 HN0 hcz0 hcz1 hcz2 hcz3 hfz0 hfz1 hfz2 hfz3)
      | (go_at_call 59; refine (hF _ (hL.kb hg5 HN.out.kb)).mono ?_; rintro e w5 ⟨rfl, hb5⟩; have HN := Aside0.mk (HN.out.below hb5); have hNT := HN.out.tail (by have := HG1.out; have := blk_lt HX2.out; omega); obtain ⟨ta0, ta1, ta2, ta3, tz0, tz1, tz2, tz3, tf0, tf1, tf2, tf3, tn2, th2⟩ := hNT; clear hb5))
    have hne : g0 ≠ g1 := by have := HG1.out; have := blk_lt HX2.out; omega
    have hg0 : w.heap.size ≤ g0 := by have := HG.out; omega
    have hg1 : w.heap.size ≤ g1 := by have := HG1.out; have := blk_lt HX2.out; omega
    have hgl := h.lt
    refine bodyPost_ret (results_ct rfl _ _ g0 33 _ (0, 0) _ rfl (HN.out.last hne _) Tryd.underlying33 rfl (by kernel_rfl)) rfl ?_
    refine ⟨?_, HN.out.ends hg0 hg1 (by omega) (by omega) _⟩
    first | rfl | (rw [decide_eq_true hnp]; rfl) | (rw [decide_eq_false (Int.not_lt.2 hnp)]; rfl)
end PLex
end Go.Proofs.YtbaojlfnbfbjmaaDoor
namespace Go.Proofs.YtbaojlfnbfbjmaaDoor
open Go.RowKit Go.Proofs Go.Proofs.YtbaojlfnbfbjmaaDoorW.PrintWords
set_option linter.unusedVariables false
set_option linter.unusedSimpArgs false
namespace Lex
theorem BA_inj {a b : List UInt8} (h : BA a = BA b) : a = b := by
  have := congrArg (fun x : ByteArray => x.data.toList) h
  simpa [BA] using this
theorem BA_size (l : List UInt8) : (BA l).size = l.length := by simp [BA, ByteArray.size]
theorem hasPrefix_one (c d : UInt8) (t : List UInt8) : Lib.hasPrefix (c :: t) [d] = (d == c) := by simp [Lib.hasPrefix, List.isPrefixOf]
/-- A word that is no number begun with 0x. -/
theorem number_plain (c : UInt8) (t : List UInt8) (h0x : Lib.hasPrefix (c :: t) [48, 120] = false) (h45 : c ≠ 45) : Lx.number (c :: t) = (Lx.canon Lx.dec 10 18 (c :: t)).map Int.ofNat := by
  unfold Lx.number
  split
  · rename_i r h
    rw [h] at h0x
    simp [Lib.hasPrefix, List.isPrefixOf] at h0x
  · rename_i r h
    injection h with h1 h2
    exact absurd h1 h45
  · rfl
theorem number_minus (t : List UInt8) : Lx.number (45 :: t) = if t.head? = some 48 then none else (Lx.canon Lx.dec 10 18 t).map fun n => -(n : Int) := by
  unfold Lx.number
  rfl
theorem opt_if (a b : Prop) [Decidable a] [Decidable b] (n : Nat) : (if a ∧ b then some n else none).map Int.ofNat = if (decide a && decide b) = true then some (n : Int) else none := by
  by_cases h1 : a <;> by_cases h2 : b <;> simp [h1, h2]
theorem decDigits_zero : Lib.decDigits 0 = [48] := by rw [Lib.decDigits]; rfl
end Lex
namespace PLex
theorem number_calls (g : Nat) (s : ByteArray) (i : Nat) (w : World) (hs : s.size ≤ 140737488355328) (hi : i < s.size) (h : Lex.Rd w g s i) (hc : Lx.cls s[i] = 4 ∨ Lx.cls s[i] = 6) (hL : Lex.Laid w) (hg5 : 5 < g) :
    Calls Tryd.prog 42 #[.pointer (some ⟨g, 0, none⟩)] w (Lex.ReadTo w g s i (Lx.next s[i] ((Lex.L s).drop (i + 1)))) := by
  have ht : ∀ x ∈ ((Lex.L s).drop (i + 1)).takeWhile Lx.isW, Lx.isW x = true := fun x hx => Lex.tw_mem _ x hx
  obtain ⟨tw, htw⟩ : ∃ tw, tw = ((Lex.L s).drop (i + 1)).takeWhile Lx.isW := ⟨_, rfl⟩
  have hlen : tw.length + 1 ≤ 140737488355328 := by
    rw [htw]
    have h1 := (List.takeWhile_prefix Lx.isW (l := (Lex.L s).drop (i + 1))).length_le
    have e := List.length_drop (i := i + 1) (l := Lex.L s)
    have e2 : (Lex.L s).length = s.size := by simp [Lex.L]
    omega
  have hext : s.extract i (i + 1 + tw.length) = Lex.BA (s[i] :: tw) := by
    rw [Lex.extract_L, Lex.dropL s i hi, show i + 1 + tw.length - i = tw.length + 1 by omega, List.take_succ_cons, htw, Lex.tw_take]
  have hnext : Lx.next s[i] ((Lex.L s).drop (i + 1)) = (Lx.number (s[i] :: tw)).map fun n => ⟨2, s[i] :: tw, n⟩ := by
    unfold Lx.next
    rw [htw]
    rcases hc with hc | hc <;> (rw [hc]; rfl)
  rw [← htw] at ht
  obtain ⟨c, hcc⟩ : ∃ c, c = s[i] := ⟨_, rfl⟩
  rw [hnext, ← hcc]
  rw [← hcc] at hext hc
  have hW : ∀ W, Lex.Rd W g s i → Calls Tryd.prog 54 #[.pointer (some ⟨g, 0, none⟩)] W fun e w' => e = .returned (.string (Lex.BA (c :: tw))) ∧ Lex.Rd w' g s ((i + 1 + tw.length : Nat) : Int) ∧ Lex.Kb g W w' := by
    intro W hR
    refine (word_calls g s i W hs hi hR).mono ?_
    rintro e w' ⟨j, hj, rfl, hR2, hk2⟩
    rw [← htw] at hj
    subst hj
    rw [hext]
    exact ⟨rfl, hR2, hk2⟩
  have hT : ∀ W, Calls Tryd.prog 56 #[.string (Lex.BA (c :: tw)), .string ⟨#[45]⟩] W fun e w' => e = .returned (.string (Lex.BA (Lib.trimPrefix (c :: tw) [45]))) ∧ w' = W := fun W => Tryd.strings_TrimPrefix (Lex.BA (c :: tw)) ⟨#[45]⟩ W
  have hC : ∀ W, Calls Tryd.prog 57 #[.string (Lex.BA (c :: tw)), .string ⟨#[48, 120]⟩] W fun e w' => e = .returned (.tuple #[.string (Lex.BA (Lib.trimPrefix (c :: tw) [48, 120])), .bool (Lib.hasPrefix (c :: tw) [48, 120])]) ∧ w' = W := fun W => Tryd.strings_CutPrefix (Lex.BA (c :: tw)) ⟨#[48, 120]⟩ W
  have hpos : 0 < (Lex.BA (c :: tw)).size := by rw [Lex.BA_size]; simp
  have hix : ∀ W, (Instr.index 9 (.string (Lex.BA (c :: tw))) (.int .i64 0)).run Tryd.prog W = .ok (.int .u8 (c.toNat : Int)) W := fun W => by
    rw [run_index_string W 9 (Lex.BA (c :: tw)) .i64 0 Tryd.underlying9, dif_pos (by omega)]
    rfl
  have hwlen : ∀ n : Int, ((⟨2, c :: tw, n⟩ : Lx.Tok).written.length) = tw.length + 1 := fun n => by simp [Lx.Tok.written]
  have fin_err : Lx.number (c :: tw) = none → (Calls Tryd.prog 42 #[.pointer (some ⟨g, 0, none⟩)] w fun e w' => (∃ n : Int, e = .returned (.tuple #[.agg (Lex.nTok (Lex.BA (c :: tw)) n), .bool false])) ∧ Lex.Rd w' g s ((i + 1 + tw.length : Nat) : Int) ∧ Lex.Kb g w w') →
      Calls Tryd.prog 42 #[.pointer (some ⟨g, 0, none⟩)] w (Lex.ReadTo w g s i ((Lx.number (c :: tw)).map fun n => ⟨2, c :: tw, n⟩)) := by
    intro hn hcl
    rw [hn]
    refine hcl.mono ?_
    rintro e w' ⟨⟨n, rfl⟩, hR, hK⟩
    exact ⟨⟨2, _, n, 0, rfl⟩, ⟨_, hR⟩, hK⟩
  have fin_ok : ∀ (N : Int) (fin : Bool), Lx.number (c :: tw) = (if fin then some N else none) → (Calls Tryd.prog 42 #[.pointer (some ⟨g, 0, none⟩)] w fun e w' => e = .returned (.tuple #[.agg (Lex.nTok (Lex.BA (c :: tw)) N), .bool fin]) ∧ Lex.Rd w' g s ((i + 1 + tw.length : Nat) : Int) ∧ Lex.Kb g w w') →
      Calls Tryd.prog 42 #[.pointer (some ⟨g, 0, none⟩)] w (Lex.ReadTo w g s i ((Lx.number (c :: tw)).map fun n => ⟨2, c :: tw, n⟩)) := by
    intro N fin hn hcl
    rw [hn]
    refine hcl.mono ?_
    rintro e w' ⟨rfl, hR, hK⟩
    cases fin
    · exact ⟨⟨2, _, N, 0, rfl⟩, ⟨_, hR⟩, hK⟩
    · refine ⟨rfl, ?_, hK⟩
      rw [hwlen, show i + (tw.length + 1) = i + 1 + tw.length by omega]
      exact hR
  have hcD : Lx.cls c = 4 → Lx.isD c = true := (Lex.byte_all (P := fun c => Lx.cls c = 4 → Lx.isD c = true) (by decide +kernel)) c
  have hc6 : Lx.cls c = 6 → c = 45 := (Lex.byte_all (P := fun c => Lx.cls c = 6 → c = 45) (by decide +kernel)) c
  have hW43 : ∀ x, Lx.isW x = true → x ≠ 43 ∧ x ≠ 45 := Lex.byte_all (by decide +kernel)
  have htwS : ∀ l : List UInt8, (∀ x ∈ l, Lx.isW x = true) → l.head? ≠ some 43 ∧ l.head? ≠ some 45 := by
    intro l hl
    cases l with
    | nil => exact ⟨by simp, by simp⟩
    | cons a r =>
      have := hW43 a (hl a (by simp))
      exact ⟨by simpa using this.1, by simpa using this.2⟩
  cases hx : Lib.hasPrefix (c :: tw) [48, 120] with
  | true =>
    obtain ⟨r, rfl, rfl⟩ : ∃ r, c = 48 ∧ tw = 120 :: r := by
      cases tw with
      | nil => simp [Lib.hasPrefix, List.isPrefixOf] at hx
      | cons b r =>
        simp only [Lib.hasPrefix, List.isPrefixOf, Bool.and_eq_true, beq_iff_eq] at hx
        exact ⟨r, hx.1.symm, by rw [hx.2.1]⟩
    have hD1 : Lib.trimPrefix (48 :: 120 :: r) [48, 120] = r := by simp [Lib.trimPrefix, Lib.hasPrefix, List.isPrefixOf]
    rw [hx, hD1] at hC
    have hr : ∀ x ∈ r, Lx.isW x = true := fun x hx => ht x (by simp [hx])
    have hrs := htwS r hr
    have hrl : (Lex.BA r).size ≤ 281474976710656 := by rw [Lex.BA_size]; simp at hlen; omega
    have hnum : Lx.number (48 :: 120 :: r) = (Lx.canon Lx.hexd 16 15 r).map Int.ofNat := rfl
    have hP := fun W (hL : Lex.Laid W) => ParseInt16_calls (Lex.BA r) hrl (by simpa [Lex.BA] using hrs.1) (by simpa [Lex.BA] using hrs.2) W hL
    have hbr : (Lex.BA r).data.toList = r := by simp [Lex.BA]
    rw [hbr] at hP
    rcases Lex.hex_law r with ⟨n, hn1, hn2, hn3⟩ | ⟨hn1, hn2⟩
    · rw [hn1] at hP
      refine fin_ok (n : Int) (decide (r.length ≤ 15) && decide (r = Lx.fmtB Lx.dgh 16 n)) ?_ (number_ok g s _ _ _ (Lex.BA r) (Lex.BA (Lx.fmtB Lx.dgh 16 n)) true n n 16 15 (48 : UInt8).toNat _ i _ w h hL hg5 hix (by decide) hW hT hC rfl rfl rfl ?_ (by omega) (by omega) ?_ ?_ ?_)
      · rw [hnum, hn3]
        exact Lex.opt_if _ _ n
      · intro W hLW
        refine (hP W hLW).mono ?_
        rintro e w' ⟨n', er, rfl, _, ⟨ho, rfl⟩ | ⟨ho, _⟩, hb⟩
        · obtain rfl := Option.some.inj ho
          exact ⟨rfl, hb⟩
        · cases ho
      · exact fun W hLW => FormatInt16_calls n hn2 W hLW
      · rfl
      · have e1 : decide (((Lex.BA r).size : Int) ≤ 15) = decide (r.length ≤ 15) := by rw [Lex.BA_size]; simp only [decide_eq_decide]; omega
        have e2 : decide (Lex.BA r = Lex.BA (Lx.fmtB Lx.dgh 16 n)) = decide (r = Lx.fmtB Lx.dgh 16 n) := by
          simp only [decide_eq_decide]
          exact ⟨Lex.BA_inj, fun h => by rw [← h]⟩
        rw [e1, e2]
        simp
    · refine fin_err (by rw [hnum, hn2]; rfl) (number_err g s _ _ _ true i _ w h hL hg5 hpos (by rintro ⟨_, h⟩; exact absurd h (by show ¬ (48 : UInt8).toNat = 45; decide)) hW hT hC ?_)
      intro W hLW
      have := hP W hLW
      rcases hn1 with e | e <;> rw [e] at this <;> exact this
  | false =>
    rw [hx] at hC
    by_cases h45 : c = 45
    · subst h45
      have hD0 : Lib.trimPrefix (45 :: tw) [45] = tw := by simp [Lib.trimPrefix, Lib.hasPrefix, List.isPrefixOf]
      rw [hD0] at hT
      have hrs := htwS tw ht
      have hrl : (Lex.BA tw).size ≤ 281474976710656 := by rw [Lex.BA_size]; omega
      have hP := fun W (hL : Lex.Laid W) => ParseInt10_calls (Lex.BA tw) hrl (by simpa [Lex.BA] using hrs.2) W hL
      have hbr : (Lex.BA tw).data.toList = tw := by simp [Lex.BA]
      rw [hbr] at hP
      have hnum := Lex.number_minus tw
      rcases Lex.dec_law tw hrs.1 hrs.2 with ⟨n, hn1, hn2, hn3⟩ | ⟨hn1, hn2⟩
      · rw [hn1] at hP
        refine fin_ok (-(n : Int)) (decide (tw.length ≤ 18) && decide (tw = Lib.decDigits n) && decide (0 < n)) ?_ (number_ok g s _ _ _ (Lex.BA tw) (Lex.BA (Lib.decDigits n)) false n (-(n : Int)) 10 18 (45 : UInt8).toNat _ i _ w h hL hg5 hix (by decide) hW hT hC rfl rfl rfl ?_ (by omega) (by omega) ?_ ?_ ?_)
        · rw [hnum, hn3]
          by_cases h48 : tw.head? = some 48
          · rw [if_pos h48]
            have : ¬ (tw = Lib.decDigits n ∧ 0 < n) := by
              rintro ⟨e, hn0⟩
              rw [e, Lx.decDigits_fmt] at h48
              exact (Lx.digits_of_fmt (b := 10) (by decide) Lx.dg_dec Lx.dgd_48 n).2.2 (by omega) h48
            by_cases h2 : tw = Lib.decDigits n
            · have hz : ¬ 0 < n := fun hn => this ⟨h2, hn⟩
              simp [hz]
            · simp [h2]
          · rw [if_neg h48]
            by_cases h2 : tw = Lib.decDigits n
            · have hz : 0 < n := by
                rcases Nat.eq_zero_or_pos n with rfl | h
                · rw [Lex.decDigits_zero] at h2
                  rw [h2] at h48
                  exact absurd rfl h48
                · exact h
              by_cases h1 : tw.length ≤ 18 <;> simp [h1, ← h2, hz]
            · simp [h2]
        · intro W hLW
          refine (hP W hLW).mono ?_
          rintro e w' ⟨n', er, rfl, _, ⟨ho, rfl⟩ | ⟨ho, _⟩, hb⟩
          · obtain rfl := Option.some.inj ho
            exact ⟨rfl, hb⟩
          · cases ho
        · intro W hLW
          have := FormatInt10_calls (n : Int) (by omega) (by omega) W hLW
          rw [Lib.itoa_nonneg] at this
          exact this
        · rfl
        · have e1 : decide (((Lex.BA tw).size : Int) ≤ 18) = decide (tw.length ≤ 18) := by rw [Lex.BA_size]; simp only [decide_eq_decide]; omega
          have e2 : decide (Lex.BA tw = Lex.BA (Lib.decDigits n)) = decide (tw = Lib.decDigits n) := by
            simp only [decide_eq_decide]
            exact ⟨Lex.BA_inj, fun h => by rw [← h]⟩
          rw [e1, e2]
          simp
      · refine fin_err (by rw [hnum, hn2]; split <;> rfl) (number_err g s _ _ _ false i _ w h hL hg5 hpos (by simp) hW hT hC ?_)
        intro W hLW
        have := hP W hLW
        rcases hn1 with e | e <;> rw [e] at this <;> exact this
    · have hcD' : Lx.isD c = true := hcD (hc.resolve_right (fun e => h45 (hc6 e)))
      have hD0 : Lib.trimPrefix (c :: tw) [45] = c :: tw := by
        unfold Lib.trimPrefix
        rw [Lex.hasPrefix_one, if_neg (by simpa using fun e : 45 = c => h45 e.symm)]
      rw [hD0] at hT
      have hcW : ∀ x ∈ c :: tw, Lx.isW x = true := by
        intro x hx
        rcases List.mem_cons.1 hx with rfl | hx
        · simp [Lx.isW, hcD']
        · exact ht x hx
      have hrs := htwS (c :: tw) hcW
      have hrl : (Lex.BA (c :: tw)).size ≤ 281474976710656 := by rw [Lex.BA_size]; simp; omega
      have hP := fun W (hL : Lex.Laid W) => ParseInt10_calls (Lex.BA (c :: tw)) hrl (by simpa [Lex.BA] using hrs.2) W hL
      have hbr : (Lex.BA (c :: tw)).data.toList = c :: tw := by simp [Lex.BA]
      rw [hbr] at hP
      have hnum := Lex.number_plain c tw hx h45
      have hc45 : ¬ ((c.toNat : Nat) : Int) = 45 := fun e => h45 (UInt8.toNat_inj.1 (by show c.toNat = 45; omega))
      rcases Lex.dec_law (c :: tw) hrs.1 hrs.2 with ⟨n, hn1, hn2, hn3⟩ | ⟨hn1, hn2⟩
      · rw [hn1] at hP
        refine fin_ok (n : Int) (decide ((c :: tw).length ≤ 18) && decide (c :: tw = Lib.decDigits n)) ?_ (number_ok g s _ _ _ (Lex.BA (c :: tw)) (Lex.BA (Lib.decDigits n)) false n n 10 18 (c.toNat : Int) _ i _ w h hL hg5 hix (by simp) hW hT hC rfl rfl rfl ?_ (by omega) (by omega) ?_ ?_ ?_)
        · rw [hnum, hn3]
          exact Lex.opt_if _ _ n
        · intro W hLW
          refine (hP W hLW).mono ?_
          rintro e w' ⟨n', er, rfl, _, ⟨ho, rfl⟩ | ⟨ho, _⟩, hb⟩
          · obtain rfl := Option.some.inj ho
            exact ⟨rfl, hb⟩
          · cases ho
        · intro W hLW
          have := FormatInt10_calls (n : Int) (by omega) (by omega) W hLW
          rw [Lib.itoa_nonneg] at this
          exact this
        · rw [if_neg hc45]
        · have e1 : decide (((Lex.BA (c :: tw)).size : Int) ≤ 18) = decide ((c :: tw).length ≤ 18) := by rw [Lex.BA_size]; simp only [decide_eq_decide]; omega
          have e2 : decide (Lex.BA (c :: tw) = Lex.BA (Lib.decDigits n)) = decide (c :: tw = Lib.decDigits n) := by
            simp only [decide_eq_decide]
            exact ⟨Lex.BA_inj, fun h => by rw [← h]⟩
          rw [e1, e2, decide_eq_true (show ((c.toNat : Nat) : Int) ≠ 45 from hc45)]
          simp
      · refine fin_err (by rw [hnum, hn2]; rfl) (number_err g s _ _ _ false i _ w h hL hg5 hpos (by simp) hW hT hC ?_)
        intro W hLW
        have := hP W hLW
        rcases hn1 with e | e <;> rw [e] at this <;> exact this
end PLex
end Go.Proofs.YtbaojlfnbfbjmaaDoor
