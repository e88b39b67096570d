/- The lexer's reading of numbers, where the digits are no number at all. Numbers: what parsing, the limit and formatting together come to. Plain. -/
import Derived.Test.YtbaojlfnbfbjmaaDoorLexName
import Derived.Test.YtbaojlfnbfbjmaaDoorLexParse
import Derived.IntWalk
import Derived.RegionTactic
import Derived.BigRegion
import Derived.StillTactics
import Derived.StillTailTactics
import Derived.Lib.ParseIntBCases
namespace Go.Proofs.YtbaojlfnbfbjmaaDoor
open Go.RowKit Go.Proofs Go.Proofs.YtbaojlfnbfbjmaaDoorW.PrintWords Go.Proofs.YtbaojlfnbfbjmaaDoorW.PrintLast Go.Proofs.YtbaojlfnbfbjmaaDoorW.PrintMore
set_option linter.unusedVariables false
set_option linter.unusedSimpArgs false
namespace Lex
def zTok : Array Value := #[.int .u8 0, .string (⟨#[]⟩ : ByteArray), .int .i64 0, .int .i64 0]
def nTok (D : ByteArray) (n : Int) : Array Value := #[.int .u8 2, .string D, .int .i64 n, .int .i64 0]
/-- The memory of the reading of a number: the result's box, the token's box. -/
structure NumMem (T : TypeId) (w W : World) (g g0 g1 : Nat) (s D : ByteArray) (j : Int) : Prop where
  res : W.heap[g0]? = some (.cells zTok T (0, 0))
  tok : W.heap[g1]? = some (.cells (nTok D 0) T (0, 0))
  rd : Rd W g s j
  kb : Kb g w W
theorem NumMem.below {T : TypeId} {w W W' : World} {g g0 g1 : Nat} {s D : ByteArray} {j : Int} (h : NumMem T w W g g0 g1 s D j) (hb : Below W.heap.size W W') : NumMem T w W' g g0 g1 s D j :=
  ⟨(hb.block g0 (blk_lt h.res)).trans h.res, (hb.block g1 (blk_lt h.tok)).trans h.tok, h.rd.below hb, kb_step h.kb hb⟩
theorem NumMem.start {T : TypeId} {w w2 w3 : World} {g g0 g1 : Nat} {s : ByteArray} {j : Int} (D : ByteArray) (hr : w2.heap[g0]? = some (.cells zTok T (0, 0))) (rd : Rd w2 g s j) (kb : Kb g w w2)
    (hw : w.heap.size ≤ w2.heap.size) (hb : Below w2.heap.size w2 w3) (h1 : g1 = w2.heap.size) (ht : w3.heap[g1]? = some (.cells zTok T (0, 0))) :
    NumMem T w ((((w3.setCell ⟨g1, 0, none⟩ (.int .u8 2)).setCell ⟨g1, 1, none⟩ (.string D)).setCell ⟨g1, 2, none⟩ (.int .i64 0)).setCell ⟨g1, 3, none⟩ (.int .i64 0)) g g0 g1 s D j := by
  have hlt := blk_lt hr
  have hne : g0 ≠ g1 := by omega
  have hgl := rd.lt
  have hgn : g ≠ g1 := by omega
  have hr3 := (hb.block g0 hlt).trans hr
  refine ⟨blk_far (blk_far (blk_far (blk_far hr3 (p := ⟨g1, 0, none⟩) hne _) (p := ⟨g1, 1, none⟩) hne _) (p := ⟨g1, 2, none⟩) hne _) (p := ⟨g1, 3, none⟩) hne _,
    blk_put (blk_put (blk_put (blk_put ht 0 _ rfl) 1 _ rfl) 2 _ rfl) 3 _ rfl,
    ((((rd.below hb).far (p := ⟨g1, 0, none⟩) hgn _).far (p := ⟨g1, 1, none⟩) hgn _).far (p := ⟨g1, 2, none⟩) hgn _).far (p := ⟨g1, 3, none⟩) hgn _,
    kb_far (kb_far (kb_far (kb_far (kb_step kb hb) (p := ⟨g1, 0, none⟩) (by show _ ≤ g1; omega) _) (p := ⟨g1, 1, none⟩) (by show _ ≤ g1; omega) _) (p := ⟨g1, 2, none⟩) (by show _ ≤ g1; omega) _) (p := ⟨g1, 3, none⟩) (by show _ ≤ g1; omega) _⟩
theorem var_kb {w w' : World} {g b : Nat} (h : Kb g w w') (hne : b ≠ g) (hlt : b < w.heap.size) : w'.heap[b]? = w.heap[b]? := h.block b hlt (by simpa using hne)
theorem tab_kb {w w' : World} {g b : Nat} {n : String} {k : IntKind} {zs : List Int} (hg : Tryd.prog.globalNamed n = some b) (h : Lib.TabIs Tryd.prog w n k zs) (hk : Kb g w w') (hne : b ≠ g) : Lib.TabIs Tryd.prog w' n k zs := by
  unfold Lib.TabIs World.var? at h ⊢
  rw [hg] at h ⊢
  simp only [Option.bind_some] at h ⊢
  have hlt : b < w.heap.size := by
    rcases Nat.lt_or_ge b w.heap.size with h' | h'
    · exact h'
    · rw [Array.getElem?_eq_none h'] at h; cases h
  rw [var_kb hk hne hlt]
  exact h
theorem err_kb {w w' : World} {g b : Nat} (h : ErrAt w b) (hk : Kb g w w') (hne : b ≠ g) : ErrAt w' b := by
  obtain ⟨ev, h1, h2⟩ := h
  refine ⟨ev, ?_, h2⟩
  have hlt := World.block_lt_of_cell? w _ h1
  rw [← h1]
  exact World.cell?_of_block (a := ⟨b, 0, none⟩) (var_kb hk hne hlt)
theorem Laid.kb {w w' : World} {g : Nat} (h : Laid w) (hg : 5 < g) (hk : Kb g w w') : Laid w' :=
  ⟨tab_kb gPow h.pow hk (by omega), tab_kb gBru h.bru hk (by omega), err_kb h.syn hk (by omega), err_kb h.rng hk (by omega)⟩
/-- What is read and stored behind the store of the number. -/
structure NumTail (W : World) (g0 g1 : Nat) (D : ByteArray) : Prop where
  a0 : ∀ v, (W.setCell ⟨g1, 2, none⟩ v).cell? ⟨g1, 0, none⟩ = some (.int .u8 2)
  a1 : ∀ v, (W.setCell ⟨g1, 2, none⟩ v).cell? ⟨g1, 1, none⟩ = some (.string D)
  a2 : ∀ v, (W.setCell ⟨g1, 2, none⟩ v).cell? ⟨g1, 2, none⟩ = some v
  a3 : ∀ v, (W.setCell ⟨g1, 2, none⟩ v).cell? ⟨g1, 3, none⟩ = some (.int .i64 0)
  z0 : ∀ v, (W.setCell ⟨g1, 2, none⟩ v).cell? ⟨g0, 0, none⟩ = some (.int .u8 0)
  z1 : ∀ v, (W.setCell ⟨g1, 2, none⟩ v).cell? ⟨g0, 1, none⟩ = some (.string (⟨#[]⟩ : ByteArray))
  z2 : ∀ v, (W.setCell ⟨g1, 2, none⟩ v).cell? ⟨g0, 2, none⟩ = some (.int .i64 0)
  z3 : ∀ v, (W.setCell ⟨g1, 2, none⟩ v).cell? ⟨g0, 3, none⟩ = some (.int .i64 0)
  f0 : ∀ v, (W.setCell ⟨g1, 2, none⟩ v).frozen? ⟨g0, 0, none⟩ = false
  f1 : ∀ v, (W.setCell ⟨g1, 2, none⟩ v).frozen? ⟨g0, 1, none⟩ = false
  f2 : ∀ v, (W.setCell ⟨g1, 2, none⟩ v).frozen? ⟨g0, 2, none⟩ = false
  f3 : ∀ v, (W.setCell ⟨g1, 2, none⟩ v).frozen? ⟨g0, 3, none⟩ = false
  n2 : W.cell? ⟨g1, 2, none⟩ = some (.int .i64 0)
  h2 : W.frozen? ⟨g1, 2, none⟩ = false
theorem NumMem.tail {T : TypeId} {w W : World} {g g0 g1 : Nat} {s D : ByteArray} {j : Int} (h : NumMem T w W g g0 g1 s D j) (hne : g0 ≠ g1) : NumTail W g0 g1 D := by
  have ht := fun v => blk_put h.tok 2 v (cs' := #[.int .u8 2, .string D, v, .int .i64 0]) rfl
  have hr := fun v => blk_far h.res (p := ⟨g1, 2, none⟩) hne v
  exact ⟨fun v => blk_cell (ht v) 0, fun v => blk_cell (ht v) 1, fun v => blk_cell (ht v) 2, fun v => blk_cell (ht v) 3, fun v => blk_cell (hr v) 0, fun v => blk_cell (hr v) 1, fun v => blk_cell (hr v) 2, fun v => blk_cell (hr v) 3,
    fun v => blk_frozen (hr v) 0, fun v => blk_frozen (hr v) 1, fun v => blk_frozen (hr v) 2, fun v => blk_frozen (hr v) 3, blk_cell h.tok 2, blk_frozen h.tok 2⟩
/-- The result's box behind the last store. -/
theorem NumMem.last {T : TypeId} {w W : World} {g g0 g1 : Nat} {s D : ByteArray} {j : Int} (h : NumMem T w W g g0 g1 s D j) (hne : g0 ≠ g1) (n : Int) :
    (((((W.setCell ⟨g1, 2, none⟩ (.int .i64 n)).setCell ⟨g0, 0, none⟩ (.int .u8 2)).setCell ⟨g0, 1, none⟩ (.string D)).setCell ⟨g0, 2, none⟩ (.int .i64 n)).setCell ⟨g0, 3, none⟩ (.int .i64 0)).heap[g0]? = some (.cells (nTok D n) T (0, 0)) :=
  blk_put (blk_put (blk_put (blk_put (blk_far h.res (p := ⟨g1, 2, none⟩) hne _) 0 _ rfl) 1 _ rfl) 2 _ rfl) 3 _ rfl
theorem NumMem.ends {T : TypeId} {w W : World} {g g0 g1 : Nat} {s D : ByteArray} {j : Int} (h : NumMem T w W g g0 g1 s D j) (h0 : w.heap.size ≤ g0) (h1 : w.heap.size ≤ g1) (hg0 : g ≠ g0) (hg1 : g ≠ g1) (n : Int) :
    Rd (((((W.setCell ⟨g1, 2, none⟩ (.int .i64 n)).setCell ⟨g0, 0, none⟩ (.int .u8 2)).setCell ⟨g0, 1, none⟩ (.string D)).setCell ⟨g0, 2, none⟩ (.int .i64 n)).setCell ⟨g0, 3, none⟩ (.int .i64 0)) g s j ∧
    Kb g w (((((W.setCell ⟨g1, 2, none⟩ (.int .i64 n)).setCell ⟨g0, 0, none⟩ (.int .u8 2)).setCell ⟨g0, 1, none⟩ (.string D)).setCell ⟨g0, 2, none⟩ (.int .i64 n)).setCell ⟨g0, 3, none⟩ (.int .i64 0)) :=
  ⟨((((h.rd.far (p := ⟨g1, 2, none⟩) hg1 _).far (p := ⟨g0, 0, none⟩) hg0 _).far (p := ⟨g0, 1, none⟩) hg0 _).far (p := ⟨g0, 2, none⟩) hg0 _).far (p := ⟨g0, 3, none⟩) hg0 _,
   kb_far (kb_far (kb_far (kb_far (kb_far h.kb (p := ⟨g1, 2, none⟩) h1 _) (p := ⟨g0, 0, none⟩) h0 _) (p := ⟨g0, 1, none⟩) h0 _) (p := ⟨g0, 2, none⟩) h0 _) (p := ⟨g0, 3, none⟩) h0 _⟩
end Lex
namespace PLex
set_option maxHeartbeats 4000000 in
set_option maxRecDepth 100000 in
theorem number_err (g : Nat) (s D D0 D1 : ByteArray) (hx : Bool) (i j : Nat) (w : World) (h : Lex.Rd w g s i) (hL : Lex.Laid w) (hg5 : 5 < g)
    (hpos : 0 < D.size) (hneg : ¬ (hx = true ∧ (D[0]'hpos).toNat = 45))
    (hW : ∀ W, Lex.Rd W g s i → Calls Tryd.prog 54 #[.pointer (some ⟨g, 0, none⟩)] W fun e w' => e = .returned (.string D) ∧ Lex.Rd w' g s j ∧ Lex.Kb g W w')
    (hT : ∀ W, Calls Tryd.prog 56 #[.string D, .string ⟨#[45]⟩] W fun e w' => e = .returned (.string D0) ∧ w' = W)
    (hC : ∀ W, Calls Tryd.prog 57 #[.string D, .string ⟨#[48, 120]⟩] W fun e w' => e = .returned (.tuple #[.string D1, .bool hx]) ∧ w' = W)
    (hP : ∀ W, Lex.Laid W → Calls Tryd.prog 58 #[.string (if hx then D1 else D0), .int .i64 (if hx then 16 else 10), .int .i64 64] W (Lex.Parsed W none)) :
    Calls Tryd.prog 42 #[.pointer (some ⟨g, 0, none⟩)] w fun e w' => (∃ n : Int, e = .returned (.tuple #[.agg (Lex.nTok D n), .bool false])) ∧ Lex.Rd w' g s j ∧ Lex.Kb g w w' := by
  have hix : ∀ W, (Instr.index 9 (.string D) (.int .i64 0)).run Tryd.prog W = .ok (.int .u8 ((D[0]'hpos).toNat : Int)) W := fun W => by
    rw [run_index_string W 9 D .i64 0 Tryd.underlying9, dif_pos (by omega)]
    rfl
  obtain ⟨c0, hc0⟩ : ∃ c0 : Int, c0 = ((D[0]'hpos).toNat : Int) := ⟨_, rfl⟩
  rw [← hc0] at hix
  have hneg' : ¬ (hx = true ∧ c0 = 45) := by rw [hc0]; intro h; exact hneg ⟨h.1, by omega⟩
  clear hneg hc0
  have HDP := Aside0.mk hpos
  clear hpos
  have hnil : ∀ W p, (binOp .eql 67 (.iface 98 (.pointer (some p))) .nilIface).run Tryd.prog W = .ok (.bool false) W := fun W p => by
    go_simp
  by_cases hn45 : c0 = 45 <;> cases hx
  all_goals first
    | (exfalso; simp [hn45] at hneg'; done)
    | skip
  all_goals
    simp only [Bool.false_eq_true, if_false, if_true] at hP
    clear hneg'
    go_enter Tryd.func42, Tryd.ntmps42
    go_wp2_with (first
      | ((with_reducible refine gate_dst (N := 2) rfl ?_); refine box_event rfl (N := 2) rfl (cs := Lex.zTok) (t := 33) ?hr ?_; (case hr => first | (go_simp; done) | (go_simp; rfl)); intro g0 hg w1 hbox hb; have HG := Aside0.mk hg; have HX := Aside0.mk hbox; have HB := Aside0.mk hb; clear hg hbox hb)
      | (go_at_call 54; refine (hW _ (h.below HB.out)).mono ?_; rintro e w2 ⟨rfl, hR2, hk2⟩; have HX2 := Aside0.mk ((hk2.block g0 (blk_lt HX.out) (by have := h.lt; have := HG.out; simp; omega)).trans HX.out); have HR2 := Aside0.mk hR2; have HK2 := Aside0.mk hk2; clear hR2 hk2)
      | ((with_reducible refine gate_dst (N := 5) rfl ?_); refine box_event rfl (N := 5) rfl (cs := Lex.zTok) (t := 33) ?hr ?_; (case hr => first | (go_simp; done) | (go_simp; rfl)); intro g1 hg w3 hbox hb; have HG1 := Aside0.mk hg; have HX3 := Aside0.mk hbox; have HB3 := Aside0.mk hb; have hcz0 : w3.cell? ⟨g1, 0, none⟩ = some (.int .u8 0) := blk_cell hbox 0; have hcz1 : w3.cell? ⟨g1, 1, none⟩ = some (.string (⟨#[]⟩ : ByteArray)) := blk_cell hbox 1; have hcz2 : w3.cell? ⟨g1, 2, none⟩ = some (.int .i64 0) := blk_cell hbox 2; have hcz3 : w3.cell? ⟨g1, 3, none⟩ = some (.int .i64 0) := blk_cell hbox 3; have hfz0 := blk_frozen hbox 0; have hfz1 := blk_frozen hbox 1; have hfz2 := blk_frozen hbox 2; have hfz3 := blk_frozen hbox 3; clear hg hbox hb)
      | (go_at_call 56; refine (hT _).mono ?_; rintro e w' ⟨rfl, rfl⟩)
      | (go_at_call 57; refine (hC _).mono ?_; rintro e w' ⟨rfl, rfl⟩)
      | (go_at_call 58; have HN0 := Aside0.mk (Lex.NumMem.start (w := w) D HX2.out HR2.out (Lex.kb_trans (Lex.kb_below HB.out) HK2.out) (Lex.kb_trans (Lex.kb_below HB.out) HK2.out).size HB3.out HG1.out HX3.out); refine (hP _ (hL.kb hg5 HN0.out.kb)).mono ?_; rintro e w4 ⟨n, er, rfl, ⟨n0, n1⟩, ⟨hno, _⟩ | ⟨_, nn0, p, rfl⟩, hb4⟩; cases hno; have HN := Aside0.mk (HN0.out.below hb4); have hNT := HN.out.tail (by have := HG1.out; have := blk_lt HX2.out; omega); obtain ⟨ta0, ta1, ta2, ta3, tz0, tz1, tz2, tz3, tf0, tf1, tf2, tf3, tn2, th2⟩ := hNT; clear hb4 HN0 hcz0 hcz1 hcz2 hcz3 hfz0 hfz1 hfz2 hfz3))
    have hne : g0 ≠ g1 := by have := HG1.out; have := blk_lt HX2.out; omega
    have hg0 : w.heap.size ≤ g0 := by have := HG.out; omega
    have hg1 : w.heap.size ≤ g1 := by have := HG1.out; have := blk_lt HX2.out; omega
    have hgl := h.lt
    refine bodyPost_ret (results_ct rfl _ _ g0 33 _ (0, 0) _ rfl (HN.out.last hne _) Tryd.underlying33 rfl (by kernel_rfl)) rfl ?_
    exact ⟨⟨_, rfl⟩, HN.out.ends hg0 hg1 (by omega) (by omega) _⟩
end PLex
end Go.Proofs.YtbaojlfnbfbjmaaDoor
namespace Go.Proofs.YtbaojlfnbfbjmaaDoor
open Go.RowKit Go.Proofs Go
namespace Lex
theorem hexd_hx (c : UInt8) (x : Nat) (h : Lx.hexd c = some x) : hx c = some x := by
  revert h
  revert x
  revert c
  intro c x h
  have := (show ∀ c : UInt8, Lx.hexd c = none ∨ Lx.hexd c = hx c from byte_allX (by decide +kernel)) c
  rcases this with e | e
  · rw [e] at h; cases h
  · rw [← e]; exact h
theorem hexU_digits : ∀ (l : List UInt8) (acc m : Nat), Lx.digits Lx.hexd 16 acc l = some m → m < 18446744073709551616 → hexU acc l = .ok m
  | [], acc, m, h, hm => by
    simp only [Lx.digits, Option.some.injEq] at h
    simp [hexU, h]
  | c :: l, acc, m, h, hm => by
    simp only [Lx.digits] at h
    cases hd : Lx.hexd c with
    | none => rw [hd] at h; cases h
    | some x =>
      rw [hd] at h
      have hge := Lx.digits_ge Lx.hexd 16 (by decide) l _ m h
      simp only [hexU, hexd_hx c x hd]
      rw [if_neg (by omega), Nat.mul_comm]
      exact hexU_digits l _ m h hm
theorem dec_digits : ∀ (l : List UInt8) (acc m : Nat), Lx.digits Lx.dec 10 acc l = some m → m < 18446744073709551616 → Lib.parseUint10 acc l = .ok m
  | [], acc, m, h, hm => by
    simp only [Lx.digits, Option.some.injEq] at h
    simp [Lib.parseUint10, h]
  | c :: l, acc, m, h, hm => by
    simp only [Lx.digits] at h
    cases hd : Lx.dec c with
    | none => rw [hd] at h; cases h
    | some x =>
      rw [hd] at h
      have hge := Lx.digits_ge Lx.dec 10 (by decide) l _ m h
      unfold Lx.dec at hd
      split at hd
      · rename_i hc
        rw [isD_iff] at hc
        injection hd with hd
        simp only [Lib.parseUint10]
        rw [if_pos hc, if_neg (by omega), if_neg (by omega), show acc * 10 + (c.toNat - 48) = 10 * acc + x by omega]
        exact dec_digits l _ m h hm
      · cases hd
theorem hex_law (r : List UInt8) : (∃ n : Nat, hexI r = .ok (n : Int) ∧ n < 9223372036854775808 ∧ Lx.canon Lx.hexd 16 15 r = if r.length ≤ 15 ∧ r = Lx.fmtB Lx.dgh 16 n then some n else none) ∨ ((hexI r = Lib.NumEnd.syntax ∨ hexI r = .range) ∧ Lx.canon Lx.hexd 16 15 r = none) := by
  have key : ∀ m, Lx.canon Lx.hexd 16 15 r = some m → hexI r = .ok (m : Int) ∧ m < 9223372036854775808 := by
    intro m hm
    obtain ⟨ht, hl, hd⟩ := Lx.canon_iff.1 hm
    have hlt := Lx.digits_lt Lx.hexd 16 (fun c x h => (Lx.hexd_dg c x h).1) r 0 m hd
    have hp : 16 ^ r.length ≤ 16 ^ 15 := Nat.pow_le_pow_right (by decide) hl
    have hm' : m < 9223372036854775808 := by
      have : (16 : Nat) ^ 15 < 9223372036854775808 := by decide
      omega
    refine ⟨?_, hm'⟩
    unfold hexI
    rw [if_neg ht.1, hexU_digits r 0 m hd (by omega)]
    simp [show ¬ 9223372036854775808 ≤ m by omega]
  cases hE : hexI r with
  | ok v =>
    left
    have hv : ∃ n : Nat, v = (n : Int) ∧ n < 9223372036854775808 := by
      unfold hexI at hE
      split at hE
      · cases hE
      · split at hE
        · split at hE
          · cases hE
          · injection hE with hE; exact ⟨_, hE.symm, by omega⟩
        · cases hE
        · cases hE
    obtain ⟨n, rfl, hn⟩ := hv
    refine ⟨n, rfl, hn, ?_⟩
    split
    · rename_i h
      exact Lx.canon_hex_fmt.2 h
    · rename_i h
      cases hc : Lx.canon Lx.hexd 16 15 r with
      | none => rfl
      | some m =>
        obtain ⟨e, _⟩ := key m hc
        rw [hE] at e
        injection e with e
        obtain rfl : n = m := by omega
        exact absurd (Lx.canon_hex_fmt.1 hc) h
  | range =>
    right
    refine ⟨.inr rfl, ?_⟩
    cases hc : Lx.canon Lx.hexd 16 15 r with
    | none => rfl
    | some m => have := (key m hc).1; rw [hE] at this; cases this
  | _ =>
    right
    refine ⟨.inl rfl, ?_⟩
    cases hc : Lx.canon Lx.hexd 16 15 r with
    | none => rfl
    | some m => have := (key m hc).1; rw [hE] at this; cases this
theorem dec_law (r : List UInt8) (h43 : r.head? ≠ some 43) (h45 : r.head? ≠ some 45) : (∃ n : Nat, Lib.parseIntB 64 r = .ok (n : Int) ∧ n < 9223372036854775808 ∧ Lx.canon Lx.dec 10 18 r = if r.length ≤ 18 ∧ r = Lib.decDigits n then some n else none) ∨ ((Lib.parseIntB 64 r = Lib.NumEnd.syntax ∨ Lib.parseIntB 64 r = .range) ∧ Lx.canon Lx.dec 10 18 r = none) := by
  have hpl : Lib.parseIntB 64 r = if r = [] then Lib.NumEnd.syntax else Lib.signlessC (2 ^ 63) (Lib.parseUint10 0 r) := by
    cases r with
    | nil => rfl
    | cons c t =>
      rw [Lib.parseIntB_plain 64 c t (fun h => h43 (by rw [List.head?_cons, show c = 43 from UInt8.toNat_inj.1 h])) (fun h => h45 (by rw [List.head?_cons, show c = 45 from UInt8.toNat_inj.1 h]))]
      rw [if_neg (by simp)]
      unfold Lib.parseUintB
      rw [if_neg (by simp), show (2 : Nat) ^ 64 - 1 = 18446744073709551615 by decide, Lib.parseUintM_64]
  have e63 : (2 : Nat) ^ 63 = 9223372036854775808 := by decide
  rw [e63] at hpl
  have key : ∀ m, Lx.canon Lx.dec 10 18 r = some m → Lib.parseIntB 64 r = .ok (m : Int) ∧ m < 9223372036854775808 := by
    intro m hm
    obtain ⟨ht, hl, hd⟩ := Lx.canon_iff.1 hm
    have hlt := Lx.digits_lt Lx.dec 10 (fun c x h => (Lx.dec_dg c x h).1) r 0 m hd
    have hp : 10 ^ r.length ≤ 10 ^ 18 := Nat.pow_le_pow_right (by decide) hl
    have hm' : m < 9223372036854775808 := by
      have : (10 : Nat) ^ 18 < 9223372036854775808 := by decide
      omega
    refine ⟨?_, hm'⟩
    rw [hpl, if_neg ht.1, dec_digits r 0 m hd (by omega)]
    simp [Lib.signlessC, show ¬ 9223372036854775808 ≤ m by omega]
  cases hE : Lib.parseIntB 64 r with
  | ok v =>
    left
    have hv : ∃ n : Nat, v = (n : Int) ∧ n < 9223372036854775808 := by
      rw [hpl] at hE
      split at hE
      · cases hE
      · cases hU : Lib.parseUint10 0 r with
        | ok u =>
          rw [hU] at hE
          simp only [Lib.signlessC] at hE
          split at hE
          · cases hE
          · injection hE with hE; exact ⟨_, hE.symm, by omega⟩
        | range => rw [hU] at hE; cases hE
        | _ => rw [hU] at hE; cases hE
    obtain ⟨n, rfl, hn⟩ := hv
    refine ⟨n, rfl, hn, ?_⟩
    split
    · rename_i h
      exact Lx.canon_dec_fmt.2 h
    · rename_i h
      cases hc : Lx.canon Lx.dec 10 18 r with
      | none => rfl
      | some m =>
        obtain ⟨e, _⟩ := key m hc
        rw [hE] at e
        injection e with e
        obtain rfl : n = m := by omega
        exact absurd (Lx.canon_dec_fmt.1 hc) h
  | range =>
    right
    refine ⟨.inr rfl, ?_⟩
    cases hc : Lx.canon Lx.dec 10 18 r with
    | none => rfl
    | some m => have := (key m hc).1; rw [hE] at this; cases this
  | _ =>
    right
    refine ⟨.inl rfl, ?_⟩
    cases hc : Lx.canon Lx.dec 10 18 r with
    | none => rfl
    | some m => have := (key m hc).1; rw [hE] at this; cases this
end Lex
end Go.Proofs.YtbaojlfnbfbjmaaDoor
