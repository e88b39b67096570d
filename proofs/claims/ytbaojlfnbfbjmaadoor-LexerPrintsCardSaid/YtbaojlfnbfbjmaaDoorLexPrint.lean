/- The lexer's Print. -/
import Derived.Test.YtbaojlfnbfbjmaaDoorLexTok
import Derived.Test.YtbaojlfnbfbjmaaDoorLexRow
import Derived.Test.YtbaojlfnbfbjmaaDoorLexBuild
import Derived.Test.YtbaojlfnbfbjmaaDoorPLex0
namespace Go.Proofs.YtbaojlfnbfbjmaaDoor
open Go.RowKit Go.Proofs Go.Proofs.YtbaojlfnbfbjmaaDoorW.PrintWords Go.Proofs.YtbaojlfnbfbjmaaDoorW.PrintLast Go.Proofs.YtbaojlfnbfbjmaaDoorW.PrintMore
set_option linter.unusedVariables false
set_option linter.unusedSimpArgs false
namespace Lex
open PLex
/-- The bytes of a token as it is written. -/
def wrS (t : S33) : ByteArray := if t.f0 = 3 then ((⟨#[34]⟩ : ByteArray) ++ t.f1) ++ (⟨#[34]⟩ : ByteArray) else t.f1
def eqS (x y : S33) : Bool := x.f0 == y.f0 && (x.f1.toList == y.f1.toList && (x.f2 == y.f2 && (x.f3 == y.f3)))
def oneS (xs : List S33) (t : S33) : Bool := match xs with | [x] => eqS x t | _ => false
/-- A token is one that some text has. -/
def realS (t : S33) : Bool := decide ((wrS t).size ≤ 65536) && ((Lx.tokens (L (wrS t))).2.2 == 0 && oneS ((Lx.tokens (L (wrS t))).1.map tS) ⟨t.f0, t.f1, t.f2, 0⟩)
def zS : S33 := ⟨0, ⟨#[]⟩, 0, 0⟩
/-- The text of the first tokens. -/
def txt (l : List S33) : Nat → List UInt8
  | 0 => []
  | i + 1 => txt l i ++ ((if 0 < i ∧ (l.getD i zS).f0 ≠ 5 ∧ (l.getD (i - 1) zS).f0 ≠ 5 then [32] else []) ++ L (wrS (l.getD i zS)))
theorem txt_mono (l : List S33) (i : Nat) : ∀ j, i ≤ j → (txt l i).length ≤ (txt l j).length := by
  intro j h
  induction h with
  | refl => exact Nat.le_refl _
  | step _ ih =>
    refine Nat.le_trans ih ?_
    rw [txt, List.length_append]
    omega
end Lex
namespace PLex
/-- What Print answers. -/
def lexer_Print.f (l0 : List S33) : Option (ByteArray × Int) :=
  if l0.all (fun t => decide (t.f1.size ≤ 140737488355328)) then
    some (if 20000 < l0.length then (⟨#[]⟩, 4) else if l0.all Lex.realS = false then (⟨#[]⟩, 8) else if 65536 < (Lex.txt l0 l0.length).length then (⟨#[]⟩, 4) else (Lex.BA (Lex.txt l0 l0.length), 0))
  else none
set_option maxHeartbeats 2000000 in
set_option maxRecDepth 100000 in
theorem lexWritten_calls (f0 : Int) (f1 : ByteArray) (f2 f3 : Int) (w : World) (hs : f1.size ≤ 140737488355328) :
    Calls Tryd.prog 34 #[.agg #[.int .u8 f0, .string f1, .int .i64 f2, .int .i64 f3]] w fun e w' => e = .returned (.string (Lex.wrS ⟨f0, f1, f2, f3⟩)) ∧ Below w.heap.size w w' := by
  by_cases h3 : f0 = 3
  · have b3 : (f0 == 3) = true := beq_iff_eq.2 h3
    have e1 : 1 + f1.size ≤ 9223372036854775807 := by omega
    have e2 : 1 + f1.size + 1 ≤ 9223372036854775807 := by omega
    have e : Lex.wrS ⟨f0, f1, f2, f3⟩ = ((⟨#[34]⟩ : ByteArray) ++ f1) ++ (⟨#[34]⟩ : ByteArray) := if_pos h3
    have HE := Aside0.mk e
    clear e h3 hs
    go_enter Tryd.func34, Tryd.ntmps34
    go_wp2
    go_ret
    exact ⟨by rw [HE.out]; rfl, below_alloc (Below.refl _ _) _⟩
  · have b3 : (f0 == 3) = false := beq_eq_false_iff_ne.2 h3
    have e : Lex.wrS ⟨f0, f1, f2, f3⟩ = f1 := if_neg h3
    have HE := Aside0.mk e
    clear e h3 hs
    go_enter Tryd.func34, Tryd.ntmps34
    go_wp2
    go_ret
    exact ⟨by rw [HE.out]; rfl, below_alloc (Below.refl _ _) _⟩
set_option maxHeartbeats 2000000 in
set_option maxRecDepth 100000 in
theorem print_many (A0 : Option Addr) (c0 : Nat) (l0 : List S33) (w : World) (hn : 20000 < l0.length) :
    Calls Tryd.prog 19 #[.slice A0 l0.length c0] w fun e w' => e = .returned (.tuple #[.string ⟨#[]⟩, .int .i64 4]) ∧ w' = w := by
  have hI : (20000 : Int) < (l0.length : Int) := by omega
  go_enter Tryd.func19, Tryd.ntmps19
  go_wp2
  go_ret2
  exact ⟨rfl, rfl⟩
end PLex
namespace Lex
open PLex
/-- Print's answer, for at most 20000 tokens of moderate sizes. -/
def prR (l0 : List S33) : ByteArray × Int := if l0.all realS = false then (⟨#[]⟩, 8) else if 65536 < (txt l0 l0.length).length then (⟨#[]⟩, 4) else (BA (txt l0 l0.length), 0)
theorem prR_bad (l0 : List S33) (i : Nat) (h : i < l0.length) (hr : realS l0[i] = false) : prR l0 = (⟨#[]⟩, 8) := by
  unfold prR
  rw [if_pos]
  rw [List.all_eq_false]
  exact ⟨l0[i], List.getElem_mem h, by simp [hr]⟩
theorem prR_ok (l0 : List S33) (h : ∀ j (hj : j < l0.length), realS l0[j] = true) : prR l0 = if 65536 < (txt l0 l0.length).length then (⟨#[]⟩, 4) else (BA (txt l0 l0.length), 0) := by
  have : l0.all realS = true := List.all_eq_true.2 fun x hx => by
    obtain ⟨j, hj, rfl⟩ := List.mem_iff_getElem.1 hx
    exact h j hj
  unfold prR
  rw [if_neg (by rw [this]; decide)]
theorem bld_below {B b : Nat} {bs : List Value} {w w' : World} (h : Bld B b bs w) (hb : Below w.heap.size w w') : Bld B b bs w' := by
  have key : ∀ p, Lib.BuilderAt 65 5 B b p bs w → Lib.BuilderAt 65 5 B b p bs w' := by
    rintro p ⟨h1, v, h2, h3, h4⟩
    refine ⟨h1, v, (hb.block b (blk_lt h2)).trans h2, ?_, h4⟩
    rcases h3 with ⟨hl, h3⟩
    refine ⟨hl, ?_⟩
    rcases h3 with h3 | ⟨g, cap, cur, hv, hBg, hg, hr⟩
    · exact .inl h3
    · exact .inr ⟨g, cap, cur, hv, hBg, (hb.block g (Array.getElem?_eq_some_iff.1 hg).1).trans hg, hr⟩
  rcases h with h | h
  · exact .inl (key _ h)
  · exact .inr (key _ h)
end Lex
namespace PLex
theorem lexEqA33 (d : Nat) (w : World) (x0 y0 : Int) (x1 y1 : ByteArray) (x2 y2 : Int) (x3 y3 : Int) :
    (Op.equalIn (d + 2) 33 (.agg #[.int .u8 x0, .string x1, .int .i64 x2, .int .i64 x3]) (.agg #[.int .u8 y0, .string y1, .int .i64 y2, .int .i64 y3])).run Tryd.prog w = .ok (x0 == y0 && (x1.toList == y1.toList && (x2 == y2 && (x3 == y3)))) w := by
  refine eqA_of Tryd.underlying33 (by kernel_rfl) ?_
  refine eqf_cons (by rfl) (by go_simp; rfl) (by go_simp; rfl) (by go_simp) ?_
  refine eqf_cons (by rfl) (by go_simp; rfl) (by go_simp; rfl) (by go_simp) ?_
  refine eqf_cons (by rfl) (by go_simp; rfl) (by go_simp; rfl) (by go_simp) ?_
  exact eqf_last (by rfl) (by go_simp; rfl) (by go_simp; rfl) (by go_simp)
attribute [local go_sem high] lexEqA33
set_option maxHeartbeats 8000000 in
set_option maxRecDepth 100000 in
theorem print_few (A0 : Option Addr) (c0 : Nat) (l0 : List S33) (w : World) (hL : Lex.Laid w) (hr0 : Kd.C k33 w A0 l0.length l0) (hc0 : l0.length ≤ c0) (hsz : ∀ t ∈ l0, t.f1.size ≤ 140737488355328) (hn : l0.length ≤ 20000) :
    Calls Tryd.prog 19 #[.slice A0 l0.length c0] w fun e w' => e = .returned (.tuple #[.string (Lex.prR l0).1, .int .i64 (Lex.prR l0).2]) ∧ Below w.heap.size w w' := by
  obtain ⟨R, hR⟩ : ∃ R, R = Lex.prR l0 := ⟨_, rfl⟩
  rw [← hR]
  have HR := Aside0.mk hR
  have HL := Aside0.mk hL
  have HR0 := Aside0.mk hr0
  have HSZ := Aside0.mk hsz
  have HN := Aside0.mk hn
  have hI : ¬ (20000 : Int) < (l0.length : Int) := by omega
  clear hR hL hr0 hsz hn
  go_enter Tryd.func19, Tryd.ntmps19
  go_wp2
  go_loopg [18] (l0.length) (fun k v18 wr => ∃ (i : Nat) (x : Int), v18 = .int .i64 x ∧ Aside0 (x = (i : Int) ∧ i ≤ l0.length ∧ k = l0.length - i) ∧ Aside0 (∀ j (hj : j < l0.length), j < i → Lex.realS l0[j] = true) ∧ Aside0 (Below w.heap.size w wr))
  case atStart => exact ⟨0, 0, rfl, ⟨rfl, by omega, by omega⟩, ⟨fun j _ h => absurd h (by omega)⟩, ⟨Below.refl _ _⟩⟩
  case round =>
    obtain ⟨i, x, rfl, HI, HALL, HB⟩ := hrel
    by_cases hlt : i < l0.length
    · have hi := HI.out
      have p1 : 0 ≤ x := by omega
      have q1 : x < (l0.length : Int) := by omega
      obtain ⟨ad, e, hx0, hx1, hx2, hx3⟩ := at_T33 (Kd.C_below HR0.out HB.out) x p1 q1
      cases e
      have hrd : rd_T33 l0 x = l0[i] := by rw [hi.1]; simp [rd_T33, hlt]
      obtain ⟨f0, hf0⟩ : ∃ z, z = (rd_T33 l0 x).f0 := ⟨_, rfl⟩
      obtain ⟨f1, hf1⟩ : ∃ z, z = (rd_T33 l0 x).f1 := ⟨_, rfl⟩
      obtain ⟨f2, hf2⟩ : ∃ z, z = (rd_T33 l0 x).f2 := ⟨_, rfl⟩
      obtain ⟨f3, hf3⟩ : ∃ z, z = (rd_T33 l0 x).f3 := ⟨_, rfl⟩
      rw [← hf0] at hx0
      rw [← hf1] at hx1
      rw [← hf2] at hx2
      rw [← hf3] at hx3
      have hel : l0[i] = ⟨f0, f1, f2, f3⟩ := by rw [hf0, hf1, hf2, hf3, hrd]
      have HEL := Aside0.mk hel
      have hs1 : f1.size ≤ 140737488355328 := by
        have := HSZ.out l0[i] (List.getElem_mem hlt)
        rw [hel] at this
        exact this
      have HS1 := Aside0.mk hs1
      obtain ⟨S, hS⟩ : ∃ S, S = Lex.wrS ⟨f0, f1, f2, f3⟩ := ⟨_, rfl⟩
      have HS := Aside0.mk hS
      replace p1 := eq_true p1
      replace q1 := eq_true q1
      clear hi hrd hf0 hf1 hf2 hf3 hel hs1 hS
      by_cases hbig : 65536 < S.size
      · have hbI : (65536 : Int) < (S.size : Int) := by omega
        have hre : Lex.realS l0[i] = false := by
          rw [HEL.out]
          unfold Lex.realS
          rw [← HS.out, decide_eq_false (by omega)]
          rfl
        have er := HR.out.trans (Lex.prR_bad l0 i hlt hre)
        subst er
        clear hbig hre
        go_wp2_with (first
          | (go_at_call 34; refine (lexWritten_calls f0 f1 f2 f3 _ HS1.out).mono ?_; rintro e w2 ⟨rfl, hb⟩; rw [← HS.out]; have hbx := (hb.block _ (by simp)).trans (Lex.alloc_new _ _); have HX := Aside0.mk hbx; have HB2 := Aside0.mk (Nat.lt_of_lt_of_le (by simp) hb.size : wr.heap.size < w2.heap.size); have HB3 := Aside0.mk (below_step (below_alloc HB.out _) hb); clear hb hbx))
        go_ret2
        exact ⟨rfl, HB3.out⟩
      · have hbI : ¬ (65536 : Int) < (S.size : Int) := by omega
        obtain ⟨xs, hxs⟩ : ∃ xs, xs = (Lx.tokens (Lex.L S)).1.map Lex.tS := ⟨_, rfl⟩
        obtain ⟨q, hq⟩ : ∃ q : Int, q = ((Lx.tokens (Lex.L S)).2.1 : Nat) := ⟨_, rfl⟩
        obtain ⟨er, her⟩ : ∃ er : Int, er = ((Lx.tokens (Lex.L S)).2.2 : Nat) := ⟨_, rfl⟩
        have HTK : Aside0 (lexer_Tokens.f S = some (xs, q, er)) := ⟨by rw [hxs, hq, her]; rfl⟩
        have hreal : Lex.realS l0[i] = (er == 0 && Lex.oneS xs ⟨f0, f1, f2, 0⟩) := by
          rw [HEL.out]
          unfold Lex.realS
          rw [← HS.out, decide_eq_true (by omega), ← hxs, her, Bool.true_and]
          congr 1
          rw [Bool.eq_iff_iff, beq_iff_eq, beq_iff_eq]
          omega
        have HRE := Aside0.mk hreal
        clear hbig hxs hq her hreal
        by_cases h0 : er = 0
        · subst h0
          have hlx : xs.length = 1 ∨ xs.length ≠ 1 := by omega
          rcases hlx with hlx | hlx
          · obtain ⟨y, rfl⟩ : ∃ y, xs = [y] := List.length_eq_one_iff.1 hlx
            obtain ⟨y0, y1, y2, y3⟩ := y
            have HEQ : Aside0 (Lex.realS l0[i] = (y0 == f0 && (y1.toList == f1.toList && (y2 == f2 && (y3 == 0))))) := ⟨HRE.out⟩
            clear hlx
            go_wp2_with (first
              | (go_at_call 34; refine (lexWritten_calls f0 f1 f2 f3 _ HS1.out).mono ?_; rintro e w2 ⟨rfl, hb⟩; rw [← HS.out]; have hbx := (hb.block _ (by simp)).trans (Lex.alloc_new _ _); have HX := Aside0.mk hbx; have HB2 := Aside0.mk (Nat.lt_of_lt_of_le (by simp) hb.size : wr.heap.size < w2.heap.size); have HB3 := Aside0.mk (below_step (below_alloc HB.out _) hb); clear hb hbx)
              | (go_at_call 11; refine (lexer_Tokens.calls S _ _ _ _ (HL.out.below HB3.out) HTK.out).mono ?_; rintro e w3 ⟨v, rfl, hr, hb⟩; obtain ⟨A1, c1, rfl⟩ := Kd.R_slice hr; have HRW := Aside0.mk hr; have HX3 := Aside0.mk ((hb.block _ HB2.out).trans HX.out); have HB4 := Aside0.mk (below_step HB3.out hb); have z0 := (blk_cell HX3.out 0).trans rfl; have z1 := (blk_cell HX3.out 1).trans rfl; have z2 := (blk_cell HX3.out 2).trans rfl; have z3 := (blk_cell HX3.out 3).trans rfl; have fz0 := blk_frozen HX3.out 0; have fz3 := blk_frozen HX3.out 3; clear hr hb))
            obtain ⟨ad1, e1, g0, g1, g2, g3⟩ := at_T33 (Kd.R_reads' HRW.out).2.2 0 (by decide) (by simp)
            cases e1
            have hne : ad1.block ≠ wr.heap.size := by
              have h1 := Kd.R_base HRW.out ad1.block rfl
              have h2 := HB2.out
              omega
            have hne2 : wr.heap.size ≠ ad1.block := fun e => hne e.symm
            have g0' : w3.cell? ad1 = some (.int .u8 y0) := g0
            have g1' : w3.cell? ⟨ad1.block, ad1.off + 1, none⟩ = some (.string y1) := g1
            have g2' : w3.cell? ⟨ad1.block, ad1.off + 2, none⟩ = some (.int .i64 y2) := g2
            have g3' : w3.cell? ⟨ad1.block, ad1.off + 3, none⟩ = some (.int .i64 y3) := g3
            have G0 : (w3.setCell ⟨wr.heap.size, 3, none⟩ (.int .i64 0)).cell? ad1 = some (.int .u8 y0) := (World.cell?_setCell_far w3 ⟨wr.heap.size, 3, none⟩ ad1 _ hne2).trans g0'
            have G1 : (w3.setCell ⟨wr.heap.size, 3, none⟩ (.int .i64 0)).cell? ⟨ad1.block, ad1.off + 1, none⟩ = some (.string y1) := (World.cell?_setCell_far w3 ⟨wr.heap.size, 3, none⟩ ⟨ad1.block, ad1.off + 1, none⟩ _ hne2).trans g1'
            have G2 : (w3.setCell ⟨wr.heap.size, 3, none⟩ (.int .i64 0)).cell? ⟨ad1.block, ad1.off + 2, none⟩ = some (.int .i64 y2) := (World.cell?_setCell_far w3 ⟨wr.heap.size, 3, none⟩ ⟨ad1.block, ad1.off + 2, none⟩ _ hne2).trans g2'
            have G3 : (w3.setCell ⟨wr.heap.size, 3, none⟩ (.int .i64 0)).cell? ⟨ad1.block, ad1.off + 3, none⟩ = some (.int .i64 y3) := (World.cell?_setCell_far w3 ⟨wr.heap.size, 3, none⟩ ⟨ad1.block, ad1.off + 3, none⟩ _ hne2).trans g3'
            clear g0 g1 g2 g3 g0' g1' g2' g3'
            cases hre : Lex.realS l0[i] with
            | true =>
              have hq : (y0 == f0 && (y1.toList == f1.toList && (y2 == f2 && (y3 == 0)))) = true := HEQ.out.symm.trans hre
              have HRT := Aside0.mk hre
              clear hre
              go_quiet (fail)
              go_wp2
              go_roundg (l0.length - (i + 1))
              case measure => have := HI.out; omega
              case rel =>
                have hi := HI.out
                refine ⟨i + 1, _, rfl, ⟨?_, by omega, by omega⟩, ⟨?_⟩, ⟨pw_below_drewN (below_set HB4.out (by exact HB.out.size)) _⟩⟩
                · rw [hi.1, Lex.w64 (by have := HN.out; omega) (by have := HN.out; omega)]
                  omega
                · intro j hj hlt'
                  by_cases hji : j < i
                  · exact HALL.out j hj hji
                  · obtain rfl : j = i := by omega
                    exact HRT.out
            | false =>
              have hq : (y0 == f0 && (y1.toList == f1.toList && (y2 == f2 && (y3 == 0)))) = false := HEQ.out.symm.trans hre
              have eR := HR.out.trans (Lex.prR_bad l0 i hlt hre)
              subst eR
              clear hre
              go_quiet (fail)
              go_wp2
              go_ret2
              exact ⟨rfl, pw_below_drewN (below_set HB4.out (by exact HB.out.size)) _⟩
          · have hre : Lex.realS l0[i] = false := by
              rw [HRE.out]
              rcases xs with _ | ⟨a, _ | ⟨b, xs⟩⟩
              · rfl
              · exact absurd rfl hlx
              · rfl
            have eR := HR.out.trans (Lex.prR_bad l0 i hlt hre)
            subst eR
            have hl1 : ((xs.length : Int) != 1) = true := bne_iff_ne.2 (by omega)
            clear hre hlx
            go_wp2_with (first
              | (go_at_call 34; refine (lexWritten_calls f0 f1 f2 f3 _ HS1.out).mono ?_; rintro e w2 ⟨rfl, hb⟩; rw [← HS.out]; have hbx := (hb.block _ (by simp)).trans (Lex.alloc_new _ _); have HX := Aside0.mk hbx; have HB2 := Aside0.mk (Nat.lt_of_lt_of_le (by simp) hb.size : wr.heap.size < w2.heap.size); have HB3 := Aside0.mk (below_step (below_alloc HB.out _) hb); clear hb hbx)
              | (go_at_call 11; refine (lexer_Tokens.calls S _ _ _ _ (HL.out.below HB3.out) HTK.out).mono ?_; rintro e w3 ⟨v, rfl, hr, hb⟩; obtain ⟨A1, c1, rfl⟩ := Kd.R_slice hr; have HRW := Aside0.mk hr; have HX3 := Aside0.mk ((hb.block _ HB2.out).trans HX.out); have HB4 := Aside0.mk (below_step HB3.out hb); have z0 := (blk_cell HX3.out 0).trans rfl; have z1 := (blk_cell HX3.out 1).trans rfl; have z2 := (blk_cell HX3.out 2).trans rfl; have z3 := (blk_cell HX3.out 3).trans rfl; have fz0 := blk_frozen HX3.out 0; have fz3 := blk_frozen HX3.out 3; clear hr hb))
            go_quiet (fail)
            go_wp2
            go_ret2
            exact ⟨rfl, pw_below_drewN (below_set HB4.out (by exact HB.out.size)) _⟩
        · have hre : Lex.realS l0[i] = false := by
            rw [HRE.out, beq_eq_false_iff_ne.2 h0]
            rfl
          have eR := HR.out.trans (Lex.prR_bad l0 i hlt hre)
          subst eR
          have hne : (er != 0) = true := bne_iff_ne.2 h0
          clear hre h0
          go_wp2_with (first
            | (go_at_call 34; refine (lexWritten_calls f0 f1 f2 f3 _ HS1.out).mono ?_; rintro e w2 ⟨rfl, hb⟩; rw [← HS.out]; have hbx := (hb.block _ (by simp)).trans (Lex.alloc_new _ _); have HX := Aside0.mk hbx; have HB2 := Aside0.mk (Nat.lt_of_lt_of_le (by simp) hb.size : wr.heap.size < w2.heap.size); have HB3 := Aside0.mk (below_step (below_alloc HB.out _) hb); clear hb hbx)
            | (go_at_call 11; refine (lexer_Tokens.calls S _ _ _ _ (HL.out.below HB3.out) HTK.out).mono ?_; rintro e w3 ⟨v, rfl, hr, hb⟩; obtain ⟨A1, c1, rfl⟩ := Kd.R_slice hr; have HRW := Aside0.mk hr; have HX3 := Aside0.mk ((hb.block _ HB2.out).trans HX.out); have HB4 := Aside0.mk (below_step HB3.out hb); have z0 := (blk_cell HX3.out 0).trans rfl; have z1 := (blk_cell HX3.out 1).trans rfl; have z2 := (blk_cell HX3.out 2).trans rfl; have z3 := (blk_cell HX3.out 3).trans rfl; have fz0 := blk_frozen HX3.out 0; have fz3 := blk_frozen HX3.out 3; clear hr hb))
          go_quiet (fail)
          go_wp2
          go_ret2
          exact ⟨rfl, pw_below_drewN (below_set HB4.out (by exact HB.out.size)) _⟩
    · have hi := HI.out
      have hge : ¬ x < (l0.length : Int) := by omega
      have hok : ∀ j (hj : j < l0.length), Lex.realS l0[j] = true := fun j hj => HALL.out j hj (by omega)
      have HOK := Aside0.mk (HR.out.trans (Lex.prR_ok l0 hok))
      have HREAL := Aside0.mk hok
      have HWG := Aside0.mk HB.out.size
      clear hi hok
      go_wp2
      obtain ⟨g, hg⟩ : ∃ g, wr.heap.size = g := ⟨_, rfl⟩
      have HFR : Aside0 (Lex.Bld g g [] (wr.alloc (.cells #[.pointer none, .slice none 0 0] 65))) := ⟨hg ▸ Lib.fresh_isBuilder _ _ _⟩
      have HGL : Aside0 (g < (wr.alloc (.cells #[.pointer none, .slice none 0 0] 65)).heap.size) := ⟨by simp [hg]⟩
      rw [hg] at HWG
      rw [hg]
      clear hg
      go_loopg [51] (l0.length) (fun k v51 w5 => ∃ (i : Nat) (x : Int), v51 = .int .i64 x ∧ Aside0 (x = (i : Int) ∧ i ≤ l0.length ∧ k = l0.length - i) ∧ Aside0 (Lex.Bld g g (Lib.byteCells (Lex.txt l0 i)) w5) ∧ Aside0 ((Lex.txt l0 i).length ≤ 65536) ∧ Aside0 (Below w.heap.size w w5) ∧ Aside0 (g < w5.heap.size))
      case atStart =>
        refine ⟨0, 0, by rfl, ⟨rfl, by omega, by omega⟩, HFR, ⟨by simp [Lex.txt]⟩, ⟨below_alloc HB.out _⟩, HGL⟩
      case round =>
        clear HALL HI hge HFR HGL
        obtain ⟨i, x, rfl, HI, HBLD, HLEN, HB5, HLT⟩ := hrel
        by_cases hlt : i < l0.length
        · have hi := HI.out
          have p1 : 0 ≤ x := by omega
          have q1 : x < (l0.length : Int) := by omega
          obtain ⟨ad, e, hx0, hx1, hx2, hx3⟩ := at_T33 (Kd.C_below HR0.out HB5.out) x p1 q1
          cases e
          have hrd : rd_T33 l0 x = l0[i] := by rw [hi.1]; simp [rd_T33, hlt]
          obtain ⟨f0, hf0⟩ : ∃ z, z = (rd_T33 l0 x).f0 := ⟨_, rfl⟩
          obtain ⟨f1, hf1⟩ : ∃ z, z = (rd_T33 l0 x).f1 := ⟨_, rfl⟩
          obtain ⟨f2, hf2⟩ : ∃ z, z = (rd_T33 l0 x).f2 := ⟨_, rfl⟩
          obtain ⟨f3, hf3⟩ : ∃ z, z = (rd_T33 l0 x).f3 := ⟨_, rfl⟩
          rw [← hf0] at hx0
          rw [← hf1] at hx1
          rw [← hf2] at hx2
          rw [← hf3] at hx3
          have hel : l0[i] = ⟨f0, f1, f2, f3⟩ := by rw [hf0, hf1, hf2, hf3, hrd]
          have hs1 : f1.size ≤ 140737488355328 := by
            have := HSZ.out l0[i] (List.getElem_mem hlt)
            rw [hel] at this
            exact this
          have HS1 := Aside0.mk hs1
          obtain ⟨S, hS⟩ : ∃ S, S = Lex.wrS ⟨f0, f1, f2, f3⟩ := ⟨_, rfl⟩
          have HS := Aside0.mk hS
          have hSs : S.size ≤ 140737488355328 + 2 := by
            rw [hS]
            unfold Lex.wrS
            split
            · rw [ByteArray.size_append, ByteArray.size_append]
              show 1 + f1.size + 1 ≤ _
              omega
            · exact Nat.le_trans hs1 (by omega)
          have hSr : S.size ≤ 65536 := by
            have h1 := HREAL.out i hlt
            rw [hel] at h1
            unfold Lex.realS at h1
            rw [← hS] at h1
            simp only [Bool.and_eq_true, decide_eq_true_eq] at h1
            exact h1.1
          obtain ⟨TX, hTX⟩ : ∃ TX, TX = Lex.txt l0 (i + 1) := ⟨_, rfl⟩
          have htx : TX = Lex.txt l0 i ++ ((if 0 < i ∧ f0 ≠ 5 ∧ (l0.getD (i - 1) Lex.zS).f0 ≠ 5 then [32] else []) ++ Lex.L S) := by
            have hg : l0.getD i Lex.zS = ⟨f0, f1, f2, f3⟩ := by simp [hlt, hel]
            rw [hTX, Lex.txt, hg, hS]
          have hbl : (Lib.byteCells TX).length = TX.length := by simp [Lib.byteCells]
          have HTX := Aside0.mk hTX
          have HSR := Aside0.mk hSr
          have hsep : (¬ (0 < i ∧ f0 ≠ 5 ∧ (l0.getD (i - 1) Lex.zS).f0 ≠ 5) ∧ (¬ 0 < x ∨ (0 < x ∧ f0 = 5) ∨ (0 < x ∧ f0 ≠ 5 ∧ (l0.getD (i - 1) Lex.zS).f0 = 5))) ∨ (0 < i ∧ f0 ≠ 5 ∧ (l0.getD (i - 1) Lex.zS).f0 ≠ 5) := by
            by_cases h1 : 0 < i
            · by_cases h2 : f0 = 5
              · exact .inl ⟨fun h => h.2.1 h2, .inr (.inl ⟨by omega, h2⟩)⟩
              · by_cases h3 : (l0.getD (i - 1) Lex.zS).f0 = 5
                · exact .inl ⟨fun h => h.2.2 h3, .inr (.inr ⟨by omega, h2, h3⟩)⟩
                · exact .inr ⟨h1, h2, h3⟩
            · exact .inl ⟨fun h => h1 h.1, .inl (by omega)⟩
          obtain ⟨xm, hxm⟩ : ∃ xm : Int, xm = x - 1 := ⟨_, rfl⟩
          have wx1 : wrap64 (x - 1) = xm := by rw [Lex.w64 (by omega) (by have := HN.out; omega), hxm]
          have wx2 : IntKind.i64.wrap (x - 1) = xm := by rw [IntWalk.i64_in _ (by have := HN.out; omega), hxm]
          have hprev : 0 < i → (0 ≤ xm ∧ xm < (l0.length : Int) ∧ wr.cell? (ad.add (xm.toNat * 4)) = some (.int .u8 (l0.getD (i - 1) Lex.zS).f0)) := fun h => by
            obtain ⟨ad', e', k0, _⟩ := at_T33 (Kd.C_below HR0.out HB5.out) xm (by omega) (by omega)
            cases e'
            refine ⟨by omega, by omega, ?_⟩
            rw [k0, show xm = ((i - 1 : Nat) : Int) by omega]
            simp [rd_T33, show i - 1 < l0.length by omega]
          obtain ⟨pk, hpk⟩ : ∃ pk, pk = (l0.getD (i - 1) Lex.zS).f0 := ⟨_, rfl⟩
          rw [← hpk] at hprev hsep htx
          have HXI := Aside0.mk hi
          replace p1 := eq_true p1
          replace q1 := eq_true q1
          clear hi hrd hf0 hf1 hf2 hf3 hel hs1 hS hTX hSs hSr hxm hpk
          rcases hsep with ⟨hno, hsep⟩ | ⟨hi0, h5, hp5⟩
          · have htx' := htx
            rw [if_neg hno, List.nil_append] at htx'
            have HTE := Aside0.mk htx'
            clear htx htx' hno
            rcases hsep with hx0' | ⟨hxp, h5⟩ | ⟨hxp, h5, hp5⟩
            · clear hprev
              by_cases hbig : 65536 < TX.length
              · have hbI : (65536 : Int) < (TX.length : Int) := by omega
                have eR := HOK.out
                rw [if_pos (by have h1 := Lex.txt_mono l0 (i + 1) l0.length hlt; rw [← HTX.out] at h1; omega)] at eR
                have HER := Aside0.mk eR
                clear hbig eR
                go_wp2_with (first
                  | (go_at_call 34; refine (lexWritten_calls f0 f1 f2 f3 _ HS1.out).mono ?_; rintro e w7 ⟨rfl, hb⟩; rw [← HS.out]; have HBLD7 := Aside0.mk (Lex.bld_below (Lex.bld_below HBLD.out (below_alloc (Below.refl _ _) _)) hb); have HB7 := Aside0.mk (below_step (below_alloc HB5.out _) hb); have HG7 : Aside0 (g ≤ w7.heap.size) := ⟨Nat.le_trans (Nat.le_of_lt (Nat.lt_of_lt_of_le HLT.out (by simp))) hb.size⟩; clear hb)
                          | (go_at_call 36; refine (writeString_calls g g _ S _ HBLD7.out (by have := HLEN.out; have := HSR.out; simp [Lib.byteCells]; omega) HG7.out).mono ?_; rintro e w8 ⟨rfl, hbl8, hb8, hk8⟩; have HBLD8 : Aside0 (Lex.Bld g g (Lib.byteCells TX) w8) := ⟨by rw [HTE.out]; simpa [Lib.byteCells, Lib.strCells, List.map_append] using hbl8⟩; have HB8 := Aside0.mk (Lex.bel_trans HB7.out hb8 HWG.out); have HL8 : Aside0 (g < w8.heap.size) := ⟨by rcases hbl8 with h | h <;> exact h.lt⟩; clear hbl8 hb8 hk8)
                          | (go_at_call 37; refine (Tryd.Builder_Len g g (Lib.byteCells TX) _ HBLD8.out).mono ?_; rintro e w9 ⟨rfl, rfl⟩; rw [hbl]))
                go_ret2
                have eR := HER.out
                subst eR
                exact ⟨rfl, HB8.out⟩
              · have hbI : ¬ (65536 : Int) < (TX.length : Int) := by omega
                have HTS : Aside0 (TX.length ≤ 65536) := ⟨by omega⟩
                clear hbig
                go_wp2_with (first
                  | (go_at_call 34; refine (lexWritten_calls f0 f1 f2 f3 _ HS1.out).mono ?_; rintro e w7 ⟨rfl, hb⟩; rw [← HS.out]; have HBLD7 := Aside0.mk (Lex.bld_below (Lex.bld_below HBLD.out (below_alloc (Below.refl _ _) _)) hb); have HB7 := Aside0.mk (below_step (below_alloc HB5.out _) hb); have HG7 : Aside0 (g ≤ w7.heap.size) := ⟨Nat.le_trans (Nat.le_of_lt (Nat.lt_of_lt_of_le HLT.out (by simp))) hb.size⟩; clear hb)
                          | (go_at_call 36; refine (writeString_calls g g _ S _ HBLD7.out (by have := HLEN.out; have := HSR.out; simp [Lib.byteCells]; omega) HG7.out).mono ?_; rintro e w8 ⟨rfl, hbl8, hb8, hk8⟩; have HBLD8 : Aside0 (Lex.Bld g g (Lib.byteCells TX) w8) := ⟨by rw [HTE.out]; simpa [Lib.byteCells, Lib.strCells, List.map_append] using hbl8⟩; have HB8 := Aside0.mk (Lex.bel_trans HB7.out hb8 HWG.out); have HL8 : Aside0 (g < w8.heap.size) := ⟨by rcases hbl8 with h | h <;> exact h.lt⟩; clear hbl8 hb8 hk8)
                          | (go_at_call 37; refine (Tryd.Builder_Len g g (Lib.byteCells TX) _ HBLD8.out).mono ?_; rintro e w9 ⟨rfl, rfl⟩; rw [hbl]))
                go_roundg (l0.length - (i + 1))
                case measure => have := HXI.out; omega
                case rel =>
                  have hi := HXI.out
                  refine ⟨i + 1, _, rfl, ⟨?_, by omega, by omega⟩, ⟨by rw [← HTX.out]; exact HBLD8.out⟩, ⟨by rw [← HTX.out]; exact HTS.out⟩, HB8, HL8⟩
                  rw [hi.1, Lex.w64 (by have := HN.out; omega) (by have := HN.out; omega)]
                  omega
            · have hb5 : (f0 != 5) = false := bne_eq_false_iff_eq.2 h5
              clear hprev h5
              by_cases hbig : 65536 < TX.length
              · have hbI : (65536 : Int) < (TX.length : Int) := by omega
                have eR := HOK.out
                rw [if_pos (by have h1 := Lex.txt_mono l0 (i + 1) l0.length hlt; rw [← HTX.out] at h1; omega)] at eR
                have HER := Aside0.mk eR
                clear hbig eR
                go_wp2_with (first
                  | (go_at_call 34; refine (lexWritten_calls f0 f1 f2 f3 _ HS1.out).mono ?_; rintro e w7 ⟨rfl, hb⟩; rw [← HS.out]; have HBLD7 := Aside0.mk (Lex.bld_below (Lex.bld_below HBLD.out (below_alloc (Below.refl _ _) _)) hb); have HB7 := Aside0.mk (below_step (below_alloc HB5.out _) hb); have HG7 : Aside0 (g ≤ w7.heap.size) := ⟨Nat.le_trans (Nat.le_of_lt (Nat.lt_of_lt_of_le HLT.out (by simp))) hb.size⟩; clear hb)
                          | (go_at_call 36; refine (writeString_calls g g _ S _ HBLD7.out (by have := HLEN.out; have := HSR.out; simp [Lib.byteCells]; omega) HG7.out).mono ?_; rintro e w8 ⟨rfl, hbl8, hb8, hk8⟩; have HBLD8 : Aside0 (Lex.Bld g g (Lib.byteCells TX) w8) := ⟨by rw [HTE.out]; simpa [Lib.byteCells, Lib.strCells, List.map_append] using hbl8⟩; have HB8 := Aside0.mk (Lex.bel_trans HB7.out hb8 HWG.out); have HL8 : Aside0 (g < w8.heap.size) := ⟨by rcases hbl8 with h | h <;> exact h.lt⟩; clear hbl8 hb8 hk8)
                          | (go_at_call 37; refine (Tryd.Builder_Len g g (Lib.byteCells TX) _ HBLD8.out).mono ?_; rintro e w9 ⟨rfl, rfl⟩; rw [hbl]))
                go_ret2
                have eR := HER.out
                subst eR
                exact ⟨rfl, HB8.out⟩
              · have hbI : ¬ (65536 : Int) < (TX.length : Int) := by omega
                have HTS : Aside0 (TX.length ≤ 65536) := ⟨by omega⟩
                clear hbig
                go_wp2_with (first
                  | (go_at_call 34; refine (lexWritten_calls f0 f1 f2 f3 _ HS1.out).mono ?_; rintro e w7 ⟨rfl, hb⟩; rw [← HS.out]; have HBLD7 := Aside0.mk (Lex.bld_below (Lex.bld_below HBLD.out (below_alloc (Below.refl _ _) _)) hb); have HB7 := Aside0.mk (below_step (below_alloc HB5.out _) hb); have HG7 : Aside0 (g ≤ w7.heap.size) := ⟨Nat.le_trans (Nat.le_of_lt (Nat.lt_of_lt_of_le HLT.out (by simp))) hb.size⟩; clear hb)
                          | (go_at_call 36; refine (writeString_calls g g _ S _ HBLD7.out (by have := HLEN.out; have := HSR.out; simp [Lib.byteCells]; omega) HG7.out).mono ?_; rintro e w8 ⟨rfl, hbl8, hb8, hk8⟩; have HBLD8 : Aside0 (Lex.Bld g g (Lib.byteCells TX) w8) := ⟨by rw [HTE.out]; simpa [Lib.byteCells, Lib.strCells, List.map_append] using hbl8⟩; have HB8 := Aside0.mk (Lex.bel_trans HB7.out hb8 HWG.out); have HL8 : Aside0 (g < w8.heap.size) := ⟨by rcases hbl8 with h | h <;> exact h.lt⟩; clear hbl8 hb8 hk8)
                          | (go_at_call 37; refine (Tryd.Builder_Len g g (Lib.byteCells TX) _ HBLD8.out).mono ?_; rintro e w9 ⟨rfl, rfl⟩; rw [hbl]))
                go_roundg (l0.length - (i + 1))
                case measure => have := HXI.out; omega
                case rel =>
                  have hi := HXI.out
                  refine ⟨i + 1, _, rfl, ⟨?_, by omega, by omega⟩, ⟨by rw [← HTX.out]; exact HBLD8.out⟩, ⟨by rw [← HTX.out]; exact HTS.out⟩, HB8, HL8⟩
                  rw [hi.1, Lex.w64 (by have := HN.out; omega) (by have := HN.out; omega)]
                  omega
            · have hb5 : (f0 != 5) = true := bne_iff_ne.2 h5
              have hp5' : (pk != 5) = false := bne_eq_false_iff_eq.2 hp5
              obtain ⟨pm1, pm2, hxp1⟩ := hprev (by have := HXI.out; omega)
              have hxq : ∀ o, (wr.alloc o).cell? (ad.add (xm.toNat * 4)) = some (.int .u8 pk) := fun o => pw_cell_below (below_alloc (Below.refl _ _) o) hxp1
              clear hprev h5 hp5
              by_cases hbig : 65536 < TX.length
              · have hbI : (65536 : Int) < (TX.length : Int) := by omega
                have eR := HOK.out
                rw [if_pos (by have h1 := Lex.txt_mono l0 (i + 1) l0.length hlt; rw [← HTX.out] at h1; omega)] at eR
                have HER := Aside0.mk eR
                clear hbig eR
                go_wp2_with (first
                  | (go_at_call 34; refine (lexWritten_calls f0 f1 f2 f3 _ HS1.out).mono ?_; rintro e w7 ⟨rfl, hb⟩; rw [← HS.out]; have HBLD7 := Aside0.mk (Lex.bld_below (Lex.bld_below HBLD.out (below_alloc (Below.refl _ _) _)) hb); have HB7 := Aside0.mk (below_step (below_alloc HB5.out _) hb); have HG7 : Aside0 (g ≤ w7.heap.size) := ⟨Nat.le_trans (Nat.le_of_lt (Nat.lt_of_lt_of_le HLT.out (by simp))) hb.size⟩; clear hb)
                          | (go_at_call 36; refine (writeString_calls g g _ S _ HBLD7.out (by have := HLEN.out; have := HSR.out; simp [Lib.byteCells]; omega) HG7.out).mono ?_; rintro e w8 ⟨rfl, hbl8, hb8, hk8⟩; have HBLD8 : Aside0 (Lex.Bld g g (Lib.byteCells TX) w8) := ⟨by rw [HTE.out]; simpa [Lib.byteCells, Lib.strCells, List.map_append] using hbl8⟩; have HB8 := Aside0.mk (Lex.bel_trans HB7.out hb8 HWG.out); have HL8 : Aside0 (g < w8.heap.size) := ⟨by rcases hbl8 with h | h <;> exact h.lt⟩; clear hbl8 hb8 hk8)
                          | (go_at_call 37; refine (Tryd.Builder_Len g g (Lib.byteCells TX) _ HBLD8.out).mono ?_; rintro e w9 ⟨rfl, rfl⟩; rw [hbl]))
                go_ret2
                have eR := HER.out
                subst eR
                exact ⟨rfl, HB8.out⟩
              · have hbI : ¬ (65536 : Int) < (TX.length : Int) := by omega
                have HTS : Aside0 (TX.length ≤ 65536) := ⟨by omega⟩
                clear hbig
                go_wp2_with (first
                  | (go_at_call 34; refine (lexWritten_calls f0 f1 f2 f3 _ HS1.out).mono ?_; rintro e w7 ⟨rfl, hb⟩; rw [← HS.out]; have HBLD7 := Aside0.mk (Lex.bld_below (Lex.bld_below HBLD.out (below_alloc (Below.refl _ _) _)) hb); have HB7 := Aside0.mk (below_step (below_alloc HB5.out _) hb); have HG7 : Aside0 (g ≤ w7.heap.size) := ⟨Nat.le_trans (Nat.le_of_lt (Nat.lt_of_lt_of_le HLT.out (by simp))) hb.size⟩; clear hb)
                          | (go_at_call 36; refine (writeString_calls g g _ S _ HBLD7.out (by have := HLEN.out; have := HSR.out; simp [Lib.byteCells]; omega) HG7.out).mono ?_; rintro e w8 ⟨rfl, hbl8, hb8, hk8⟩; have HBLD8 : Aside0 (Lex.Bld g g (Lib.byteCells TX) w8) := ⟨by rw [HTE.out]; simpa [Lib.byteCells, Lib.strCells, List.map_append] using hbl8⟩; have HB8 := Aside0.mk (Lex.bel_trans HB7.out hb8 HWG.out); have HL8 : Aside0 (g < w8.heap.size) := ⟨by rcases hbl8 with h | h <;> exact h.lt⟩; clear hbl8 hb8 hk8)
                          | (go_at_call 37; refine (Tryd.Builder_Len g g (Lib.byteCells TX) _ HBLD8.out).mono ?_; rintro e w9 ⟨rfl, rfl⟩; rw [hbl]))
                go_roundg (l0.length - (i + 1))
                case measure => have := HXI.out; omega
                case rel =>
                  have hi := HXI.out
                  refine ⟨i + 1, _, rfl, ⟨?_, by omega, by omega⟩, ⟨by rw [← HTX.out]; exact HBLD8.out⟩, ⟨by rw [← HTX.out]; exact HTS.out⟩, HB8, HL8⟩
                  rw [hi.1, Lex.w64 (by have := HN.out; omega) (by have := HN.out; omega)]
                  omega
          · have htx' := htx
            rw [if_pos ⟨hi0, h5, hp5⟩] at htx'
            have HTE := Aside0.mk htx'
            have hb5 : (f0 != 5) = true := bne_iff_ne.2 h5
            have hp5' : (pk != 5) = true := bne_iff_ne.2 hp5
            obtain ⟨pm1, pm2, hxp1⟩ := hprev hi0
            have hxq : ∀ o, (wr.alloc o).cell? (ad.add (xm.toNat * 4)) = some (.int .u8 pk) := fun o => pw_cell_below (below_alloc (Below.refl _ _) o) hxp1
            have hxp : 0 < x := by have := HXI.out; omega
            clear htx htx' hprev h5 hp5
            by_cases hbig : 65536 < TX.length
            · have hbI : (65536 : Int) < (TX.length : Int) := by omega
              have eR := HOK.out
              rw [if_pos (by have h1 := Lex.txt_mono l0 (i + 1) l0.length hlt; rw [← HTX.out] at h1; omega)] at eR
              have HER := Aside0.mk eR
              clear hbig eR
              go_wp2_with (first
                | (go_at_call 35; refine (writeByte_calls g g _ 32 _ (Lex.bld_below HBLD.out (below_alloc (Below.refl _ _) _)) (by have := HLEN.out; simp [Lib.byteCells]; omega) (Nat.le_trans (Nat.le_of_lt HLT.out) (by simp))).mono ?_; rintro e w6 ⟨rfl, hbl6, hb6, hk6⟩; have HBLD6 := Aside0.mk hbl6; have hx6 := hk6 wr.heap.size _ _ _ (Lex.alloc_new _ _) (by decide) (by have := HLT.out; omega); have HX6 := Aside0.mk hx6; have HB6 := Aside0.mk (Lex.bel_trans (below_alloc HB5.out _) hb6 HWG.out); have HG6 : Aside0 (g < w6.heap.size) := ⟨Nat.lt_of_lt_of_le (Nat.lt_of_lt_of_le HLT.out (by simp)) hb6.size⟩; have z0 := (blk_cell HX6.out 0).trans rfl; have z1 := (blk_cell HX6.out 1).trans rfl; have z2 := (blk_cell HX6.out 2).trans rfl; have z3 := (blk_cell HX6.out 3).trans rfl; clear hbl6 hb6 hk6 hx6)
                        | (go_at_call 34; refine (lexWritten_calls f0 f1 f2 f3 _ HS1.out).mono ?_; rintro e w7 ⟨rfl, hb⟩; rw [← HS.out]; have HBLD7 := Aside0.mk (Lex.bld_below HBLD6.out hb); have HB7 := Aside0.mk (below_step HB6.out hb); have HG7 : Aside0 (g ≤ w7.heap.size) := ⟨Nat.le_trans (Nat.le_of_lt HG6.out) hb.size⟩; clear hb)
                        | (go_at_call 36; refine (writeString_calls g g _ S _ HBLD7.out (by have := HLEN.out; have := HSR.out; simp [Lib.byteCells]; omega) HG7.out).mono ?_; rintro e w8 ⟨rfl, hbl8, hb8, hk8⟩; have HBLD8 : Aside0 (Lex.Bld g g (Lib.byteCells TX) w8) := ⟨by rw [HTE.out]; simpa [Lib.byteCells, Lib.strCells, List.map_append] using hbl8⟩; have HB8 := Aside0.mk (Lex.bel_trans HB7.out hb8 HWG.out); have HL8 : Aside0 (g < w8.heap.size) := ⟨by rcases hbl8 with h | h <;> exact h.lt⟩; clear hbl8 hb8 hk8)
                        | (go_at_call 37; refine (Tryd.Builder_Len g g (Lib.byteCells TX) _ HBLD8.out).mono ?_; rintro e w9 ⟨rfl, rfl⟩; rw [hbl]))
              go_ret2
              have eR := HER.out
              subst eR
              exact ⟨rfl, HB8.out⟩
            · have hbI : ¬ (65536 : Int) < (TX.length : Int) := by omega
              have HTS : Aside0 (TX.length ≤ 65536) := ⟨by omega⟩
              clear hbig
              go_wp2_with (first
                | (go_at_call 35; refine (writeByte_calls g g _ 32 _ (Lex.bld_below HBLD.out (below_alloc (Below.refl _ _) _)) (by have := HLEN.out; simp [Lib.byteCells]; omega) (Nat.le_trans (Nat.le_of_lt HLT.out) (by simp))).mono ?_; rintro e w6 ⟨rfl, hbl6, hb6, hk6⟩; have HBLD6 := Aside0.mk hbl6; have hx6 := hk6 wr.heap.size _ _ _ (Lex.alloc_new _ _) (by decide) (by have := HLT.out; omega); have HX6 := Aside0.mk hx6; have HB6 := Aside0.mk (Lex.bel_trans (below_alloc HB5.out _) hb6 HWG.out); have HG6 : Aside0 (g < w6.heap.size) := ⟨Nat.lt_of_lt_of_le (Nat.lt_of_lt_of_le HLT.out (by simp)) hb6.size⟩; have z0 := (blk_cell HX6.out 0).trans rfl; have z1 := (blk_cell HX6.out 1).trans rfl; have z2 := (blk_cell HX6.out 2).trans rfl; have z3 := (blk_cell HX6.out 3).trans rfl; clear hbl6 hb6 hk6 hx6)
                        | (go_at_call 34; refine (lexWritten_calls f0 f1 f2 f3 _ HS1.out).mono ?_; rintro e w7 ⟨rfl, hb⟩; rw [← HS.out]; have HBLD7 := Aside0.mk (Lex.bld_below HBLD6.out hb); have HB7 := Aside0.mk (below_step HB6.out hb); have HG7 : Aside0 (g ≤ w7.heap.size) := ⟨Nat.le_trans (Nat.le_of_lt HG6.out) hb.size⟩; clear hb)
                        | (go_at_call 36; refine (writeString_calls g g _ S _ HBLD7.out (by have := HLEN.out; have := HSR.out; simp [Lib.byteCells]; omega) HG7.out).mono ?_; rintro e w8 ⟨rfl, hbl8, hb8, hk8⟩; have HBLD8 : Aside0 (Lex.Bld g g (Lib.byteCells TX) w8) := ⟨by rw [HTE.out]; simpa [Lib.byteCells, Lib.strCells, List.map_append] using hbl8⟩; have HB8 := Aside0.mk (Lex.bel_trans HB7.out hb8 HWG.out); have HL8 : Aside0 (g < w8.heap.size) := ⟨by rcases hbl8 with h | h <;> exact h.lt⟩; clear hbl8 hb8 hk8)
                        | (go_at_call 37; refine (Tryd.Builder_Len g g (Lib.byteCells TX) _ HBLD8.out).mono ?_; rintro e w9 ⟨rfl, rfl⟩; rw [hbl]))
              go_roundg (l0.length - (i + 1))
              case measure => have := HXI.out; omega
              case rel =>
                have hi := HXI.out
                refine ⟨i + 1, _, rfl, ⟨?_, by omega, by omega⟩, ⟨by rw [← HTX.out]; exact HBLD8.out⟩, ⟨by rw [← HTX.out]; exact HTS.out⟩, HB8, HL8⟩
                rw [hi.1, Lex.w64 (by have := HN.out; omega) (by have := HN.out; omega)]
                omega
        · have hi := HI.out
          have hge : ¬ x < (l0.length : Int) := by omega
          have hin : i = l0.length := by omega
          subst hin
          have eR := HOK.out
          rw [if_neg (by have := HLEN.out; omega)] at eR
          have HER := Aside0.mk eR
          clear hi eR
          go_wp2_with (first
            | (go_at_call 38; refine (Tryd.Builder_String_any g g (Lex.txt l0 l0.length) _ HBLD.out (Nat.le_of_lt HLT.out)).mono ?_; rintro e w6 ⟨rfl, hb⟩; have HB6 := Aside0.mk (Lex.bel_trans HB5.out hb HWG.out); clear hb))
          go_ret2
          have eR := HER.out
          subst eR
          exact ⟨rfl, HB6.out⟩
/-- Print. -/
theorem lexer_Print.calls (A0 : Option Addr) (c0 : Nat) (l0 : List S33) (r1 : ByteArray) (r2 : Int) (w : World) (hL : Lex.Laid w) (hr0 : Kd.C k33 w A0 l0.length l0) (hc0 : l0.length ≤ c0) (h : lexer_Print.f l0 = some (r1, r2)) :
    Calls Tryd.prog 19 #[.slice A0 l0.length c0] w fun e w' => e = .returned (.tuple #[.string r1, .int .i64 r2]) ∧ Below w.heap.size w w' := by
  unfold lexer_Print.f at h
  split at h
  · rename_i hall
    have hsz : ∀ t ∈ l0, t.f1.size ≤ 140737488355328 := fun t ht => of_decide_eq_true (List.all_eq_true.1 hall t ht)
    have h := Option.some.inj h
    by_cases hn : 20000 < l0.length
    · rw [if_pos hn] at h
      injection h with h1 h2
      subst h1
      subst h2
      refine (print_many A0 c0 l0 w hn).mono ?_
      rintro e w' ⟨rfl, rfl⟩
      exact ⟨rfl, Below.refl _ _⟩
    · rw [if_neg hn] at h
      have e : Lex.prR l0 = (r1, r2) := h
      have := print_few A0 c0 l0 w hL hr0 hc0 hsz (by omega)
      rw [e] at this
      exact this
  · cases h
end PLex
end Go.Proofs.YtbaojlfnbfbjmaaDoor
