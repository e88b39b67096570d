/- The parts between the ends of lines: the function that yields them. append to a row of rows, as a run: the printed words' laws told ahead of any walk (for a walk inside a fence). A copy of a part of a row, as a run. The lexer's Lines: a range over a function that collects copies. -/
import Derived.Test.YtbaojlfnbfbjmaaDoorPLex0
import Derived.Test.YtbaojlfnbfbjmaaDoorLexRead
import Derived.Test.YtbaojlfnbfbjmaaDoorLexRow
import Derived.RangeFuncNested
import Derived.RangeFuncBound
import Derived.RangeFuncCalls
import Derived.RangeFuncLeaves
import Derived.Shelf.Abstract
import Derived.Shelf.RegionOpen
import Derived.WalkKit
import Derived.OwnWalkIn
import Derived.TacticsInMore
import Derived.LoopNIn
import Derived.LoopIn
import Derived.Test.YtbaojlfnbfbjmaaDoorWApart
import Derived.Maps.AppendAt
import Derived.Test.YtbaojlfnbfbjmaaDoorWRepsOne
import Derived.DataElems
import Derived.RangeFuncFrom
import Derived.RangeFuncBox
namespace Go.Proofs.YtbaojlfnbfbjmaaDoor
open Go.RowKit Go.Shelf Go.Proofs Go.Proofs.YtbaojlfnbfbjmaaDoorW.PrintWords Go.Proofs.YtbaojlfnbfbjmaaDoorW.PrintLast Go.Proofs.YtbaojlfnbfbjmaaDoorW.PrintMore
set_option linter.unusedVariables false
set_option linter.unusedSimpArgs false
attribute [local go_sem] Oper.semAt_some
namespace Lex
open PLex
/-- A part of a row, as the program cuts it. -/
def subS (A : Option Addr) (c a b : Nat) : Value := .slice (if c = a then A else A.map (·.add (a * 4))) (b - a) (c - a)
/-- The parts ahead of place k, and where the next one begins. -/
def cutSt (l : List S33) : Nat → List (Nat × Nat) × Nat
  | 0 => ([], 0)
  | k + 1 => if (l.getD k ⟨0, ⟨#[]⟩, 0, 0⟩).f0 = 5 then ((cutSt l k).1 ++ [((cutSt l k).2, k)], k + 1) else cutSt l k
def cutAll (l : List S33) : List (Nat × Nat) := (cutSt l l.length).1 ++ [((cutSt l l.length).2, l.length)]
theorem cutSt_le (l : List S33) : ∀ k, (cutSt l k).2 ≤ k ∧ (cutSt l k).1.length ≤ k
  | 0 => ⟨Nat.le_refl _, Nat.le_refl _⟩
  | k + 1 => by
    obtain ⟨h1, h2⟩ := cutSt_le l k
    unfold cutSt
    split
    · simp; omega
    · omega
theorem cutSt_pre (l : List S33) (k j : Nat) (h : k ≤ j) : (cutSt l k).1 <+: (cutSt l j).1 := by
  induction h with
  | refl => exact List.prefix_refl _
  | step _ ih =>
    refine ih.trans ?_
    rw [cutSt]
    split
    · exact List.prefix_append _ _
    · exact List.prefix_refl _
/-- The places of a part, within the row. -/
abbrev Cut (n : Nat) := {x : Nat × Nat // x.1 ≤ x.2 ∧ x.2 ≤ n}
/-- What a round of the caller keeps: what lay below n₀, and block Bn. -/
def Kc (n₀ Bn : Nat) (W W' : World) : Prop := Below n₀ W W' ∧ W'.heap[Bn]? = W.heap[Bn]?
theorem Kc.refl (n₀ Bn : Nat) (W : World) : Kc n₀ Bn W W := ⟨Below.refl _ _, rfl⟩
theorem Kc.trans {n₀ Bn : Nat} {A B C : World} (h : Kc n₀ Bn A B) (k : Kc n₀ Bn B C) : Kc n₀ Bn A C := ⟨h.1.trans k.1, k.2.trans h.2⟩
theorem Kc.alloc {n₀ Bn : Nat} {A B : World} (h : Kc n₀ Bn A B) (hn : n₀ ≤ B.heap.size) (hb : Bn < B.heap.size) (o : Obj) : Kc n₀ Bn A (B.alloc o) :=
  ⟨h.1.alloc hn _, (Below.heap_alloc B o Bn hb).trans h.2⟩
end Lex
namespace PLex
set_option maxHeartbeats 4000000 in
set_option maxRecDepth 100000 in
theorem cuts1_in (F : Fence) (n : Nat) (h52 : F.fn 52) (hro : F.round = none) (hn : 1 ≤ n) (l Bn n₀ : Nat) (A0 : Option Addr) (c0 : Nat) (l0 : List S33) (J Jx : List (Nat × Nat) → World → Prop)
    (hY : ∀ pre x W, J pre W → pre.length < l0.length + 1 → x.1 ≤ x.2 → x.2 ≤ l0.length → YieldAt F (n - 1) Tryd.prog l #[Lex.subS A0 c0 x.1 x.2] W fun e W' =>
      (e = .returned (.bool true) ∧ J (pre ++ [x]) W' ∧ Lex.Kc n₀ Bn W W') ∨ (e = .returned (.bool false) ∧ Jx (pre ++ [x]) W'))
    (W : World) (hBn : W.heap[Bn]? = some (.cells #[.slice A0 l0.length c0] 22 (0, 0))) (hn0 : n₀ ≤ W.heap.size) (hc0 : l0.length ≤ c0) (hlen : l0.length ≤ 1000000)
    (hC : ∀ W', Lex.Kc n₀ Bn W W' → Kd.C k33 W' A0 l0.length l0) (hJ : AbidesFrom W.heap.size J) (h0 : J [] W) :
    CallsIn F n Tryd.prog 52 #[.func (.yield l) #[] #[], .pointer (some ⟨Bn, 0, none⟩)] W fun e W' => (∃ v, e = .returned v) ∧
      ((∃ ys, ys = Lex.cutAll l0 ∧ J ys W') ∨ (∃ pre, pre <+: Lex.cutAll l0 ∧ Jx pre W')) := by
  have hb0 : W.cell? ⟨Bn, 0, none⟩ = some (.slice A0 l0.length c0) := by simp [World.cell?, hBn]
  refine callsIn_of_wp Tryd.func52 rfl h52 ?_ hro
  simp only [Tryd.ntmps52, List.size_toArray, List.length_cons, List.length_nil, Nat.reduceAdd, Nat.reduceSub, Array.replicate_succ, Array.replicate_zero, List.push_toArray, List.append_toArray, List.nil_append, List.cons_append]
  gi_wp2
  gi_loopw [3, 8] (fun v3 v8 wr => ∃ k : Nat, k ≤ l0.length ∧ v8 = .int .i64 (k : Int) ∧ v3 = .int .i64 ((Lex.cutSt l0 k).2 : Nat) ∧ J (Lex.cutSt l0 k).1 wr ∧ Lex.Kc n₀ Bn W wr)
    (fun _ v8 _ => l0.length - (intOf v8).toNat)
  case atStart => exact ⟨0, Nat.zero_le _, rfl, rfl, h0, Lex.Kc.refl _ _ _⟩
  case round =>
    obtain ⟨k, hk, rfl, rfl, hJs, hK⟩ := hrel
    have hle := Lex.cutSt_le l0 k
    have hBk : wr.heap[Bn]? = some (.cells #[.slice A0 l0.length c0] 22 (0, 0)) := hK.2.trans hBn
    have hb1 : wr.cell? ⟨Bn, 0, none⟩ = some (.slice A0 l0.length c0) := by simp [World.cell?, hBk]
    have hBlt := blk_lt hBk
    have hsz := hK.1.size
    have hin : (Tryd.prog.info? 33).map (fun i => (i.zero, i.size, i.bytes)) = _ := info33
    obtain ⟨i0, hi0, _, his, _⟩ := info_parts info33
    obtain ⟨fr, hfr⟩ : ∃ fr, fr = (Lex.cutSt l0 k).2 := ⟨_, rfl⟩
    rw [← hfr] at hle ⊢
    have HFR := Aside0.mk hfr
    by_cases hlt : k < l0.length
    · have q1 : (k : Int) < (l0.length : Int) := by omega
      obtain ⟨ad, e, hx0, hx1, hx2, hx3⟩ := at_T33 (hC wr hK) (k : Int) (by omega) q1
      subst e
      simp only [Int.toNat_natCast] at hx0 hx1 hx2 hx3
      have hrd : rd_T33 l0 (k : Int) = l0[k] := by simp [rd_T33, hlt]
      obtain ⟨f0, hf0⟩ : ∃ z, z = (rd_T33 l0 (k : Int)).f0 := ⟨_, rfl⟩
      obtain ⟨f1, hf1⟩ : ∃ z, z = (rd_T33 l0 (k : Int)).f1 := ⟨_, rfl⟩
      obtain ⟨f2, hf2⟩ : ∃ z, z = (rd_T33 l0 (k : Int)).f2 := ⟨_, rfl⟩
      obtain ⟨f3, hf3⟩ : ∃ z, z = (rd_T33 l0 (k : Int)).f3 := ⟨_, rfl⟩
      rw [← hf0] at hx0
      rw [← hf1] at hx1
      rw [← hf2] at hx2
      rw [← hf3] at hx3
      have hg : (l0.getD k ⟨0, ⟨#[]⟩, 0, 0⟩).f0 = f0 := by rw [hf0, hrd]; simp [hlt]
      have hstep : Lex.cutSt l0 (k + 1) = if f0 = 5 then ((Lex.cutSt l0 k).1 ++ [(fr, k)], k + 1) else Lex.cutSt l0 k := by
        rw [Lex.cutSt, hg, hfr]
      have hJa : ∀ o, J (Lex.cutSt l0 k).1 (wr.alloc o) := fun o => hJ _ _ _ none hJs (World.grownBy_alloc wr o none) (fun r e => by cases e)
      have hKa : ∀ o, Lex.Kc n₀ Bn W (wr.alloc o) := fun o => hK.alloc (by omega) hBlt o
      have hba : ∀ o, (wr.alloc o).cell? ⟨Bn, 0, none⟩ = some (.slice (some ad) l0.length c0) := fun o => pw_cell_below (below_alloc (Below.refl _ _) o) hb1
      have hsv : Lex.subS (some ad) c0 fr k = .slice (some (ad.add (fr * 4))) (k - fr) (c0 - fr) := by
        unfold Lex.subS
        rw [if_neg (by omega)]
        rfl
      clear hf0 hf1 hf2 hf3 hrd hin hfr
      by_cases h5 : f0 = 5
      · have hb5 : (f0 == 5) = true := beq_iff_eq.2 h5
        rw [if_pos h5] at hstep
        clear h5
        obtain ⟨fn, tmps, assign, body, hy, hR⟩ := hY _ (fr, k) _ (hJa (.cells #[.int .u8 f0, .string f1, .int .i64 f2, .int .i64 f3] 33)) (by omega) (by dsimp only; omega) (by dsimp only; omega)
        dsimp only at hy
        rw [hsv] at hy
        gi_wp2
        refine hR.mono ?_
        rintro e W3 (⟨rfl, hJ3, hk3⟩ | ⟨rfl, hJx3⟩)
        · have hK3 := (hKa _).trans hk3
          gi_wp2
          go_roundw
          case rel => exact ⟨k + 1, by omega, by simp, by rw [hstep]; simp, by rw [hstep]; exact hJ3, hK3⟩
          case measure => simp [intOf]; omega
        · gi_wp2
          refine bodyPost_ret (results_none rfl _ _ _) rfl ?_
          refine ⟨⟨_, rfl⟩, .inr ⟨_, ?_, hJx3⟩⟩
          have h1 := Lex.cutSt_pre l0 (k + 1) l0.length (by omega)
          rw [hstep] at h1
          exact h1.trans (List.prefix_append _ _)
      · have hb5 : (f0 == 5) = false := beq_eq_false_iff_ne.2 h5
        rw [if_neg h5] at hstep
        clear h5
        gi_wp2
        go_roundw
        case rel => exact ⟨k + 1, by omega, by simp, by rw [hstep, HFR.out], by rw [hstep]; exact hJa _, hKa _⟩
        case measure => simp [intOf]; omega
    · have hkn : k = l0.length := by omega
      subst hkn
      have hcf := cut_from (P := Tryd.prog) 22 33 .i64 Tryd.underlying22 hi0 4 his A0 l0.length c0 (fr : Int) (by omega) (by omega)
      clear hcf
      have hall : Lex.cutAll l0 = (Lex.cutSt l0 l0.length).1 ++ [(fr, l0.length)] := by rw [hfr]; rfl
      obtain ⟨fn, tmps, assign, body, hy, hR⟩ := hY _ (fr, l0.length) _ hJs (by omega) (by dsimp only; omega) (by dsimp only; omega)
      dsimp only at hy
      rw [← hall] at hR
      clear hfr
      by_cases hc : c0 = fr
      · subst hc
        have hsv : Lex.subS A0 c0 c0 l0.length = .slice A0 0 0 := by
          unfold Lex.subS
          rw [if_pos rfl, Nat.sub_self, Nat.sub_eq_zero_of_le hc0]
        rw [hsv] at hy
        gi_wp2
        refine hR.mono ?_
        rintro e W3 (⟨rfl, hJ3, hk3⟩ | ⟨rfl, hJx3⟩)
        · gi_wp2
          go_end0
          exact ⟨⟨_, rfl⟩, .inl ⟨_, rfl, hJ3⟩⟩
        · gi_wp2
          go_end0
          exact ⟨⟨_, rfl⟩, .inr ⟨_, List.prefix_refl _, hJx3⟩⟩
      · have hsv : Lex.subS A0 c0 fr l0.length = .slice (Option.map (fun x => x.add (fr * 4)) A0) (l0.length - fr) (c0 - fr) := by
          unfold Lex.subS
          rw [if_neg hc]
        rw [hsv] at hy
        gi_wp2
        refine hR.mono ?_
        rintro e W3 (⟨rfl, hJ3, hk3⟩ | ⟨rfl, hJx3⟩)
        · gi_wp2
          go_end0
          exact ⟨⟨_, rfl⟩, .inl ⟨_, rfl, hJ3⟩⟩
        · gi_wp2
          go_end0
          exact ⟨⟨_, rfl⟩, .inr ⟨_, List.prefix_refl _, hJx3⟩⟩
set_option maxHeartbeats 1000000 in
set_option maxRecDepth 100000 in
/-- cuts: the slice value is boxed; the function value captures the box. -/
theorem cuts_in (F : Fence) (n : Nat) (h33 : F.fn 33) (hro : F.round = none) (A0 : Option Addr) (c0 m : Nat) (w : World) :
    CallsIn F n Tryd.prog 33 #[.slice A0 m c0] w fun e w' => e = .returned (.func (.func 52) #[] #[.pointer (some ⟨w.heap.size, 0, none⟩)]) ∧ w' = w.alloc (.cells #[.slice A0 m c0] 22) := by
  refine callsIn_of_wp Tryd.func33 rfl h33 ?_ hro
  simp only [Tryd.ntmps33, List.size_toArray, List.length_cons, List.length_nil, Nat.reduceAdd, Nat.reduceSub, Array.replicate_succ, Array.replicate_zero, List.push_toArray, List.append_toArray, List.nil_append, List.cons_append]
  gi_wp2
  go_ret
  exact ⟨rfl, rfl⟩
theorem cuts_stops (F : Fence) (n : Nat) (h52 : F.fn 52) (hro : F.round = none) (hn : 1 ≤ n) (Bn n₀ : Nat) (A0 : Option Addr) (c0 : Nat) (l0 : List S33) (w : World)
    (hBn : w.heap[Bn]? = some (.cells #[.slice A0 l0.length c0] 22 (0, 0))) (hn0 : n₀ ≤ w.heap.size) (hc0 : l0.length ≤ c0) (hlen : l0.length ≤ 1000000) (hC : ∀ W', Below n₀ w W' → Kd.C k33 W' A0 l0.length l0) :
    SeqStopsK F n Tryd.prog 52 #[.pointer (some ⟨Bn, 0, none⟩)] (fun x : Lex.Cut l0.length => #[Lex.subS A0 c0 x.1.1 x.1.2]) (Lex.Kc n₀ Bn) (fun ys => ys.map (·.1) = Lex.cutAll l0) (fun pre => pre.map (·.1) <+: Lex.cutAll l0) (l0.length + 1) w := by
  intro l J Jx W hW hJ _ hY h0
  have hlt := blk_lt hBn
  refine (cuts1_in F n h52 hro hn l Bn n₀ A0 c0 l0 (fun pre W => ∃ pre' : List (Lex.Cut l0.length), pre'.map (·.1) = pre ∧ J pre' W) (fun pre W => ∃ pre' : List (Lex.Cut l0.length), pre'.map (·.1) = pre ∧ Jx pre' W) ?_ W ((hW.block Bn hlt).trans hBn) (Nat.le_trans hn0 hW.size) hc0 hlen (fun W' h => hC W' ((hW.mono hn0).trans h.1)) ?_ ⟨[], rfl, h0⟩).mono ?_
  · rintro pre x W1 ⟨pre', rfl, hj⟩ hl hx1 hx2
    obtain ⟨fn, tmps, assign, body, hy, hR⟩ := hY pre' ⟨x, hx1, hx2⟩ W1 hj (by simpa using hl)
    refine ⟨fn, tmps, assign, body, hy, hR.mono ?_⟩
    rintro e W' (⟨h1, h2, h3⟩ | ⟨h1, h2⟩)
    · exact .inl ⟨h1, ⟨_, by simp, h2⟩, h3⟩
    · exact .inr ⟨h1, _, by simp, h2⟩
  · rintro s A B row ⟨pre', hp, hj⟩ hg hr
    exact ⟨pre', hp, hJ pre' A B row hj hg hr⟩
  · rintro e W' ⟨hv, ⟨ys, rfl, pre', hp, hj⟩ | ⟨pre, hpre, pre', rfl, hj⟩⟩
    · exact ⟨hv, .inl ⟨pre', hp, hj⟩⟩
    · exact ⟨hv, .inr ⟨pre', hpre, hj⟩⟩
end PLex
end Go.Proofs.YtbaojlfnbfbjmaaDoor
namespace Go.Proofs.YtbaojlfnbfbjmaaDoor.Lex
open Go Go.RowKit Go.Proofs Go.Proofs.YtbaojlfnbfbjmaaDoorW.PrintWords Go.Proofs.YtbaojlfnbfbjmaaDoorW.PrintWords.Kd
variable {P : Program} {α : Type}
theorem R_append_run (d : Kd α) {W : World} (base : Nat) (t ty e : TypeId) (z : Value) (bytes : Nat)
    (ht : P.underlying t = some (.slice e)) (hinfo : (P.info? e).map (fun i => (i.zero, i.size, i.bytes)) = some (some z, d.sz, bytes)) (hz : z.cells.size = d.sz) (hs0 : 0 < d.sz) (hb0 : 0 < bytes)
    (v : Value) (xs : List α) (p : α) (cs : List Value) (ok okp : Nat → Prop) (hp : d.M W base okp p cs) (hokp : ∀ k, okp k → ok k ∧ some k ≠ v.ownBlock) (hfresh : ∀ k, W.heap.size ≤ k → ok k)
    (HO : d.R e W base ok v xs) (hbase : base ≤ W.heap.size) (hl : (xs.length + 1) * bytes ≤ 140737488355328) :
    ∃ v1 w1, (Builtin.append_ #[t, t] ty #[v, .slice (some ⟨W.heap.size, 0, none⟩) 1 1]).run P (W.alloc (.cells cs.toArray e)) = .ok v1 w1 ∧ d.R e w1 base ok v1 (xs ++ [p]) ∧ W.grownBy w1 v.ownBlock ∧ (v1.ownBlock = v.ownBlock ∨ ∃ b, v1.ownBlock = some b ∧ W.heap.size ≤ b) := by
  obtain ⟨h0, inner, hown, hr⟩ := HO
  obtain ⟨i0, hi, hzz⟩ := Option.map_eq_some_iff.1 hinfo
  simp only [Prod.mk.injEq] at hzz
  obtain ⟨hz0, hz1, hz2⟩ := hzz
  have hlen : xs.length + 1 ≤ 140737488355328 := Nat.le_trans (Nat.le_mul_of_pos_right _ hb0) hl
  have hys : cs.length = d.sz := d.K_len (d.K_of_M hp)
  obtain ⟨v1, w1, hrun, hown1, hg, _, hat⟩ := run_append_own_at (P := P) (W.alloc (.cells cs.toArray e)) base t ty e i0 z d.sz bytes ht hi hz0 hz1 hz2 hz hs0 v xs.length inner (hown.alloc _) ⟨W.heap.size, 0, none⟩ 1 1 cs (by rw [hys]; simp)
    (by simpa using World.news_of_block (cs := cs.toArray) (t := e) (fr := (0, 0)) (heap_alloc_new W (.cells cs.toArray e))) (d.K_one (d.K_of_M hp)) (by simp only [maxLen]; omega) hl (by simp; omega)
  have hg1 : W.grownBy w1 v.ownBlock := World.grownBy.trans (World.grownBy_alloc W _ _) hg
  have hat1 : v1.ownBlock = v.ownBlock ∨ ∃ b, v1.ownBlock = some b ∧ W.heap.size ≤ b := by
    rcases hat with hat | hat
    · exact .inl hat
    · exact .inr ⟨_, hat, by simp⟩
  exact ⟨v1, w1, hrun, R_appended h0 hr hp hokp hfresh hown1 hg1 hat1, hg1, hat1⟩
theorem S_append_run (d : Kd α) {W : World} (base : Nat) (t ty e : TypeId) (z : Value) (bytes : Nat)
    (ht : P.underlying t = some (.slice e)) (hinfo : (P.info? e).map (fun i => (i.zero, i.size, i.bytes)) = some (some z, d.sz, bytes)) (hz : z.cells.size = d.sz) (hs0 : 0 < d.sz) (hb0 : 0 < bytes)
    (v : Value) (xs : List α) (p : α) (cs : List Value) (ok okp : Nat → Prop) (hp : d.M W base okp p cs) (hokp : ∀ k, okp k → ok k ∧ some k ≠ v.ownBlock) (hfresh : ∀ k, W.heap.size ≤ k → ok k)
    (HO : S d e W base (fun k => ok k ∧ ¬ okp k) v xs) (hbase : base ≤ W.heap.size) (hl : (xs.length + 1) * bytes ≤ 140737488355328) :
    ∃ v1 w1, (Builtin.append_ #[t, t] ty #[v, .slice (some ⟨W.heap.size, 0, none⟩) 1 1]).run P (W.alloc (.cells cs.toArray e)) = .ok v1 w1 ∧ S d e w1 base ok v1 (xs ++ [p]) ∧ W.grownBy w1 v.ownBlock ∧ (v1.ownBlock = v.ownBlock ∨ ∃ b, v1.ownBlock = some b ∧ W.heap.size ≤ b) := by
  obtain ⟨f, hf, hR⟩ := S_tag HO xs.length okp (fun _ hk h2 => h2.2 hk)
  obtain ⟨v1, w1, hrun, hr, h1, h2⟩ := R_append_run (P := P) (tag f d) base t ty e z bytes ht hinfo hz hs0 hb0 v xs.zipIdx (p, xs.length) cs ok okp (d.M_mono (fun k hk => ⟨hk, hf k hk⟩) hp) hokp hfresh (R_mono hR (fun _ hk => hk.1)) hbase (by rw [List.length_zipIdx]; exact hl)
  rw [← zip_snoc] at hr
  exact ⟨v1, w1, hrun, ⟨f, hr⟩, h1, h2⟩
/-- The elements of a row that lies elsewhere, appended to an own row: a copy. -/
theorem R_copy_run (d : Kd α) {W : World} (base : Nat) (t ty e : TypeId) (z : Value) (bytes : Nat)
    (ht : P.underlying t = some (.slice e)) (hinfo : (P.info? e).map (fun i => (i.zero, i.size, i.bytes)) = some (some z, d.sz, bytes)) (hz : z.cells.size = d.sz) (hs0 : 0 < d.sz) (hb0 : 0 < bytes)
    (v : Value) (hown : W.ownsRow base e d.sz v 0 []) (ad : Addr) (m c : Nat) (news : List Value) (hn : news.length = m * d.sz) (hc : ∀ j u, news[j]? = some u → W.cell? (ad.add j) = some u) (h1 : ∀ u ∈ news, u.oneCell' = true)
    (hbase : base ≤ W.heap.size) (hl : m * bytes ≤ 140737488355328) :
    ∃ v1 w1, (Builtin.append_ #[t, t] ty #[v, .slice (some ad) m c]).run P W = .ok v1 w1 ∧ w1.ownsRow base e d.sz v1 m news ∧ W.grownBy w1 v.ownBlock ∧ (v1.ownBlock = v.ownBlock ∨ v1.ownBlock = some W.heap.size) := by
  obtain ⟨i0, hi, hzz⟩ := Option.map_eq_some_iff.1 hinfo
  simp only [Prod.mk.injEq] at hzz
  obtain ⟨hz0, hz1, hz2⟩ := hzz
  have hlen : m ≤ 140737488355328 := Nat.le_trans (Nat.le_mul_of_pos_right _ hb0) hl
  obtain ⟨v1, w1, hrun, hown1, hg, _, hat⟩ := run_append_own_at (P := P) W base t ty e i0 z d.sz bytes ht hi hz0 hz1 hz2 hz hs0 v 0 [] hown ad m c news hn hc h1 (by simp only [maxLen]; omega) (by rw [Nat.zero_add]; exact hl) hbase
  rw [Nat.zero_add, List.nil_append] at hown1
  exact ⟨v1, w1, hrun, hown1, hg, hat⟩
end Go.Proofs.YtbaojlfnbfbjmaaDoor.Lex
namespace Go.Proofs.YtbaojlfnbfbjmaaDoor.Lex
open Go Go.RowKit Go.Proofs Go.Proofs.YtbaojlfnbfbjmaaDoor.PLex Go.Proofs.YtbaojlfnbfbjmaaDoorW.PrintWords Go.Proofs.YtbaojlfnbfbjmaaDoorW.PrintWords.Kd
set_option linter.unusedVariables false
set_option linter.unusedSimpArgs false
def part (l0 : List S33) (x : Nat × Nat) : List S33 := (l0.drop x.1).take (x.2 - x.1)
def tcells (t : S33) : List Value := [.int .u8 t.f0, .string t.f1, .int .i64 t.f2, .int .i64 t.f3]
theorem flat_len : ∀ l : List S33, (l.flatMap tcells).length = l.length * 4
  | [] => rfl
  | t :: r => by
    rw [List.flatMap_cons, List.length_append, flat_len r, List.length_cons]
    simp only [tcells, List.length_cons, List.length_nil]
    omega
theorem flat_get : ∀ (l : List S33) (j : Nat) (u : Value), (l.flatMap tcells)[j]? = some u → ∃ i r t, j = i * 4 + r ∧ l[i]? = some t ∧ (tcells t)[r]? = some u
  | [], j, u, h => by simp at h
  | t :: rest, j, u, h => by
    rw [List.flatMap_cons] at h
    by_cases hj : j < 4
    · refine ⟨0, j, t, by omega, rfl, ?_⟩
      rwa [List.getElem?_append_left (by simp only [tcells, List.length_cons, List.length_nil]; omega)] at h
    · rw [List.getElem?_append_right (by simp only [tcells, List.length_cons, List.length_nil]; omega)] at h
      obtain ⟨i, r, t', h1, h2, h3⟩ := flat_get rest _ u h
      simp only [tcells, List.length_cons, List.length_nil] at h1
      exact ⟨i + 1, r, t', by omega, by simpa using h2, h3⟩
theorem flat_one (l : List S33) : ∀ u ∈ l.flatMap tcells, u.oneCell' = true := by
  intro u hu
  obtain ⟨t, _, h⟩ := List.mem_flatMap.1 hu
  simp only [tcells, List.mem_cons, List.not_mem_nil, or_false] at h
  rcases h with rfl | rfl | rfl | rfl <;> rfl
theorem flat_reps (w : World) (base : Nat) (ok : Nat → Prop) : ∀ l : List S33, Reps (k33.M w base ok) 4 l (l.flatMap tcells)
  | [] => Reps.none _ _
  | t :: r => Reps.front (k33_mkM w base ok t) rfl (flat_reps w base ok r) (by rw [List.flatMap_cons]; rfl)
theorem flat_cells {W : World} {ad : Addr} {l0 : List S33} (hC : Kd.C k33 W (some ad) l0.length l0) (a b : Nat) (hb : b ≤ l0.length) :
    ∀ j u, ((part l0 (a, b)).flatMap tcells)[j]? = some u → W.cell? ((ad.add (a * 4)).add j) = some u := by
  intro j u hj
  obtain ⟨i, r, t, rfl, hi, hr⟩ := flat_get _ j u hj
  have hlt : i < (part l0 (a, b)).length := (List.getElem?_eq_some_iff.1 hi).1
  unfold part at hlt hi
  rw [List.length_take, List.length_drop] at hlt
  rw [List.getElem?_take, if_pos (by dsimp only; omega), List.getElem?_drop] at hi
  dsimp only at hi
  obtain ⟨ad', e, hc⟩ := hC.2.2 (by omega)
  cases e
  obtain ⟨c, _, hk, hcc⟩ := hc _ _ hi
  obtain rfl := k33_open hk
  rw [Addr.add_add, show a * 4 + (i * 4 + r) = (a + i) * 4 + r by omega]
  exact hcc r u hr
theorem part_len (l0 : List S33) (a b : Nat) (hb : b ≤ l0.length) : (part l0 (a, b)).length = b - a := by
  unfold part
  rw [List.length_take, List.length_drop]
  dsimp only
  omega
/-- 'append([]T{}, l[a:b]...)': a row of the call's own, in a new block. -/
theorem part_run (W : World) (n₀ : Nat) (hn : n₀ ≤ W.heap.size) (A0 : Option Addr) (c0 : Nat) (l0 : List S33) (hC : Kd.C k33 W A0 l0.length l0) (hc0 : l0.length ≤ c0) (hlen : l0.length ≤ 1000000) (a b : Nat) (hab : a ≤ b) (hb : b ≤ l0.length) :
    ∃ v1 w1, (Builtin.append_ #[22, 22] 22 #[.slice (some ⟨W.heap.size, 0, none⟩) 0 0, subS A0 c0 a b]).run Tryd.prog (W.alloc (.cells #[] 33)) = .ok v1 w1 ∧ (Kd.slice 33 k33).M w1 n₀ (fun k => W.heap.size ≤ k) (part l0 (a, b)) [v1] ∧ W.grownBy w1 none := by
  have hown : (W.alloc (.cells #[] 33)).ownsRow W.heap.size 33 4 (.slice (some ⟨W.heap.size, 0, none⟩) 0 0) 0 [] := World.ownsRow_made W #[] 0 (Nat.le_refl _) (by simp [maxLen]) rfl
  have hg0 : W.grownBy (W.alloc (.cells #[] 33)) none := World.grownBy_alloc W _ _
  have close : ∀ (v1 : Value) (w1 : World), w1.ownsRow W.heap.size 33 4 v1 (b - a) ((part l0 (a, b)).flatMap tcells) → (W.alloc (.cells #[] 33)).grownBy w1 (some W.heap.size) → (Kd.slice 33 k33).M w1 n₀ (fun k => W.heap.size ≤ k) (part l0 (a, b)) [v1] ∧ W.grownBy w1 none := by
    intro v1 w1 ho hg
    refine ⟨⟨v1, rfl, ?_⟩, ⟨hg.os.trans hg0.os, hg.tape.trans hg0.tape, hg.output.trans hg0.output, Nat.le_trans hg0.size hg.size, fun k hk hne => (hg.block k (Nat.lt_of_lt_of_le hk hg0.size) (fun e => by cases e; omega)).trans (hg0.block k hk hne)⟩⟩
    refine Kd.R_lower (base := W.heap.size) ⟨fun k hk => own_base ho k hk, _, by rw [part_len l0 a b hb]; exact ho, flat_reps _ _ _ _⟩ hn
  cases A0 with
  | none =>
    have hl : l0.length = 0 := by
      rcases Nat.eq_zero_or_pos l0.length with h | h
      · exact h
      · obtain ⟨ad, e, _⟩ := hC.2.2 h
        cases e
    have hl0 : l0 = [] := List.eq_nil_of_length_eq_zero hl
    subst hl0
    have hb0 : b = 0 := by simpa using hb
    subst hb0
    have ha0 : a = 0 := by omega
    subst ha0
    have hs : subS none c0 0 0 = .slice none 0 c0 := by
      unfold subS
      simp
    rw [hs]
    refine ⟨.slice (some ⟨W.heap.size, 0, none⟩) 0 0, W.alloc (.cells #[] 33), ?_, close _ _ hown (World.grownBy.refl _ _)⟩
    obtain ⟨i, hi, hz0, hz1, hz2⟩ := info_parts info33
    have hu : Tryd.prog.underlying 22 = some (.slice 33) := Tryd.underlying22
    simp [Builtin.append_, run_underlying hu, sizeOf, typeInfo, hi, Builtin.lenOf, Builtin.firstCells, storeCells]
  | some ad =>
    obtain ⟨ad', hs, hcells⟩ : ∃ ad', subS (some ad) c0 a b = .slice (some ad') (b - a) (c0 - a) ∧ ∀ j u, ((part l0 (a, b)).flatMap tcells)[j]? = some u → W.cell? (ad'.add j) = some u := by
      unfold subS
      by_cases hc : c0 = a
      · rw [if_pos hc]
        refine ⟨ad, rfl, fun j u hj => ?_⟩
        have h0 : (part l0 (a, b)).length = 0 := by rw [part_len l0 a b hb]; omega
        rw [List.eq_nil_of_length_eq_zero h0] at hj
        simp at hj
      · rw [if_neg hc]
        exact ⟨_, rfl, flat_cells hC a b hb⟩
    rw [hs]
    obtain ⟨v1, w1, hrun, ho, hg, hat⟩ := R_copy_run (P := Tryd.prog) k33 (W := W.alloc (.cells #[] 33)) W.heap.size 22 22 33 (.agg #[(.int .u8 0), (.string ⟨#[]⟩), (.int .i64 0), (.int .i64 0)]) 40 Tryd.underlying22 info33 rfl (by decide) (by decide)
      (.slice (some ⟨W.heap.size, 0, none⟩) 0 0) hown ad' (b - a) (c0 - a) ((part l0 (a, b)).flatMap tcells) (by rw [flat_len, part_len l0 a b hb]; rfl) (fun j u hj => pw_cell_below (below_alloc (Below.refl _ _) _) (hcells j u hj)) (flat_one _) (by simp) (by omega)
    exact ⟨v1, w1, hrun, close v1 w1 ho hg⟩
end Go.Proofs.YtbaojlfnbfbjmaaDoor.Lex
namespace Go.Proofs.YtbaojlfnbfbjmaaDoor
open Go.RowKit Go.Shelf Go.Proofs Go.Proofs.YtbaojlfnbfbjmaaDoorW.PrintWords Go.Proofs.YtbaojlfnbfbjmaaDoorW.PrintWords.Kd Go.Proofs.YtbaojlfnbfbjmaaDoorW.PrintLast Go.Proofs.YtbaojlfnbfbjmaaDoorW.PrintMore
set_option linter.unusedVariables false
set_option linter.unusedSimpArgs false
attribute [local go_sem] Oper.semAt_some
attribute [-go_sem] Builtin.append_
namespace Lex
open PLex
def parts (l0 : List S33) (pre : List (Cut l0.length)) : List (List S33) := pre.map fun x => part l0 x.1
/-- Between two rounds: the variable's box, and the rows of what has come. -/
def LinI (n₀ : Nat) (w : World) (l0 : List S33) (pre : List (Cut l0.length)) (W : World) : Prop :=
  (∃ v, Boxed W n₀ 36 v ∧ Kd.S (Kd.slice 33 k33) 22 W (n₀ + 2) (fun _ => True) v (parts l0 pre)) ∧ n₀ + 2 ≤ W.heap.size ∧ Below n₀ w W
theorem LinI_own (n₀ : Nat) (w : World) (l0 : List S33) (B : Nat) (hB : n₀ ≤ B) (hw : n₀ ≤ w.heap.size) : OwnFrom B (LinI n₀ w l0) := by
  rintro s A A' row ⟨⟨v, hv, hS⟩, hz, hb⟩ hg hr
  refine ⟨⟨v, hv.kept hg ?_, S_mono (S_grown (S_bound hS) hg ?_) (fun _ _ => trivial)⟩, Nat.le_trans hz hg.size, hb.grown hg (Nat.le_trans hw hb.size) (fun k e => Nat.le_trans hB (hr k e).1)⟩
  · intro e
    obtain ⟨_, o, ho, hc⟩ := hr _ e.symm
    have h2 : A.heap[n₀]? = _ := hv
    rw [h2] at ho
    cases ho
    cases hc
  · rintro k ⟨_, _, _, q, _, cells, hk⟩ e
    obtain ⟨_, o, ho, hc⟩ := hr _ e.symm
    rw [hk] at ho
    cases ho
    cases hc
/-- A round's body, as runs. -/
theorem lin_step (n₀ : Nat) (w : World) (l0 : List S33) (A0 : Option Addr) (c0 : Nat) (hC : ∀ W', Below n₀ w W' → Kd.C k33 W' A0 l0.length l0) (hc0 : l0.length ≤ c0) (hlen : l0.length ≤ 1000000) (pre : List (Cut l0.length)) (x : Cut l0.length) (W : World) (v : Value)
    (hv : Boxed W n₀ 36 v) (hS : Kd.S (Kd.slice 33 k33) 22 W (n₀ + 2) (fun _ => True) v (parts l0 pre)) (hz : n₀ + 2 ≤ W.heap.size) (hb : Below n₀ w W) (hl : pre.length < l0.length + 1) :
    ∃ B1 m1 q1 v1 w1 B2 m2 q2 v2 w2, v1 = .slice B1 m1 q1 ∧ v2 = .slice B2 m2 q2 ∧ (Builtin.append_ #[22, 22] 22 #[.slice (some ⟨W.heap.size, 0, none⟩) 0 0, subS A0 c0 x.1.1 x.1.2]).run Tryd.prog (W.alloc (.cells #[] 33)) = .ok v1 w1 ∧
      (Builtin.append_ #[36, 36] 36 #[v, .slice (some ⟨w1.heap.size, 0, none⟩) 1 1]).run Tryd.prog (w1.alloc (.cells #[v1] 22)) = .ok v2 w2 ∧
      (∀ o, (W.alloc o).cell? ⟨n₀, 0, none⟩ = some v) ∧ w1.cell? ⟨n₀, 0, none⟩ = some v ∧ (∀ o, (w1.alloc o).cell? ⟨n₀, 0, none⟩ = some v) ∧ w2.cell? ⟨n₀, 0, none⟩ = some v ∧ w2.frozen? ⟨n₀, 0, none⟩ = false ∧
      KeepsOthers W (w2.setCell ⟨n₀, 0, none⟩ v2) ∧ Kc n₀ (n₀ + 1) W (w2.setCell ⟨n₀, 0, none⟩ v2) ∧ LinI n₀ w l0 (pre ++ [x]) (w2.setCell ⟨n₀, 0, none⟩ v2) := by
  obtain ⟨⟨a, b⟩, hab, hbl⟩ := x
  obtain ⟨v1, w1, h1, hM, hg1⟩ := part_run W (n₀ + 2) hz A0 c0 l0 (hC W hb) hc0 hlen a b hab hbl
  obtain ⟨B1, m1, q1, hv1s⟩ : ∃ B1 m1 q1, v1 = .slice B1 m1 q1 := by
    obtain ⟨v', e, hR⟩ := hM
    cases e
    obtain ⟨_, inner, ho, _⟩ := hR
    rcases ho.2 with ⟨e, _⟩ | ⟨g, cap, cur, e, _⟩
    · exact ⟨_, _, _, e⟩
    · exact ⟨_, _, _, e⟩
  have hSb := S_bound hS
  have hown : ∀ k, v.ownBlock = some k → n₀ + 2 ≤ k ∧ k < W.heap.size := fun k hk => by
    have := (S_R hSb).1 k hk
    exact ⟨this.2.1, this.2.2.1⟩
  have hv1 : Boxed w1 n₀ 36 v := hv.kept hg1 (by simp)
  obtain ⟨v2, w2, h2, hS2, hg2, _⟩ := S_append_run (P := Tryd.prog) (Kd.slice 33 k33) (W := w1) (n₀ + 2) 36 36 22 (.slice none 0 0) 24 Tryd.underlying36 info22 rfl (by decide) (by decide) v (parts l0 pre) (part l0 (a, b)) [v1] (fun k => n₀ + 2 ≤ k) (fun k => W.heap.size ≤ k) hM
    (fun k hk => ⟨by omega, fun e => by have := hown k e.symm; omega⟩) (fun k hk => by have := hg1.size; omega) (S_mono (S_grown hSb hg1 (fun k hk => by simp)) (fun k hk => ⟨hk.2.1, by have := hk.2.2.1; omega⟩)) (by have := hg1.size; omega) (by unfold parts; rw [List.length_map]; omega)
  obtain ⟨B2, m2, q2, hv2s⟩ : ∃ B2 m2 q2, v2 = .slice B2 m2 q2 := by
    obtain ⟨_, inner, ho, _⟩ := S_R hS2
    rcases ho.2 with ⟨e, _⟩ | ⟨g, cap, cur, e, _⟩
    · exact ⟨_, _, _, e⟩
    · exact ⟨_, _, _, e⟩
  have hg3 : w1.grownBy w2 v.ownBlock := hg2
  have hne : some n₀ ≠ v.ownBlock := fun e => by have := hown n₀ e.symm; omega
  have hv2 : Boxed w2 n₀ 36 v := hv1.kept hg3 hne
  have hg13 : W.grownBy w2 v.ownBlock := by
    refine ⟨hg3.os.trans hg1.os, hg3.tape.trans hg1.tape, hg3.output.trans hg1.output, Nat.le_trans hg1.size hg3.size, fun k hk hne => (hg3.block k (Nat.lt_of_lt_of_le hk hg1.size) hne).trans (hg1.block k hk (by simp))⟩
  have hBl : Below n₀ W w2 := (Below.refl n₀ W).grown hg13 (by omega) (fun k hk => by have := hown k hk; omega)
  have hBs : Below n₀ W (w2.setCell ⟨n₀, 0, none⟩ v2) := hBl.grown (grownBy_setCell' w2 n₀ v2) (Nat.le_trans (by omega) hg13.size) (fun k hk => by cases hk; exact Nat.le_refl _)
  refine ⟨B1, m1, q1, v1, w1, B2, m2, q2, v2, w2, hv1s, hv2s, h1, h2, fun o => (hv.alloc o).cell, hv1.cell, fun o => (hv1.alloc o).cell, hv2.cell, hv2.frozen, ?_, ⟨hBs, ?_⟩, ⟨⟨v2, hv2.set v2, ?_⟩, ?_, hb.trans hBs⟩⟩
  · refine (KeepsOthers.of_grownBy hg13 fun j o ej hj => ?_).trans (KeepsOthers.setCell _ _ _)
    obtain ⟨cells, hc⟩ := S_typed hS j ej
    rw [hj] at hc
    cases hc
    rfl
  · rw [Below.heap_setCell w2 ⟨n₀, 0, none⟩ v2 (n₀ + 1) (by simp)]
    exact hg13.block (n₀ + 1) (by omega) (fun e => by have := hown _ e.symm; omega)
  · have : parts l0 (pre ++ [⟨(a, b), hab, hbl⟩]) = parts l0 pre ++ [part l0 (a, b)] := by unfold parts; rw [List.map_append]; rfl
    rw [this]
    exact S_mono (S_far (p := ⟨n₀, 0, none⟩) hS2 (fun k hk e => by dsimp only at e; omega) v2) (fun _ _ => trivial)
  · have := (grownBy_setCell' w2 n₀ v2).size
    have := hg13.size
    omega
end Lex
namespace PLex
set_option maxHeartbeats 4000000 in
set_option maxRecDepth 100000 in
theorem lines_in (F : Fence) (n : Nat) (h18 : F.fn 18) (h33 : F.fn 33) (h52 : F.fn 52) (hro : F.round = none) (hn : 3 ≤ n) (A0 : Option Addr) (c0 : Nat) (l0 : List S33) (w : World)
    (hr0 : Kd.C k33 w A0 l0.length l0) (hc0 : l0.length ≤ c0) (hlen : l0.length ≤ 1000000) :
    CallsIn F n Tryd.prog 18 #[.slice A0 l0.length c0] w fun e W' => ∃ v, e = .returned v ∧ Kd.S (Kd.slice 33 k33) 22 W' w.heap.size (fun _ => True) v ((Lex.cutAll l0).map (Lex.part l0)) ∧ Below w.heap.size w W' := by
  have h1 : 1 ≤ n := by omega
  refine callsIn_of_wp_marks Tryd.func18 rfl h18 ?_ hro
  simp only [Tryd.ntmps18, List.size_toArray, List.length_cons, List.length_nil, Nat.reduceAdd, Nat.reduceSub, Array.replicate_succ, Array.replicate_zero, List.push_toArray, List.append_toArray, List.nil_append, List.cons_append]
  gi_wp2_with (gi_at_call 33; refine (cuts_in F (n - 1) h33 hro _ _ _ _).mono ?_; rintro e w' ⟨rfl, rfl⟩)
  have bO := Boxed.new w 36 (.slice none 0 0)
  have bN := Boxed.new (w.alloc (.cells #[.slice none 0 0] 36)) 22 (.slice A0 l0.length c0)
  rw [World.size_alloc] at bN
  have hB0 : Below w.heap.size w ((w.alloc (.cells #[.slice none 0 0] 36)).alloc (.cells #[.slice A0 l0.length c0] 22)) := ((Below.refl _ w).alloc (Nat.le_refl _) _).alloc (by simp) _
  have hC : ∀ W', Below w.heap.size w W' → Kd.C k33 W' A0 l0.length l0 := fun W' h => Kd.C_below hr0 h
  have hC2 : ∀ W', Below w.heap.size ((w.alloc (.cells #[.slice none 0 0] 36)).alloc (.cells #[.slice A0 l0.length c0] 22)) W' → Kd.C k33 W' A0 l0.length l0 := fun W' h => hC W' (hB0.trans h)
  refine wpIn_rangeFunc_ownF hro h1 (gf := 52) (lb := #[.pointer (some ⟨w.heap.size + 1, 0, none⟩)]) rfl h52 (enters_of Tryd.func52 (by kernel_rfl) rfl)
    (cuts_stops F (n - 1) h52 hro (by omega) (w.heap.size + 1) w.heap.size A0 c0 l0 _ bN (by simp; omega) hc0 hlen hC2) (fun h k => Lex.Kc.trans h k) ?hKb (Below.refl _ _) (fun _ => rfl)
    (Lex.LinI w.heap.size w l0)
    (fun _ _ _ => False)
    (Lex.LinI_own _ _ _ _ (by simp; omega) (Nat.le_refl _))
    (fun _ _ _ _ _ hs _ _ => hs)
    ⟨⟨_, bO.alloc _, S_nil _ _ _ _ _⟩, by simp, hB0⟩
    (fun x => { tmps := #[.slice A0 l0.length c0, undef, .slice none 0 0, .pointer (some ⟨w.heap.size, 0, none⟩), Lex.subS A0 c0 x.1.1 x.1.2, .slice A0 l0.length c0, .func (.func 52) #[] #[.pointer (some ⟨w.heap.size + 1, 0, none⟩)], Lex.subS A0 c0 x.1.1 x.1.2, undef, undef, undef, undef, undef, undef, undef], defers := [] }) ?assign ?body ?done ?stop
  case hKb =>
    intro W l o o' hl ho hc hwk
    have hb : Below w.heap.size W (W.putObj l o') := belowK_b (w := w) (Nat.le_refl _) W l o o' (by simp at hl; omega) ho hc hwk
    refine ⟨hb, ?_⟩
    exact (grownBy_putObj' W l o').block (w.heap.size + 1) (by have := (Array.getElem?_eq_some_iff.1 ho).1; simp at hl; omega) (fun e => by have e2 := Option.some.inj e; simp at hl; omega)
  case assign =>
    intro l x W K hK
    gi_wp2
    exact hK
  case body =>
    rintro l pre x W ⟨⟨v, hv, hS⟩, hz, hB⟩ hlt
    obtain ⟨B1, m1, q1, v1, w1, B2, m2, q2, v2, w2, rfl, rfl, r1, r2, c1, c2, c3, c4, c5, k1, k2, k3⟩ := Lex.lin_step w.heap.size w l0 A0 c0 hC hc0 hlen pre x W.drew v hv (S_drew hS) hz (below_drew hB) hlt
    have c0' : W.drew.cell? ⟨w.heap.size, 0, none⟩ = some v := hv.cell
    have k1 := (KeepsOthers.drew W).trans k1
    have k2 : Lex.Kc w.heap.size (w.heap.size + 1) W (w2.setCell ⟨w.heap.size, 0, none⟩ (.slice B2 m2 q2)) := ⟨(below_drew (Below.refl _ W)).trans k2.1, k2.2⟩
    have r1 : (Builtin.append_ #[22, 22] 22 #[.slice (some ⟨W.heap.size, 0, none⟩) 0 0, Lex.subS A0 c0 x.1.1 x.1.2]).run Tryd.prog (W.alloc (.cells #[] 33)).drew = .ok (.slice B1 m1 q1) w1 := r1
    have c1a : (W.alloc (.cells #[] 33)).cell? ⟨w.heap.size, 0, none⟩ = some v := c1 _
    have c1b : (W.alloc (.cells #[] 33)).drew.cell? ⟨w.heap.size, 0, none⟩ = some v := c1 _
    have c1c : W.cell? ⟨w.heap.size, 0, none⟩ = some v := c0'
    have c3a := c3 (.cells #[.slice B1 m1 q1] 22)
    have hne : w.heap.size ≠ W.heap.size := by omega
    have hmix : Tryd.prog.follows .mixedOrders = true := by kernel_rfl
    gi_wp2
    gi_region_with_o (fail)
    all_goals exact ⟨k1, k2, k3⟩
  case done =>
    rintro D ys W hD hys ⟨⟨v, hv, hS⟩, hz, hB⟩ hK
    have hc := hv.cell
    gi_wp2
    refine ⟨by simp, .inl ⟨_, _, rfl, run_takeDeferred hK, ?_⟩⟩
    have hp : Lex.parts l0 ys = (Lex.cutAll l0).map (Lex.part l0) := by rw [← hys, List.map_map]; rfl
    rw [← hp]
    refine ⟨_, results_tmp rfl _ _ _, v, rfl, ?_, hB.trans (belowK_b (w := w) (Nat.le_refl _) W D _ _ (by simp at hD; omega) hK rfl rfl)⟩
    exact S_mono (S_grown (S_bound (S_lower hS (by omega))) (grownBy_putObj' W D _) (by
      rintro k ⟨_, _, _, q, _, cells, hk⟩ e
      cases e
      rw [hK] at hk
      cases hk)) (fun _ _ => trivial)
  case stop =>
    rintro D c pre W _ _ h _
    exact h.elim
def lexer_Lines.f (l0 : List S33) : Option (List (List S33)) := if l0.length ≤ 1000000 then some ((Lex.cutAll l0).map (Lex.part l0)) else none
/-- Lines. -/
theorem lexer_Lines.calls (A0 : Option Addr) (c0 : Nat) (l0 : List S33) (r : List (List S33)) (w : World) (hr0 : Kd.C k33 w A0 l0.length l0) (hc0 : l0.length ≤ c0) (h : lexer_Lines.f l0 = some r) :
    Calls Tryd.prog 18 #[.slice A0 l0.length c0] w fun e w' => ∃ v, e = .returned v ∧ Kd.S (Kd.slice 33 k33) 22 w' w.heap.size (fun _ => True) v r ∧ Below w.heap.size w w' := by
  unfold lexer_Lines.f at h
  split at h
  · rename_i hlen
    have h := Option.some.inj h
    subst h
    exact callsIn_wide.1 (lines_in Fence.wide 3 trivial trivial trivial rfl (by omega) A0 c0 l0 w hr0 hc0 hlen)
  · cases h
end PLex
end Go.Proofs.YtbaojlfnbfbjmaaDoor
