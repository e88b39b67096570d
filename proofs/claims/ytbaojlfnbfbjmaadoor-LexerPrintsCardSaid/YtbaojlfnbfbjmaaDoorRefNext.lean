/- The reference's next, walked: what it answers at each class of bytes. -/
import Derived.Test.YtbaojlfnbfbjmaaDoorLexRef
import Derived.Tactics
import Derived.Tactics2
import Derived.WalkKit
import Derived.WalkSpells
import Derived.Deep.LoopGhost
import Derived.Deep.QuietTactic
import Derived.BigQuiet
import Derived.Deep.RegionHeld3
import Derived.Deep.DeepCutAuto
import Derived.Deep.Draws
import Derived.Below
import Derived.Outline
import Derived.Lib.Hide
namespace Go.Proofs.YtbaojlfnbfbjmaaDoor
open Go.RowKit Go.Proofs.YtbaojlfnbfbjmaaDoorW.PrintWords Go.Proofs.YtbaojlfnbfbjmaaDoorW.PrintLast Go.Proofs.YtbaojlfnbfbjmaaDoorW.PrintMore
set_option linter.unusedVariables false
set_option linter.unusedSimpArgs false
namespace PLex
/-- next's answer as a value. -/
def V6 (r : Pure.R6) : Value := .tuple #[.agg #[.int .u8 r.1, .string r.2.1, .int .i64 r.2.2.1, .int .i64 r.2.2.2.1], .int .i64 r.2.2.2.2.1, .bool r.2.2.2.2.2]
/-- Blocks of a world that has two more. -/
theorem two_new (w : World) (o1 o2 : Obj) : ((w.alloc o1).alloc o2).heap[w.heap.size]? = some o1 := by
  show ((w.heap.push o1).push o2)[w.heap.size]? = some o1
  rw [Array.getElem?_push, if_neg (by simp), Array.getElem?_push, if_pos rfl]
theorem two_newN (w : World) (o1 o2 : Obj) (n : Nat) : (((w.alloc o1).alloc o2).drewN n).heap[w.heap.size]? = some o1 := two_new w o1 o2
theorem two_sndN (w : World) (o1 o2 : Obj) (n : Nat) : (((w.alloc o1).alloc o2).drewN n).heap[w.heap.size + 1]? = some o2 := by
  show ((w.heap.push o1).push o2)[w.heap.size + 1]? = some o2
  rw [Array.getElem?_push, if_pos (by simp)]
theorem two_below (w : World) (o1 o2 : Obj) : Below w.heap.size w ((w.alloc o1).alloc o2) := below_alloc (below_alloc (Below.refl _ _) _) _
theorem two_belowN (w : World) (o1 o2 : Obj) (n : Nat) : Below w.heap.size w (((w.alloc o1).alloc o2).drewN n) := by
  have h := two_below w o1 o2
  exact ⟨h.os, h.tape, h.output, h.size, h.block⟩
theorem put4 {W : World} {g : Nat} {a b c d : Value} (h : W.heap[g]? = some (.cells #[a, b, c, d] 33 (0, 0))) (x y z u : Value) : ((((W.setCell ⟨g, 0, none⟩ x).setCell ⟨g, 1, none⟩ y).setCell ⟨g, 2, none⟩ z).setCell ⟨g, 3, none⟩ u).heap[g]? = some (.cells #[x, y, z, u] 33 (0, 0)) :=
  blk_put (blk_put (blk_put (blk_put h 0 _ rfl) 1 _ rfl) 2 _ rfl) 3 _ rfl
theorem bel_put4 {w W : World} {g : Nat} (h : Below w.heap.size w W) (hg : w.heap.size ≤ g) (x y z u : Value) : Below w.heap.size w ((((W.setCell ⟨g, 0, none⟩ x).setCell ⟨g, 1, none⟩ y).setCell ⟨g, 2, none⟩ z).setCell ⟨g, 3, none⟩ u) :=
  below_set (below_set (below_set (below_set h hg) hg) hg) hg
set_option maxHeartbeats 4000000 in
set_option maxRecDepth 100000 in
theorem next9 (s : ByteArray) (p : Nat) (hs : s.size ≤ 70000) (hp : p < s.size) (hc : Lx.cls s[p] = 9) (w : World) :
    Calls Tryd.prog 32 #[.string s, .int .i64 p] w fun e w' => e = .returned (V6 (5, Lex.BA [s[p]], 0, p, ((p + 1 : Nat) : Int), true)) ∧ Below w.heap.size w w' := by
  have h10 : s[p] = 10 := (Pure.cls_facts s[p]).1 hc
  have hb10 : (((s[p].toNat : Nat) : Int) == 10) = true := beq_iff_eq.2 ((Pure.bI _ 10 10 rfl).2 h10)
  have hone : s.extract p (p + 1) = Lex.BA [s[p]] := by
    rw [Pure.extract_take, Lex.dropL s p hp]
    rfl
  have hp0 : (0 : Int) ≤ (p : Int) := by omega
  have hpI : (p : Int) < (s.size : Int) := by omega
  have hp1 : wrap64 ((p : Int) + 1) = ((p + 1 : Nat) : Int) := Pure.w64n p (by omega)
  clear hc h10
  go_enter Tryd.func32, Tryd.ntmps32
  go_wp2
  refine bodyPost_ret (results_ctt rfl _ _ w.heap.size 33 #[.int .u8 5, .string (Lex.BA [s[p]]), .int .i64 0, .int .i64 p] (0, 0) _ rfl (two_new _ _ _) Tryd.underlying33 rfl (by kernel_rfl)) rfl ?_
  exact ⟨rfl, two_below _ _ _⟩
set_option maxHeartbeats 4000000 in
set_option maxRecDepth 100000 in
theorem next8 (s : ByteArray) (p : Nat) (hs : s.size ≤ 70000) (hp : p < s.size) (hc : Lx.cls s[p] = 8) (w : World) :
    Calls Tryd.prog 32 #[.string s, .int .i64 p] w fun e w' => e = .returned (V6 (4, Lex.BA [s[p]], 0, p, ((p + 1 : Nat) : Int), true)) ∧ Below w.heap.size w w' := by
  obtain ⟨h10, hM⟩ := (Pure.cls_facts s[p]).2.1 hc
  have hb10 : (((s[p].toNat : Nat) : Int) == 10) = false := beq_eq_false_iff_ne.2 (fun e => h10 ((Pure.bI _ 10 10 rfl).1 e))
  have hmark := Pure.mark_ref s[p] 15 (by omega)
  rw [hM] at hmark
  have hone : s.extract p (p + 1) = Lex.BA [s[p]] := by
    rw [Pure.extract_take, Lex.dropL s p hp]
    rfl
  have hp0 : (0 : Int) ≤ (p : Int) := by omega
  have hpI : (p : Int) < (s.size : Int) := by omega
  have hp1 : wrap64 ((p : Int) + 1) = ((p + 1 : Nat) : Int) := Pure.w64n p (by omega)
  clear hc h10 hM
  have HM := Aside0.mk hmark
  clear hmark
  go_enter Tryd.func32, Tryd.ntmps32
  go_wp2_with (first
    | (go_at_call 46; refine (retargetref07_mark.calls 15 _ _ _ HM.out).mono ?_; rintro e w1 ⟨rfl, ⟨nd, rfl⟩⟩))
  refine bodyPost_ret (results_ctt rfl _ _ w.heap.size 33 #[.int .u8 4, .string (Lex.BA [s[p]]), .int .i64 0, .int .i64 p] (0, 0) _ rfl (put4 (blk_far (blk_far (two_newN _ _ _ _) (by simp) _) (by simp) _) _ _ _ _) Tryd.underlying33 rfl (by kernel_rfl)) rfl ?_
  exact ⟨rfl, bel_put4 (below_set (below_set (two_belowN _ _ _ _) (by simp)) (by simp)) (Nat.le_refl _) _ _ _ _⟩
set_option maxHeartbeats 4000000 in
set_option maxRecDepth 100000 in
theorem nextBad (s : ByteArray) (p : Nat) (hs : s.size ≤ 70000) (hp : p < s.size) (hc : Lx.cls s[p] = 0 ∨ Lx.cls s[p] = 1 ∨ Lx.cls s[p] = 2 ∨ Lx.cls s[p] = 5) (w : World) :
    Calls Tryd.prog 32 #[.string s, .int .i64 p] w fun e w' => e = .returned (V6 Pure.bad6) ∧ Below w.heap.size w w' := by
  obtain ⟨h10, hM, h34, hL, hD, h45⟩ := (Pure.cls_facts s[p]).2.2.2.2.2.2 hc
  have hb10 : (((s[p].toNat : Nat) : Int) == 10) = false := beq_eq_false_iff_ne.2 (fun e => h10 ((Pure.bI _ 10 10 rfl).1 e))
  have hb34 : (((s[p].toNat : Nat) : Int) == 34) = false := beq_eq_false_iff_ne.2 (fun e => h34 ((Pure.bI _ 34 34 rfl).1 e))
  have hb45 : (((s[p].toNat : Nat) : Int) == 45) = false := beq_eq_false_iff_ne.2 (fun e => h45 ((Pure.bI _ 45 45 rfl).1 e))
  have hmark := Pure.mark_ref s[p] 15 (by omega)
  have hlet := Pure.letter_ref s[p]
  have hdig := Pure.digit_ref s[p]
  rw [hM] at hmark
  rw [hL] at hlet
  rw [hD] at hdig
  have hp0 : (0 : Int) ≤ (p : Int) := by omega
  have hpI : (p : Int) < (s.size : Int) := by omega
  have hp1 : wrap64 ((p : Int) + 1) = ((p + 1 : Nat) : Int) := Pure.w64n p (by omega)
  clear hc h10 hM h34 hL hD h45
  have HM := Aside0.mk hmark
  have HL := Aside0.mk hlet
  have HD := Aside0.mk hdig
  clear hmark hlet hdig
  go_enter Tryd.func32, Tryd.ntmps32
  go_wp2_with (first
    | (go_at_call 46; refine (retargetref07_mark.calls 15 _ _ _ HM.out).mono ?_; rintro e w1 ⟨rfl, ⟨nd, rfl⟩⟩)
    | (go_at_call 47; refine (retargetref07_letter.calls _ _ _ HL.out).mono ?_; rintro e w1 ⟨rfl, ⟨nd2, rfl⟩⟩)
    | (go_at_call 48; refine (retargetref07_digit.calls _ _ _ HD.out).mono ?_; rintro e w1 ⟨rfl, ⟨nd3, rfl⟩⟩))
  refine bodyPost_ret (results_ctt rfl _ _ w.heap.size 33 #[.int .u8 0, .string ⟨#[]⟩, .int .i64 0, .int .i64 0] (0, 0) _ rfl (put4 (two_newN _ _ _ _) _ _ _ _) Tryd.underlying33 rfl (by kernel_rfl)) rfl ?_
  exact ⟨rfl, bel_put4 (two_belowN _ _ _ _) (Nat.le_refl _) _ _ _ _⟩
/-- What stands at a loop's head of next: the two blocks, and all else as it was. -/
structure NSt (w wr : World) (kd : Nat) (p : Nat) : Prop where
  g4 : wr.heap[w.heap.size]? = some (.cells #[.int .u8 0, .string ⟨#[]⟩, .int .i64 0, .int .i64 0] 33 (0, 0))
  g7 : wr.heap[w.heap.size + 1]? = some (.cells #[.int .u8 kd, .string ⟨#[]⟩, .int .i64 0, .int .i64 p] 33 (0, 0))
  bel : Below w.heap.size w wr
theorem NSt.drewN {w wr : World} {kd p : Nat} (h : NSt w wr kd p) (n : Nat) : NSt w (wr.drewN n) kd p := ⟨h.g4, h.g7, ⟨h.bel.os, h.bel.tape, h.bel.output, h.bel.size, h.bel.block⟩⟩
set_option maxHeartbeats 4000000 in
set_option maxRecDepth 100000 in
theorem next7 (s : ByteArray) (p : Nat) (hs : s.size ≤ 70000) (hp : p < s.size) (hc : Lx.cls s[p] = 7) (w : World) :
    Calls Tryd.prog 32 #[.string s, .int .i64 p] w fun e w' => e = .returned (V6 (if (((Lex.L s).drop (p + 1)).dropWhile Lx.isQ).head? = some 34 then (3, Lex.BA (((Lex.L s).drop (p + 1)).takeWhile Lx.isQ), 0, p, ((p + 1 + (((Lex.L s).drop (p + 1)).takeWhile Lx.isQ).length + 1 : Nat) : Int), true) else Pure.bad6)) ∧ Below w.heap.size w w' := by
  have h34 : s[p] = 34 := (Pure.cls_facts s[p]).2.2.1 hc
  have hb10 : (((s[p].toNat : Nat) : Int) == 10) = false := by rw [h34]; rfl
  have hb34 : (((s[p].toNat : Nat) : Int) == 34) = true := by rw [h34]; rfl
  have hmark := Pure.mark_ref s[p] 15 (by omega)
  rw [show Lx.isM s[p] = false by rw [h34]; rfl] at hmark
  have hp0 : (0 : Int) ≤ (p : Int) := by omega
  have hpI : (p : Int) < (s.size : Int) := by omega
  have hp1 : wrap64 ((p : Int) + 1) = ((p + 1 : Nat) : Int) := Pure.w64n p (by omega)
  clear hc h34
  have HM := Aside0.mk hmark
  clear hmark
  obtain ⟨D, hD⟩ : ∃ D, D = (Lex.L s).drop (p + 1) := ⟨_, rfl⟩
  rw [← hD]
  have HD := Aside0.mk hD
  clear hD
  obtain ⟨R, hR⟩ : ∃ R : Pure.R6, R = if (D.dropWhile Lx.isQ).head? = some 34 then (3, Lex.BA (D.takeWhile Lx.isQ), 0, (p : Int), ((p + 1 + (D.takeWhile Lx.isQ).length + 1 : Nat) : Int), true) else Pure.bad6 := ⟨_, rfl⟩
  rw [← hR]
  have HR := Aside0.mk hR
  clear hR
  go_enter Tryd.func32, Tryd.ntmps32
  go_wp2_with (first
    | (go_at_call 46; refine (retargetref07_mark.calls 15 _ _ _ HM.out).mono ?_; rintro e w1 ⟨rfl, ⟨nd, rfl⟩⟩))
  go_loopg [9] (s.size - (p + 1)) (fun k v9 wr => ∃ i : Nat, v9 = .int .i64 (i : Int) ∧ Aside0 (p + 1 ≤ i ∧ i ≤ s.size ∧ k = s.size - i) ∧ Aside0 (D.dropWhile Lx.isQ = ((Lex.L s).drop i).dropWhile Lx.isQ) ∧ Aside0 ((D.takeWhile Lx.isQ).length = (i - (p + 1)) + (((Lex.L s).drop i).takeWhile Lx.isQ).length) ∧ Aside0 (NSt w wr 3 p))
  case atStart =>
    refine ⟨p + 1, by go_num, ⟨by omega, by omega, rfl⟩, ⟨by rw [HD.out]⟩, ⟨by rw [HD.out]; omega⟩, ⟨blk_far (two_newN _ _ _ _) (by simp) _, blk_put (two_sndN _ _ _ _) 0 _ rfl, below_set (two_belowN _ _ _ _) (by simp)⟩⟩
  case round =>
    obtain ⟨i, rfl, HI, HDW, HTW, HN⟩ := hrel
    have c0 := (blk_cell HN.out.g7 0).trans rfl
    have c1 := (blk_cell HN.out.g7 1).trans rfl
    have c2 := (blk_cell HN.out.g7 2).trans rfl
    have c3 := (blk_cell HN.out.g7 3).trans rfl
    have f0 := blk_frozen HN.out.g7 0
    have f1 := blk_frozen HN.out.g7 1
    have f2 := blk_frozen HN.out.g7 2
    have f3 := blk_frozen HN.out.g7 3
    have d0 := (blk_cell HN.out.g4 0).trans rfl
    have d1 := (blk_cell HN.out.g4 1).trans rfl
    have d2 := (blk_cell HN.out.g4 2).trans rfl
    have d3 := (blk_cell HN.out.g4 3).trans rfl
    have k0 := blk_frozen HN.out.g4 0
    have k1 := blk_frozen HN.out.g4 1
    have k2 := blk_frozen HN.out.g4 2
    have k3 := blk_frozen HN.out.g4 3
    have hi0 : (0 : Int) ≤ (i : Int) := by omega
    have hip : ((p : Int) + 1) ≤ (i : Int) := by have := HI.out; omega
    have his : (i : Int) ≤ (s.size : Int) := by have := HI.out; omega
    have hi1 : wrap64 ((i : Int) + 1) = ((i + 1 : Nat) : Int) := Pure.w64n i (by have := HI.out; omega)
    by_cases hlt : i < s.size
    · have hltI : (i : Int) < (s.size : Int) := by omega
      have hne : ((i : Int) == (s.size : Int)) = false := beq_eq_false_iff_ne.2 (by omega)
      have HDI := Aside0.mk (Lex.dropL s i hlt)
      by_cases hc34 : s[i] = 34
      · have hq : Lx.isQ s[i] = false := by rw [hc34]; rfl
        have b34 : (((s[i].toNat : Nat) : Int) != 34) = false := bne_eq_false_iff_eq.2 ((Pure.bI _ 34 34 rfl).2 hc34)
        have HT := HTW.out
        rw [HDI.out, List.takeWhile_cons_of_neg (by simp [hq]), List.length_nil, Nat.add_zero] at HT
        have HW := HDW.out
        rw [HDI.out, List.dropWhile_cons_of_neg (by simp [hq]), hc34] at HW
        have hx : s.extract (p + 1) i = Lex.BA (D.takeWhile Lx.isQ) := by
          have h1 := HI.out
          rw [show i = p + 1 + (i - (p + 1)) by omega, ← HT, Pure.extract_take, ← HD.out, Pure.tw_take]
        have HH : Aside0 ((D.dropWhile Lx.isQ).head? = some 34) := ⟨by rw [HW]; rfl⟩
        have HT' := Aside0.mk HT
        clear HT HW hq hc34
        go_wp2
        refine bodyPost_ret (results_ctt rfl _ _ w.heap.size 33 #[.int .u8 3, .string (Lex.BA (D.takeWhile Lx.isQ)), .int .i64 0, .int .i64 p] (0, 0) _ rfl (put4 (blk_far HN.out.g4 (by simp) _) _ _ _ _) Tryd.underlying33 rfl (by kernel_rfl)) rfl ?_
        refine ⟨?_, bel_put4 (below_set HN.out.bel (by simp)) (Nat.le_refl _) _ _ _ _⟩
        have er := HR.out.trans (if_pos HH.out)
        subst er
        have e : i = p + 1 + (D.takeWhile Lx.isQ).length := by have := HI.out; have := HT'.out; omega
        simp [V6]
        omega
      · have b34 : (((s[i].toNat : Nat) : Int) != 34) = true := bne_iff_ne.2 (fun e => hc34 ((Pure.bI _ 34 34 rfl).1 e))
        have hQ : Lx.isQ s[i] = true ↔ (32 ≤ ((s[i].toNat : Nat) : Int)) ∧ ((s[i].toNat : Nat) : Int) ≤ 126 := by
          simp only [Lx.isQ, Bool.and_eq_true, decide_eq_true_eq, bne_iff_ne, UInt8.le_iff_toNat_le, show (32 : UInt8).toNat = 32 from rfl, show (126 : UInt8).toNat = 126 from rfl]
          constructor
          · rintro ⟨⟨_, h1⟩, h2⟩
            omega
          · rintro ⟨h1, h2⟩
            exact ⟨⟨hc34, by omega⟩, by omega⟩
        by_cases hq : Lx.isQ s[i] = true
        · have g32 := (hQ.1 hq).1
          have g126 := (hQ.1 hq).2
          have HQ := Aside0.mk hq
          clear hQ hq hc34
          go_wp2
          go_roundg (s.size - (i + 1))
          case measure => have := HI.out; omega
          case rel =>
            have h1 := HI.out
            refine ⟨i + 1, by go_num, ⟨by omega, by omega, rfl⟩, ⟨?_⟩, ⟨?_⟩, HN⟩
            · rw [HDW.out, HDI.out, List.dropWhile_cons_of_pos HQ.out]
            · rw [HTW.out, HDI.out, List.takeWhile_cons_of_pos HQ.out, List.length_cons]
              omega
        · have HW := HDW.out
          rw [HDI.out, List.dropWhile_cons_of_neg hq] at HW
          have HH : Aside0 (¬ (D.dropWhile Lx.isQ).head? = some 34) := ⟨by rw [HW]; exact fun e => hc34 (Option.some.inj e)⟩
          have hbad : ¬ (32 ≤ ((s[i].toNat : Nat) : Int)) ∨ (32 ≤ ((s[i].toNat : Nat) : Int) ∧ ¬ ((s[i].toNat : Nat) : Int) ≤ 126) := by
            by_cases h1 : 32 ≤ ((s[i].toNat : Nat) : Int)
            · exact .inr ⟨h1, fun h2 => hq (hQ.2 ⟨h1, h2⟩)⟩
            · exact .inl h1
          clear HW hQ hq hc34
          rcases hbad with g32 | ⟨g32, g126⟩
          all_goals
            go_wp2
            refine bodyPost_ret (results_ctt rfl _ _ w.heap.size 33 #[.int .u8 0, .string ⟨#[]⟩, .int .i64 0, .int .i64 0] (0, 0) _ rfl (put4 HN.out.g4 _ _ _ _) Tryd.underlying33 rfl (by kernel_rfl)) rfl ?_
            have er := HR.out.trans (if_neg HH.out)
            subst er
            exact ⟨rfl, bel_put4 HN.out.bel (Nat.le_refl _) _ _ _ _⟩
    · have hge : ¬ (i : Int) < (s.size : Int) := by omega
      have heq : ((i : Int) == (s.size : Int)) = true := beq_iff_eq.2 (by have := HI.out; omega)
      have HH : Aside0 (¬ (D.dropWhile Lx.isQ).head? = some 34) := ⟨by rw [HDW.out, Lex.drop_end s i (by omega)]; simp⟩
      go_wp2
      refine bodyPost_ret (results_ctt rfl _ _ w.heap.size 33 #[.int .u8 0, .string ⟨#[]⟩, .int .i64 0, .int .i64 0] (0, 0) _ rfl (put4 HN.out.g4 _ _ _ _) Tryd.underlying33 rfl (by kernel_rfl)) rfl ?_
      have er := HR.out.trans (if_neg HH.out)
      subst er
      exact ⟨rfl, bel_put4 HN.out.bel (Nat.le_refl _) _ _ _ _⟩
set_option maxHeartbeats 8000000 in
set_option maxRecDepth 100000 in
theorem nextName (s : ByteArray) (p : Nat) (hs : s.size ≤ 70000) (hp : p < s.size) (hc : Lx.cls s[p] = 3) (w : World) :
    Calls Tryd.prog 32 #[.string s, .int .i64 p] w fun e w' => e = .returned (V6 (if (s[p] :: ((Lex.L s).drop (p + 1)).takeWhile Lx.isW).length ≤ 24 then (1, Lex.BA (s[p] :: ((Lex.L s).drop (p + 1)).takeWhile Lx.isW), 0, (p : Int), ((p + 1 + (((Lex.L s).drop (p + 1)).takeWhile Lx.isW).length : Nat) : Int), true) else Pure.bad6)) ∧ Below w.heap.size w w' := by
  obtain ⟨T, hT⟩ : ∃ T, T = ((Lex.L s).drop (p + 1)).takeWhile Lx.isW := ⟨_, rfl⟩
  obtain ⟨X, hX⟩ : ∃ X, X = Lex.BA (s[p] :: T) := ⟨_, rfl⟩
  obtain ⟨R, hR⟩ : ∃ R : Pure.R6, R = if (s[p] :: T).length ≤ 24 then (1, X, 0, (p : Int), ((p + 1 + T.length : Nat) : Int), true) else Pure.bad6 := ⟨_, rfl⟩
  rw [← hT, ← hX, ← hR]
  obtain ⟨h10, hM, h34, hL⟩ := (Pure.cls_facts s[p]).2.2.2.1 hc
  have hb10 : (((s[p].toNat : Nat) : Int) == 10) = false := beq_eq_false_iff_ne.2 (fun e => h10 ((Pure.bI _ 10 10 rfl).1 e))
  have hb34 : (((s[p].toNat : Nat) : Int) == 34) = false := beq_eq_false_iff_ne.2 (fun e => h34 ((Pure.bI _ 34 34 rfl).1 e))
  have hlet := Pure.letter_ref s[p]
  rw [hL] at hlet
  have HL := Aside0.mk hlet
  have HNM : Aside0 (retargetref01_Name.f (X.size + 3) X = some (decide ((s[p] :: T).length ≤ 24))) := ⟨by
    have hsz : X.size = (s[p] :: T).length := by rw [hX]; rfl
    have hXL : Lex.L X = s[p] :: T := by rw [hX]; rfl
    have hl : T.length ≤ s.size := by
      have h1 := Lx.tw_len Lx.isW ((Lex.L s).drop (p + 1))
      rw [List.length_drop, Pure.L_len] at h1
      rw [hT]
      omega
    rw [Pure.name_ref X (by rw [hsz, List.length_cons]; omega) (by
      rw [hXL]
      intro x hx
      rcases List.mem_cons.1 hx with rfl | hx
      · simp [Lx.isW, hL]
      · rw [hT] at hx
        exact Lex.tw_mem _ x hx) (by rw [hsz, List.length_cons]; omega) (by subst hX; exact hL) _ (Nat.le_refl _), hsz]⟩
  clear h10 h34 hlet hL
  have hmark := Pure.mark_ref s[p] 15 (by omega)
  rw [hM] at hmark
  have hTl : T.length ≤ s.size := by
    have h1 := Lx.tw_len Lx.isW ((Lex.L s).drop (p + 1))
    rw [List.length_drop, Pure.L_len] at h1
    rw [hT]
    omega
  have hp0 : (0 : Int) ≤ (p : Int) := by omega
  have hpI : (p : Int) < (s.size : Int) := by omega
  have hp1 : wrap64 ((p : Int) + 1) = ((p + 1 : Nat) : Int) := Pure.w64n p (by omega)
  have HM := Aside0.mk hmark
  have HT := Aside0.mk hT
  have HXX := Aside0.mk hX
  have HR := Aside0.mk hR
  have HTL := Aside0.mk hTl
  clear hmark hT hX hR hTl hM hc
  go_enter Tryd.func32, Tryd.ntmps32
  go_wp2_with (first
    | (go_at_call 46; refine (retargetref07_mark.calls 15 _ _ _ HM.out).mono ?_; rintro e w1 ⟨rfl, ⟨nd, rfl⟩⟩)
    | (go_at_call 47; refine (retargetref07_letter.calls _ _ _ HL.out).mono ?_; rintro e w1 ⟨rfl, ⟨nd2, rfl⟩⟩))
  go_loopg [9] (s.size - (p + 1)) (fun k v9 wr => ∃ i : Nat, v9 = .int .i64 (i : Int) ∧ Aside0 (p + 1 ≤ i ∧ i ≤ s.size ∧ k = s.size - i) ∧ Aside0 (T.length = (i - (p + 1)) + (((Lex.L s).drop i).takeWhile Lx.isW).length) ∧ Aside0 (NSt w wr 0 p))
  case atStart =>
    refine ⟨p + 1, by go_num, ⟨by omega, by omega, rfl⟩, ⟨by rw [HT.out]; omega⟩, ⟨two_newN _ _ _ _, two_sndN _ _ _ _, two_belowN _ _ _ _⟩⟩
  case round =>
    obtain ⟨i, rfl, HI, HTW, HN⟩ := hrel
    have c0 := (blk_cell HN.out.g7 0).trans rfl
    have c1 := (blk_cell HN.out.g7 1).trans rfl
    have c2 := (blk_cell HN.out.g7 2).trans rfl
    have c3 := (blk_cell HN.out.g7 3).trans rfl
    have f0 := blk_frozen HN.out.g7 0
    have f1 := blk_frozen HN.out.g7 1
    have f2 := blk_frozen HN.out.g7 2
    have f3 := blk_frozen HN.out.g7 3
    have d0 := (blk_cell HN.out.g4 0).trans rfl
    have d1 := (blk_cell HN.out.g4 1).trans rfl
    have d2 := (blk_cell HN.out.g4 2).trans rfl
    have d3 := (blk_cell HN.out.g4 3).trans rfl
    have k0 := blk_frozen HN.out.g4 0
    have k1 := blk_frozen HN.out.g4 1
    have k2 := blk_frozen HN.out.g4 2
    have k3 := blk_frozen HN.out.g4 3
    have hi0 : (0 : Int) ≤ (i : Int) := by omega
    have hip : ((p : Int) + 1) ≤ (i : Int) := by have := HI.out; omega
    have hip2 : (p : Int) ≤ (i : Int) := by have := HI.out; omega
    have his : (i : Int) ≤ (s.size : Int) := by have := HI.out; omega
    have hi1 : wrap64 ((i : Int) + 1) = ((i + 1 : Nat) : Int) := Pure.w64n i (by have := HI.out; omega)
    by_cases hlt : i < s.size
    · have hltI : (i : Int) < (s.size : Int) := by omega
      have HDI := Aside0.mk (Lex.dropL s i hlt)
      have hwd := Pure.word_ref s[i]
      by_cases hW : Lx.isW s[i] = true
      · rw [hW] at hwd
        have HW := Aside0.mk hW
        have HWD := Aside0.mk hwd
        clear hW hwd
        go_wp2_with (first
          | (go_at_call 49; refine (retargetref07_word.calls _ _ _ HWD.out).mono ?_; rintro e w1 ⟨rfl, ⟨nd9, rfl⟩⟩))
        go_roundg (s.size - (i + 1))
        case measure => have := HI.out; omega
        case rel =>
          have h1 := HI.out
          refine ⟨i + 1, by go_num, ⟨by omega, by omega, rfl⟩, ⟨?_⟩, ⟨HN.out.drewN _⟩⟩
          rw [HTW.out, HDI.out, List.takeWhile_cons_of_pos HW.out, List.length_cons]
          omega
      · rw [Bool.eq_false_iff.2 hW] at hwd
        have HWD := Aside0.mk hwd
        have HLEN : Aside0 (T.length = i - (p + 1)) := ⟨by rw [HTW.out, HDI.out, List.takeWhile_cons_of_neg hW]; rfl⟩
        clear hW hwd
        have hx : s.extract p i = X := by
          have h1 := HI.out
          have h2 := HLEN.out
          rw [show i = p + (T.length + 1) by omega, Pure.extract_take, Lex.dropL s p hp, List.take_succ_cons, HXX.out, HT.out, Pure.tw_take]
        by_cases h24 : (s[p] :: T).length ≤ 24
        · have hnm := HNM.out
          rw [decide_eq_true h24] at hnm
          have HNM2 := Aside0.mk hnm
          have er := HR.out.trans (if_pos h24)
          have HER := Aside0.mk er
          clear hnm er h24
          go_wp2_with (first
            | (go_at_call 49; refine (retargetref07_word.calls _ _ _ HWD.out).mono ?_; rintro e w1 ⟨rfl, ⟨nd9, rfl⟩⟩)
            | (go_at_call 47; refine (retargetref07_letter.calls _ _ _ HL.out).mono ?_; rintro e w1 ⟨rfl, ⟨nd8, rfl⟩⟩)
            | (go_at_call 50; refine (retargetref01_Name.calls _ _ _ _ HNM2.out).mono ?_; rintro e w1 ⟨rfl, ⟨nd7, rfl⟩⟩))
          refine bodyPost_ret (results_ctt rfl _ _ w.heap.size 33 #[.int .u8 1, .string X, .int .i64 0, .int .i64 p] (0, 0) _ rfl (put4 (blk_far (blk_drewN (blk_far (blk_drewN HN.out.g4 _) (by simp) _) _) (by simp) _) _ _ _ _) Tryd.underlying33 rfl (by kernel_rfl)) rfl ?_
          refine ⟨?_, bel_put4 (below_set (pw_below_drewN (below_set (pw_below_drewN HN.out.bel _) (by simp)) _) (by simp)) (Nat.le_refl _) _ _ _ _⟩
          have er := HER.out
          subst er
          have e : i = p + 1 + T.length := by have := HI.out; have := HLEN.out; omega
          simp [V6]
          omega
        · have hnm := HNM.out
          rw [decide_eq_false h24] at hnm
          have HNM2 := Aside0.mk hnm
          have er := HR.out.trans (if_neg h24)
          have HER := Aside0.mk er
          clear hnm er h24
          go_wp2_with (first
            | (go_at_call 49; refine (retargetref07_word.calls _ _ _ HWD.out).mono ?_; rintro e w1 ⟨rfl, ⟨nd9, rfl⟩⟩)
            | (go_at_call 47; refine (retargetref07_letter.calls _ _ _ HL.out).mono ?_; rintro e w1 ⟨rfl, ⟨nd8, rfl⟩⟩)
            | (go_at_call 50; refine (retargetref01_Name.calls _ _ _ _ HNM2.out).mono ?_; rintro e w1 ⟨rfl, ⟨nd7, rfl⟩⟩))
          refine bodyPost_ret (results_ctt rfl _ _ w.heap.size 33 #[.int .u8 0, .string ⟨#[]⟩, .int .i64 0, .int .i64 0] (0, 0) _ rfl (put4 (blk_drewN (blk_far (blk_drewN HN.out.g4 _) (by simp) _) _) _ _ _ _) Tryd.underlying33 rfl (by kernel_rfl)) rfl ?_
          have er := HER.out
          subst er
          exact ⟨rfl, bel_put4 (pw_below_drewN (below_set (pw_below_drewN HN.out.bel _) (by simp)) _) (Nat.le_refl _) _ _ _ _⟩

    · have hge : ¬ (i : Int) < (s.size : Int) := by omega
      have HLEN : Aside0 (T.length = i - (p + 1)) := ⟨by rw [HTW.out, Lex.drop_end s i (by omega)]; rfl⟩
      have hx : s.extract p i = X := by
        have h1 := HI.out
        have h2 := HLEN.out
        rw [show i = p + (T.length + 1) by omega, Pure.extract_take, Lex.dropL s p hp, List.take_succ_cons, HXX.out, HT.out, Pure.tw_take]
      by_cases h24 : (s[p] :: T).length ≤ 24
      · have hnm := HNM.out
        rw [decide_eq_true h24] at hnm
        have HNM2 := Aside0.mk hnm
        have er := HR.out.trans (if_pos h24)
        have HER := Aside0.mk er
        clear hnm er h24
        go_wp2_with (first
          | (go_at_call 47; refine (retargetref07_letter.calls _ _ _ HL.out).mono ?_; rintro e w1 ⟨rfl, ⟨nd8, rfl⟩⟩)
          | (go_at_call 50; refine (retargetref01_Name.calls _ _ _ _ HNM2.out).mono ?_; rintro e w1 ⟨rfl, ⟨nd7, rfl⟩⟩))
        refine bodyPost_ret (results_ctt rfl _ _ w.heap.size 33 #[.int .u8 1, .string X, .int .i64 0, .int .i64 p] (0, 0) _ rfl (put4 (blk_far (blk_drewN (blk_far (blk_drewN HN.out.g4 _) (by simp) _) _) (by simp) _) _ _ _ _) Tryd.underlying33 rfl (by kernel_rfl)) rfl ?_
        refine ⟨?_, bel_put4 (below_set (pw_below_drewN (below_set (pw_below_drewN HN.out.bel _) (by simp)) _) (by simp)) (Nat.le_refl _) _ _ _ _⟩
        have er := HER.out
        subst er
        have e : i = p + 1 + T.length := by have := HI.out; have := HLEN.out; omega
        simp [V6]
        omega
      · have hnm := HNM.out
        rw [decide_eq_false h24] at hnm
        have HNM2 := Aside0.mk hnm
        have er := HR.out.trans (if_neg h24)
        have HER := Aside0.mk er
        clear hnm er h24
        go_wp2_with (first
          | (go_at_call 47; refine (retargetref07_letter.calls _ _ _ HL.out).mono ?_; rintro e w1 ⟨rfl, ⟨nd8, rfl⟩⟩)
          | (go_at_call 50; refine (retargetref01_Name.calls _ _ _ _ HNM2.out).mono ?_; rintro e w1 ⟨rfl, ⟨nd7, rfl⟩⟩))
        refine bodyPost_ret (results_ctt rfl _ _ w.heap.size 33 #[.int .u8 0, .string ⟨#[]⟩, .int .i64 0, .int .i64 0] (0, 0) _ rfl (put4 (blk_drewN (blk_far (blk_drewN HN.out.g4 _) (by simp) _) _) _ _ _ _) Tryd.underlying33 rfl (by kernel_rfl)) rfl ?_
        have er := HER.out
        subst er
        exact ⟨rfl, bel_put4 (pw_below_drewN (below_set (pw_below_drewN HN.out.bel _) (by simp)) _) (Nat.le_refl _) _ _ _ _⟩
set_option maxHeartbeats 8000000 in
set_option maxRecDepth 100000 in
theorem nextNum4 (s : ByteArray) (p : Nat) (hs : s.size ≤ 70000) (hp : p < s.size) (hc : Lx.cls s[p] = 4) (w : World) :
    Calls Tryd.prog 32 #[.string s, .int .i64 p] w fun e w' => e = .returned (V6 (match Lx.number (s[p] :: ((Lex.L s).drop (p + 1)).takeWhile Lx.isW) with | some n => (2, Lex.BA (s[p] :: ((Lex.L s).drop (p + 1)).takeWhile Lx.isW), n, (p : Int), ((p + 1 + (((Lex.L s).drop (p + 1)).takeWhile Lx.isW).length : Nat) : Int), true) | none => Pure.bad6)) ∧ Below w.heap.size w w' := by
  obtain ⟨T, hT⟩ : ∃ T, T = ((Lex.L s).drop (p + 1)).takeWhile Lx.isW := ⟨_, rfl⟩
  obtain ⟨X, hX⟩ : ∃ X, X = Lex.BA (s[p] :: T) := ⟨_, rfl⟩
  obtain ⟨R, hR⟩ : ∃ R : Pure.R6, R = (match Lx.number (s[p] :: T) with | some n => (2, X, n, (p : Int), ((p + 1 + T.length : Nat) : Int), true) | none => Pure.bad6) := ⟨_, rfl⟩
  rw [← hT, ← hX, ← hR]
  obtain ⟨h10, hM, h34, hL, hD⟩ := (Pure.cls_facts s[p]).2.2.2.2.1 hc
  have hb10 : (((s[p].toNat : Nat) : Int) == 10) = false := beq_eq_false_iff_ne.2 (fun e => h10 ((Pure.bI _ 10 10 rfl).1 e))
  have hb34 : (((s[p].toNat : Nat) : Int) == 34) = false := beq_eq_false_iff_ne.2 (fun e => h34 ((Pure.bI _ 34 34 rfl).1 e))
  have hlet := Pure.letter_ref s[p]
  rw [hL] at hlet
  have HL := Aside0.mk hlet
  have hdig := Pure.digit_ref s[p]
  rw [hD] at hdig
  have HDG := Aside0.mk hdig
  have HNM : Aside0 (retargetref07_Number.f 40 X = some (Pure.ansN (Lx.number (s[p] :: T)))) := ⟨by
    have hXL : Lex.L X = s[p] :: T := by rw [hX]; rfl
    rw [Pure.number_ref X 40 (Nat.le_refl _), hXL]⟩
  clear h10 h34 hlet hL hdig hD
  have hmark := Pure.mark_ref s[p] 15 (by omega)
  rw [hM] at hmark
  have hTl : T.length ≤ s.size := by
    have h1 := Lx.tw_len Lx.isW ((Lex.L s).drop (p + 1))
    rw [List.length_drop, Pure.L_len] at h1
    rw [hT]
    omega
  have hp0 : (0 : Int) ≤ (p : Int) := by omega
  have hpI : (p : Int) < (s.size : Int) := by omega
  have hp1 : wrap64 ((p : Int) + 1) = ((p + 1 : Nat) : Int) := Pure.w64n p (by omega)
  have HM := Aside0.mk hmark
  have HT := Aside0.mk hT
  have HXX := Aside0.mk hX
  have HR := Aside0.mk hR
  have HTL := Aside0.mk hTl
  clear hmark hT hX hR hTl hM hc
  go_enter Tryd.func32, Tryd.ntmps32
  go_wp2_with (first
    | (go_at_call 46; refine (retargetref07_mark.calls 15 _ _ _ HM.out).mono ?_; rintro e w1 ⟨rfl, ⟨nd, rfl⟩⟩)
    | (go_at_call 47; refine (retargetref07_letter.calls _ _ _ HL.out).mono ?_; rintro e w1 ⟨rfl, ⟨nd2, rfl⟩⟩)
    | (go_at_call 48; refine (retargetref07_digit.calls _ _ _ HDG.out).mono ?_; rintro e w1 ⟨rfl, ⟨nd3, rfl⟩⟩))
  go_loopg [9] (s.size - (p + 1)) (fun k v9 wr => ∃ i : Nat, v9 = .int .i64 (i : Int) ∧ Aside0 (p + 1 ≤ i ∧ i ≤ s.size ∧ k = s.size - i) ∧ Aside0 (T.length = (i - (p + 1)) + (((Lex.L s).drop i).takeWhile Lx.isW).length) ∧ Aside0 (NSt w wr 0 p))
  case atStart =>
    refine ⟨p + 1, by go_num, ⟨by omega, by omega, rfl⟩, ⟨by rw [HT.out]; omega⟩, ⟨two_newN _ _ _ _, two_sndN _ _ _ _, two_belowN _ _ _ _⟩⟩
  case round =>
    obtain ⟨i, rfl, HI, HTW, HN⟩ := hrel
    have c0 := (blk_cell HN.out.g7 0).trans rfl
    have c1 := (blk_cell HN.out.g7 1).trans rfl
    have c2 := (blk_cell HN.out.g7 2).trans rfl
    have c3 := (blk_cell HN.out.g7 3).trans rfl
    have f0 := blk_frozen HN.out.g7 0
    have f1 := blk_frozen HN.out.g7 1
    have f2 := blk_frozen HN.out.g7 2
    have f3 := blk_frozen HN.out.g7 3
    have d0 := (blk_cell HN.out.g4 0).trans rfl
    have d1 := (blk_cell HN.out.g4 1).trans rfl
    have d2 := (blk_cell HN.out.g4 2).trans rfl
    have d3 := (blk_cell HN.out.g4 3).trans rfl
    have k0 := blk_frozen HN.out.g4 0
    have k1 := blk_frozen HN.out.g4 1
    have k2 := blk_frozen HN.out.g4 2
    have k3 := blk_frozen HN.out.g4 3
    have hi0 : (0 : Int) ≤ (i : Int) := by omega
    have hip : ((p : Int) + 1) ≤ (i : Int) := by have := HI.out; omega
    have hip2 : (p : Int) ≤ (i : Int) := by have := HI.out; omega
    have his : (i : Int) ≤ (s.size : Int) := by have := HI.out; omega
    have hi1 : wrap64 ((i : Int) + 1) = ((i + 1 : Nat) : Int) := Pure.w64n i (by have := HI.out; omega)
    by_cases hlt : i < s.size
    · have hltI : (i : Int) < (s.size : Int) := by omega
      have HDI := Aside0.mk (Lex.dropL s i hlt)
      have hwd := Pure.word_ref s[i]
      by_cases hW : Lx.isW s[i] = true
      · rw [hW] at hwd
        have HW := Aside0.mk hW
        have HWD := Aside0.mk hwd
        clear hW hwd
        go_wp2_with (first
          | (go_at_call 49; refine (retargetref07_word.calls _ _ _ HWD.out).mono ?_; rintro e w1 ⟨rfl, ⟨nd9, rfl⟩⟩))
        go_roundg (s.size - (i + 1))
        case measure => have := HI.out; omega
        case rel =>
          have h1 := HI.out
          refine ⟨i + 1, by go_num, ⟨by omega, by omega, rfl⟩, ⟨?_⟩, ⟨HN.out.drewN _⟩⟩
          rw [HTW.out, HDI.out, List.takeWhile_cons_of_pos HW.out, List.length_cons]
          omega
      · rw [Bool.eq_false_iff.2 hW] at hwd
        have HWD := Aside0.mk hwd
        have HLEN : Aside0 (T.length = i - (p + 1)) := ⟨by rw [HTW.out, HDI.out, List.takeWhile_cons_of_neg hW]; rfl⟩
        clear hW hwd
        have hx : s.extract p i = X := by
          have h1 := HI.out
          have h2 := HLEN.out
          rw [show i = p + (T.length + 1) by omega, Pure.extract_take, Lex.dropL s p hp, List.take_succ_cons, HXX.out, HT.out, Pure.tw_take]
        cases ho : Lx.number (s[p] :: T) with
        | some n =>
          have hnm := HNM.out
          rw [ho] at hnm
          have HNM2 : Aside0 (retargetref07_Number.f 40 X = some (n, true)) := ⟨hnm⟩
          have er := HR.out
          rw [ho] at er
          have HER : Aside0 (R = (2, X, n, (p : Int), ((p + 1 + T.length : Nat) : Int), true)) := ⟨er⟩
          clear hnm er ho
          go_wp2_with (first
            | (go_at_call 49; refine (retargetref07_word.calls _ _ _ HWD.out).mono ?_; rintro e w1 ⟨rfl, ⟨nd9, rfl⟩⟩)
            | (go_at_call 47; refine (retargetref07_letter.calls _ _ _ HL.out).mono ?_; rintro e w1 ⟨rfl, ⟨nd8, rfl⟩⟩)
            | (go_at_call 51; refine (retargetref07_Number.calls _ _ _ _ _ HNM2.out).mono ?_; rintro e w1 ⟨rfl, ⟨nd7, rfl⟩⟩))
          refine bodyPost_ret (results_ctt rfl _ _ w.heap.size 33 #[.int .u8 2, .string X, .int .i64 n, .int .i64 p] (0, 0) _ rfl (put4 (blk_far (blk_far (blk_drewN (blk_far (blk_drewN HN.out.g4 _) (by simp) _) _) (by simp) _) (by simp) _) _ _ _ _) Tryd.underlying33 rfl (by kernel_rfl)) rfl ?_
          refine ⟨?_, bel_put4 (below_set (below_set (pw_below_drewN (below_set (pw_below_drewN HN.out.bel _) (by simp)) _) (by simp)) (by simp)) (Nat.le_refl _) _ _ _ _⟩
          have er := HER.out
          subst er
          have e : i = p + 1 + T.length := by have := HI.out; have := HLEN.out; omega
          simp [V6]
          omega
        | none =>
          have hnm := HNM.out
          rw [ho] at hnm
          have HNM2 : Aside0 (retargetref07_Number.f 40 X = some (0, false)) := ⟨hnm⟩
          have er := HR.out
          rw [ho] at er
          have HER : Aside0 (R = Pure.bad6) := ⟨er⟩
          clear hnm er ho
          go_wp2_with (first
            | (go_at_call 49; refine (retargetref07_word.calls _ _ _ HWD.out).mono ?_; rintro e w1 ⟨rfl, ⟨nd9, rfl⟩⟩)
            | (go_at_call 47; refine (retargetref07_letter.calls _ _ _ HL.out).mono ?_; rintro e w1 ⟨rfl, ⟨nd8, rfl⟩⟩)
            | (go_at_call 51; refine (retargetref07_Number.calls _ _ _ _ _ HNM2.out).mono ?_; rintro e w1 ⟨rfl, ⟨nd7, rfl⟩⟩))
          refine bodyPost_ret (results_ctt rfl _ _ w.heap.size 33 #[.int .u8 0, .string ⟨#[]⟩, .int .i64 0, .int .i64 0] (0, 0) _ rfl (put4 (blk_drewN (blk_far (blk_drewN HN.out.g4 _) (by simp) _) _) _ _ _ _) Tryd.underlying33 rfl (by kernel_rfl)) rfl ?_
          have er := HER.out
          subst er
          exact ⟨rfl, bel_put4 (pw_below_drewN (below_set (pw_below_drewN HN.out.bel _) (by simp)) _) (Nat.le_refl _) _ _ _ _⟩

    · have hge : ¬ (i : Int) < (s.size : Int) := by omega
      have HLEN : Aside0 (T.length = i - (p + 1)) := ⟨by rw [HTW.out, Lex.drop_end s i (by omega)]; rfl⟩
      have hx : s.extract p i = X := by
        have h1 := HI.out
        have h2 := HLEN.out
        rw [show i = p + (T.length + 1) by omega, Pure.extract_take, Lex.dropL s p hp, List.take_succ_cons, HXX.out, HT.out, Pure.tw_take]
      cases ho : Lx.number (s[p] :: T) with
      | some n =>
        have hnm := HNM.out
        rw [ho] at hnm
        have HNM2 : Aside0 (retargetref07_Number.f 40 X = some (n, true)) := ⟨hnm⟩
        have er := HR.out
        rw [ho] at er
        have HER : Aside0 (R = (2, X, n, (p : Int), ((p + 1 + T.length : Nat) : Int), true)) := ⟨er⟩
        clear hnm er ho
        go_wp2_with (first
          | (go_at_call 47; refine (retargetref07_letter.calls _ _ _ HL.out).mono ?_; rintro e w1 ⟨rfl, ⟨nd8, rfl⟩⟩)
          | (go_at_call 51; refine (retargetref07_Number.calls _ _ _ _ _ HNM2.out).mono ?_; rintro e w1 ⟨rfl, ⟨nd7, rfl⟩⟩))
        refine bodyPost_ret (results_ctt rfl _ _ w.heap.size 33 #[.int .u8 2, .string X, .int .i64 n, .int .i64 p] (0, 0) _ rfl (put4 (blk_far (blk_far (blk_drewN (blk_far (blk_drewN HN.out.g4 _) (by simp) _) _) (by simp) _) (by simp) _) _ _ _ _) Tryd.underlying33 rfl (by kernel_rfl)) rfl ?_
        refine ⟨?_, bel_put4 (below_set (below_set (pw_below_drewN (below_set (pw_below_drewN HN.out.bel _) (by simp)) _) (by simp)) (by simp)) (Nat.le_refl _) _ _ _ _⟩
        have er := HER.out
        subst er
        have e : i = p + 1 + T.length := by have := HI.out; have := HLEN.out; omega
        simp [V6]
        omega
      | none =>
        have hnm := HNM.out
        rw [ho] at hnm
        have HNM2 : Aside0 (retargetref07_Number.f 40 X = some (0, false)) := ⟨hnm⟩
        have er := HR.out
        rw [ho] at er
        have HER : Aside0 (R = Pure.bad6) := ⟨er⟩
        clear hnm er ho
        go_wp2_with (first
          | (go_at_call 47; refine (retargetref07_letter.calls _ _ _ HL.out).mono ?_; rintro e w1 ⟨rfl, ⟨nd8, rfl⟩⟩)
          | (go_at_call 51; refine (retargetref07_Number.calls _ _ _ _ _ HNM2.out).mono ?_; rintro e w1 ⟨rfl, ⟨nd7, rfl⟩⟩))
        refine bodyPost_ret (results_ctt rfl _ _ w.heap.size 33 #[.int .u8 0, .string ⟨#[]⟩, .int .i64 0, .int .i64 0] (0, 0) _ rfl (put4 (blk_drewN (blk_far (blk_drewN HN.out.g4 _) (by simp) _) _) _ _ _ _) Tryd.underlying33 rfl (by kernel_rfl)) rfl ?_
        have er := HER.out
        subst er
        exact ⟨rfl, bel_put4 (pw_below_drewN (below_set (pw_below_drewN HN.out.bel _) (by simp)) _) (Nat.le_refl _) _ _ _ _⟩
set_option maxHeartbeats 8000000 in
set_option maxRecDepth 100000 in
theorem nextNum6 (s : ByteArray) (p : Nat) (hs : s.size ≤ 70000) (hp : p < s.size) (hc : Lx.cls s[p] = 6) (w : World) :
    Calls Tryd.prog 32 #[.string s, .int .i64 p] w fun e w' => e = .returned (V6 (match Lx.number (s[p] :: ((Lex.L s).drop (p + 1)).takeWhile Lx.isW) with | some n => (2, Lex.BA (s[p] :: ((Lex.L s).drop (p + 1)).takeWhile Lx.isW), n, (p : Int), ((p + 1 + (((Lex.L s).drop (p + 1)).takeWhile Lx.isW).length : Nat) : Int), true) | none => Pure.bad6)) ∧ Below w.heap.size w w' := by
  obtain ⟨T, hT⟩ : ∃ T, T = ((Lex.L s).drop (p + 1)).takeWhile Lx.isW := ⟨_, rfl⟩
  obtain ⟨X, hX⟩ : ∃ X, X = Lex.BA (s[p] :: T) := ⟨_, rfl⟩
  obtain ⟨R, hR⟩ : ∃ R : Pure.R6, R = (match Lx.number (s[p] :: T) with | some n => (2, X, n, (p : Int), ((p + 1 + T.length : Nat) : Int), true) | none => Pure.bad6) := ⟨_, rfl⟩
  rw [← hT, ← hX, ← hR]
  have h45 := (Pure.cls_facts s[p]).2.2.2.2.2.1 hc
  have h10 : s[p] ≠ 10 := by rw [h45]; decide
  have hM : Lx.isM s[p] = false := by rw [h45]; rfl
  have h34 : s[p] ≠ 34 := by rw [h45]; decide
  have hL : Lx.isL s[p] = false := by rw [h45]; rfl
  have hD : Lx.isD s[p] = false := by rw [h45]; rfl
  have hb45 : (((s[p].toNat : Nat) : Int) == 45) = true := by rw [h45]; rfl
  clear h45
  have hb10 : (((s[p].toNat : Nat) : Int) == 10) = false := beq_eq_false_iff_ne.2 (fun e => h10 ((Pure.bI _ 10 10 rfl).1 e))
  have hb34 : (((s[p].toNat : Nat) : Int) == 34) = false := beq_eq_false_iff_ne.2 (fun e => h34 ((Pure.bI _ 34 34 rfl).1 e))
  have hlet := Pure.letter_ref s[p]
  rw [hL] at hlet
  have HL := Aside0.mk hlet
  have hdig := Pure.digit_ref s[p]
  rw [hD] at hdig
  have HDG := Aside0.mk hdig
  have HNM : Aside0 (retargetref07_Number.f 40 X = some (Pure.ansN (Lx.number (s[p] :: T)))) := ⟨by
    have hXL : Lex.L X = s[p] :: T := by rw [hX]; rfl
    rw [Pure.number_ref X 40 (Nat.le_refl _), hXL]⟩
  clear h10 h34 hlet hL hdig hD
  have hmark := Pure.mark_ref s[p] 15 (by omega)
  rw [hM] at hmark
  have hTl : T.length ≤ s.size := by
    have h1 := Lx.tw_len Lx.isW ((Lex.L s).drop (p + 1))
    rw [List.length_drop, Pure.L_len] at h1
    rw [hT]
    omega
  have hp0 : (0 : Int) ≤ (p : Int) := by omega
  have hpI : (p : Int) < (s.size : Int) := by omega
  have hp1 : wrap64 ((p : Int) + 1) = ((p + 1 : Nat) : Int) := Pure.w64n p (by omega)
  have HM := Aside0.mk hmark
  have HT := Aside0.mk hT
  have HXX := Aside0.mk hX
  have HR := Aside0.mk hR
  have HTL := Aside0.mk hTl
  clear hmark hT hX hR hTl hM hc
  go_enter Tryd.func32, Tryd.ntmps32
  go_wp2_with (first
    | (go_at_call 46; refine (retargetref07_mark.calls 15 _ _ _ HM.out).mono ?_; rintro e w1 ⟨rfl, ⟨nd, rfl⟩⟩)
    | (go_at_call 47; refine (retargetref07_letter.calls _ _ _ HL.out).mono ?_; rintro e w1 ⟨rfl, ⟨nd2, rfl⟩⟩)
    | (go_at_call 48; refine (retargetref07_digit.calls _ _ _ HDG.out).mono ?_; rintro e w1 ⟨rfl, ⟨nd3, rfl⟩⟩))
  go_loopg [9] (s.size - (p + 1)) (fun k v9 wr => ∃ i : Nat, v9 = .int .i64 (i : Int) ∧ Aside0 (p + 1 ≤ i ∧ i ≤ s.size ∧ k = s.size - i) ∧ Aside0 (T.length = (i - (p + 1)) + (((Lex.L s).drop i).takeWhile Lx.isW).length) ∧ Aside0 (NSt w wr 0 p))
  case atStart =>
    refine ⟨p + 1, by go_num, ⟨by omega, by omega, rfl⟩, ⟨by rw [HT.out]; omega⟩, ⟨two_newN _ _ _ _, two_sndN _ _ _ _, two_belowN _ _ _ _⟩⟩
  case round =>
    obtain ⟨i, rfl, HI, HTW, HN⟩ := hrel
    have c0 := (blk_cell HN.out.g7 0).trans rfl
    have c1 := (blk_cell HN.out.g7 1).trans rfl
    have c2 := (blk_cell HN.out.g7 2).trans rfl
    have c3 := (blk_cell HN.out.g7 3).trans rfl
    have f0 := blk_frozen HN.out.g7 0
    have f1 := blk_frozen HN.out.g7 1
    have f2 := blk_frozen HN.out.g7 2
    have f3 := blk_frozen HN.out.g7 3
    have d0 := (blk_cell HN.out.g4 0).trans rfl
    have d1 := (blk_cell HN.out.g4 1).trans rfl
    have d2 := (blk_cell HN.out.g4 2).trans rfl
    have d3 := (blk_cell HN.out.g4 3).trans rfl
    have k0 := blk_frozen HN.out.g4 0
    have k1 := blk_frozen HN.out.g4 1
    have k2 := blk_frozen HN.out.g4 2
    have k3 := blk_frozen HN.out.g4 3
    have hi0 : (0 : Int) ≤ (i : Int) := by omega
    have hip : ((p : Int) + 1) ≤ (i : Int) := by have := HI.out; omega
    have hip2 : (p : Int) ≤ (i : Int) := by have := HI.out; omega
    have his : (i : Int) ≤ (s.size : Int) := by have := HI.out; omega
    have hi1 : wrap64 ((i : Int) + 1) = ((i + 1 : Nat) : Int) := Pure.w64n i (by have := HI.out; omega)
    by_cases hlt : i < s.size
    · have hltI : (i : Int) < (s.size : Int) := by omega
      have HDI := Aside0.mk (Lex.dropL s i hlt)
      have hwd := Pure.word_ref s[i]
      by_cases hW : Lx.isW s[i] = true
      · rw [hW] at hwd
        have HW := Aside0.mk hW
        have HWD := Aside0.mk hwd
        clear hW hwd
        go_wp2_with (first
          | (go_at_call 49; refine (retargetref07_word.calls _ _ _ HWD.out).mono ?_; rintro e w1 ⟨rfl, ⟨nd9, rfl⟩⟩))
        go_roundg (s.size - (i + 1))
        case measure => have := HI.out; omega
        case rel =>
          have h1 := HI.out
          refine ⟨i + 1, by go_num, ⟨by omega, by omega, rfl⟩, ⟨?_⟩, ⟨HN.out.drewN _⟩⟩
          rw [HTW.out, HDI.out, List.takeWhile_cons_of_pos HW.out, List.length_cons]
          omega
      · rw [Bool.eq_false_iff.2 hW] at hwd
        have HWD := Aside0.mk hwd
        have HLEN : Aside0 (T.length = i - (p + 1)) := ⟨by rw [HTW.out, HDI.out, List.takeWhile_cons_of_neg hW]; rfl⟩
        clear hW hwd
        have hx : s.extract p i = X := by
          have h1 := HI.out
          have h2 := HLEN.out
          rw [show i = p + (T.length + 1) by omega, Pure.extract_take, Lex.dropL s p hp, List.take_succ_cons, HXX.out, HT.out, Pure.tw_take]
        cases ho : Lx.number (s[p] :: T) with
        | some n =>
          have hnm := HNM.out
          rw [ho] at hnm
          have HNM2 : Aside0 (retargetref07_Number.f 40 X = some (n, true)) := ⟨hnm⟩
          have er := HR.out
          rw [ho] at er
          have HER : Aside0 (R = (2, X, n, (p : Int), ((p + 1 + T.length : Nat) : Int), true)) := ⟨er⟩
          clear hnm er ho
          go_wp2_with (first
            | (go_at_call 49; refine (retargetref07_word.calls _ _ _ HWD.out).mono ?_; rintro e w1 ⟨rfl, ⟨nd9, rfl⟩⟩)
            | (go_at_call 47; refine (retargetref07_letter.calls _ _ _ HL.out).mono ?_; rintro e w1 ⟨rfl, ⟨nd8, rfl⟩⟩)
            | (go_at_call 51; refine (retargetref07_Number.calls _ _ _ _ _ HNM2.out).mono ?_; rintro e w1 ⟨rfl, ⟨nd7, rfl⟩⟩))
          refine bodyPost_ret (results_ctt rfl _ _ w.heap.size 33 #[.int .u8 2, .string X, .int .i64 n, .int .i64 p] (0, 0) _ rfl (put4 (blk_far (blk_far (blk_drewN (blk_far (blk_drewN HN.out.g4 _) (by simp) _) _) (by simp) _) (by simp) _) _ _ _ _) Tryd.underlying33 rfl (by kernel_rfl)) rfl ?_
          refine ⟨?_, bel_put4 (below_set (below_set (pw_below_drewN (below_set (pw_below_drewN HN.out.bel _) (by simp)) _) (by simp)) (by simp)) (Nat.le_refl _) _ _ _ _⟩
          have er := HER.out
          subst er
          have e : i = p + 1 + T.length := by have := HI.out; have := HLEN.out; omega
          simp [V6]
          omega
        | none =>
          have hnm := HNM.out
          rw [ho] at hnm
          have HNM2 : Aside0 (retargetref07_Number.f 40 X = some (0, false)) := ⟨hnm⟩
          have er := HR.out
          rw [ho] at er
          have HER : Aside0 (R = Pure.bad6) := ⟨er⟩
          clear hnm er ho
          go_wp2_with (first
            | (go_at_call 49; refine (retargetref07_word.calls _ _ _ HWD.out).mono ?_; rintro e w1 ⟨rfl, ⟨nd9, rfl⟩⟩)
            | (go_at_call 47; refine (retargetref07_letter.calls _ _ _ HL.out).mono ?_; rintro e w1 ⟨rfl, ⟨nd8, rfl⟩⟩)
            | (go_at_call 51; refine (retargetref07_Number.calls _ _ _ _ _ HNM2.out).mono ?_; rintro e w1 ⟨rfl, ⟨nd7, rfl⟩⟩))
          refine bodyPost_ret (results_ctt rfl _ _ w.heap.size 33 #[.int .u8 0, .string ⟨#[]⟩, .int .i64 0, .int .i64 0] (0, 0) _ rfl (put4 (blk_drewN (blk_far (blk_drewN HN.out.g4 _) (by simp) _) _) _ _ _ _) Tryd.underlying33 rfl (by kernel_rfl)) rfl ?_
          have er := HER.out
          subst er
          exact ⟨rfl, bel_put4 (pw_below_drewN (below_set (pw_below_drewN HN.out.bel _) (by simp)) _) (Nat.le_refl _) _ _ _ _⟩

    · have hge : ¬ (i : Int) < (s.size : Int) := by omega
      have HLEN : Aside0 (T.length = i - (p + 1)) := ⟨by rw [HTW.out, Lex.drop_end s i (by omega)]; rfl⟩
      have hx : s.extract p i = X := by
        have h1 := HI.out
        have h2 := HLEN.out
        rw [show i = p + (T.length + 1) by omega, Pure.extract_take, Lex.dropL s p hp, List.take_succ_cons, HXX.out, HT.out, Pure.tw_take]
      cases ho : Lx.number (s[p] :: T) with
      | some n =>
        have hnm := HNM.out
        rw [ho] at hnm
        have HNM2 : Aside0 (retargetref07_Number.f 40 X = some (n, true)) := ⟨hnm⟩
        have er := HR.out
        rw [ho] at er
        have HER : Aside0 (R = (2, X, n, (p : Int), ((p + 1 + T.length : Nat) : Int), true)) := ⟨er⟩
        clear hnm er ho
        go_wp2_with (first
          | (go_at_call 47; refine (retargetref07_letter.calls _ _ _ HL.out).mono ?_; rintro e w1 ⟨rfl, ⟨nd8, rfl⟩⟩)
          | (go_at_call 51; refine (retargetref07_Number.calls _ _ _ _ _ HNM2.out).mono ?_; rintro e w1 ⟨rfl, ⟨nd7, rfl⟩⟩))
        refine bodyPost_ret (results_ctt rfl _ _ w.heap.size 33 #[.int .u8 2, .string X, .int .i64 n, .int .i64 p] (0, 0) _ rfl (put4 (blk_far (blk_far (blk_drewN (blk_far (blk_drewN HN.out.g4 _) (by simp) _) _) (by simp) _) (by simp) _) _ _ _ _) Tryd.underlying33 rfl (by kernel_rfl)) rfl ?_
        refine ⟨?_, bel_put4 (below_set (below_set (pw_below_drewN (below_set (pw_below_drewN HN.out.bel _) (by simp)) _) (by simp)) (by simp)) (Nat.le_refl _) _ _ _ _⟩
        have er := HER.out
        subst er
        have e : i = p + 1 + T.length := by have := HI.out; have := HLEN.out; omega
        simp [V6]
        omega
      | none =>
        have hnm := HNM.out
        rw [ho] at hnm
        have HNM2 : Aside0 (retargetref07_Number.f 40 X = some (0, false)) := ⟨hnm⟩
        have er := HR.out
        rw [ho] at er
        have HER : Aside0 (R = Pure.bad6) := ⟨er⟩
        clear hnm er ho
        go_wp2_with (first
          | (go_at_call 47; refine (retargetref07_letter.calls _ _ _ HL.out).mono ?_; rintro e w1 ⟨rfl, ⟨nd8, rfl⟩⟩)
          | (go_at_call 51; refine (retargetref07_Number.calls _ _ _ _ _ HNM2.out).mono ?_; rintro e w1 ⟨rfl, ⟨nd7, rfl⟩⟩))
        refine bodyPost_ret (results_ctt rfl _ _ w.heap.size 33 #[.int .u8 0, .string ⟨#[]⟩, .int .i64 0, .int .i64 0] (0, 0) _ rfl (put4 (blk_drewN (blk_far (blk_drewN HN.out.g4 _) (by simp) _) _) _ _ _ _) Tryd.underlying33 rfl (by kernel_rfl)) rfl ?_
        have er := HER.out
        subst er
        exact ⟨rfl, bel_put4 (pw_below_drewN (below_set (pw_below_drewN HN.out.bel _) (by simp)) _) (Nat.le_refl _) _ _ _ _⟩
/-- What next answers. -/
def retargetref07_next.f (a0 : ByteArray) (a1 : Int) : Option (Int × ByteArray × Int × Int × Int × Bool) :=
  if h : (0 ≤ a1 ∧ a0.size ≤ 70000) ∧ a1.toNat < a0.size then some (Pure.ans6 a1.toNat (Lx.next (a0[a1.toNat]'h.2) ((Lex.L a0).drop (a1.toNat + 1)))) else none
theorem next_calls (s : ByteArray) (p : Nat) (hs : s.size ≤ 70000) (hp : p < s.size) (w : World) :
    Calls Tryd.prog 32 #[.string s, .int .i64 p] w fun e w' => e = .returned (V6 (Pure.ans6 p (Lx.next s[p] ((Lex.L s).drop (p + 1))))) ∧ Below w.heap.size w w' := by
  rcases Lex.cls_cases s[p] with hcl | hcl | hcl | hcl | hcl | hcl | ⟨hcl, hnone⟩
  · have e : Lx.next s[p] ((Lex.L s).drop (p + 1)) = if (s[p] :: ((Lex.L s).drop (p + 1)).takeWhile Lx.isW).length ≤ 24 then some ⟨1, s[p] :: ((Lex.L s).drop (p + 1)).takeWhile Lx.isW, 0⟩ else none := by
      unfold Lx.next
      rw [hcl]
      rfl
    refine (nextName s p hs hp hcl w).mono ?_
    rintro e' w' ⟨rfl, hb⟩
    refine ⟨?_, hb⟩
    rw [e]
    split
    · simp [V6, Pure.ans6, Lx.Tok.written]
      omega
    · rfl
  · have e : Lx.next s[p] ((Lex.L s).drop (p + 1)) = (Lx.number (s[p] :: ((Lex.L s).drop (p + 1)).takeWhile Lx.isW)).map fun n => ⟨2, s[p] :: ((Lex.L s).drop (p + 1)).takeWhile Lx.isW, n⟩ := by
      unfold Lx.next
      rw [hcl]
      rfl
    refine (nextNum4 s p hs hp hcl w).mono ?_
    rintro e' w' ⟨rfl, hb⟩
    refine ⟨?_, hb⟩
    rw [e]
    cases Lx.number (s[p] :: ((Lex.L s).drop (p + 1)).takeWhile Lx.isW) with
    | none => rfl
    | some n =>
      simp [V6, Pure.ans6, Lx.Tok.written]
      omega
  · have e : Lx.next s[p] ((Lex.L s).drop (p + 1)) = (Lx.number (s[p] :: ((Lex.L s).drop (p + 1)).takeWhile Lx.isW)).map fun n => ⟨2, s[p] :: ((Lex.L s).drop (p + 1)).takeWhile Lx.isW, n⟩ := by
      unfold Lx.next
      rw [hcl]
      rfl
    refine (nextNum6 s p hs hp hcl w).mono ?_
    rintro e' w' ⟨rfl, hb⟩
    refine ⟨?_, hb⟩
    rw [e]
    cases Lx.number (s[p] :: ((Lex.L s).drop (p + 1)).takeWhile Lx.isW) with
    | none => rfl
    | some n =>
      simp [V6, Pure.ans6, Lx.Tok.written]
      omega
  · have e : Lx.next s[p] ((Lex.L s).drop (p + 1)) = if (((Lex.L s).drop (p + 1)).dropWhile Lx.isQ).head? = some 34 then some ⟨3, ((Lex.L s).drop (p + 1)).takeWhile Lx.isQ, 0⟩ else none := by
      unfold Lx.next
      rw [hcl]
      rfl
    refine (next7 s p hs hp hcl w).mono ?_
    rintro e' w' ⟨rfl, hb⟩
    refine ⟨?_, hb⟩
    rw [e]
    split
    · simp [V6, Pure.ans6, Lx.Tok.written]
      omega
    · rfl
  · have e : Lx.next s[p] ((Lex.L s).drop (p + 1)) = some ⟨4, [s[p]], 0⟩ := by
      unfold Lx.next
      rw [hcl]
      rfl
    refine (next8 s p hs hp hcl w).mono ?_
    rintro e' w' ⟨rfl, hb⟩
    refine ⟨?_, hb⟩
    rw [e]
    rfl
  · have e : Lx.next s[p] ((Lex.L s).drop (p + 1)) = some ⟨5, [s[p]], 0⟩ := by
      unfold Lx.next
      rw [hcl]
      rfl
    refine (next9 s p hs hp hcl w).mono ?_
    rintro e' w' ⟨rfl, hb⟩
    refine ⟨?_, hb⟩
    rw [e]
    rfl
  · refine (nextBad s p hs hp hcl w).mono ?_
    rintro e' w' ⟨rfl, hb⟩
    refine ⟨?_, hb⟩
    rw [hnone]
    rfl
theorem retargetref07_next.calls (a0 : ByteArray) (a1 : Int) (r1 : Int) (r2 : ByteArray) (r3 : Int) (r4 : Int) (r5 : Int) (r6 : Bool) (w : World) (h : retargetref07_next.f a0 a1 = some (r1, r2, r3, r4, r5, r6)) :
    Calls Tryd.prog 32 #[.string a0, .int .i64 a1] w fun e w' => e = .returned (.tuple #[.agg #[.int .u8 r1, .string r2, .int .i64 r3, .int .i64 r4], .int .i64 r5, .bool r6]) ∧ Below w.heap.size w w' := by
  unfold retargetref07_next.f at h
  split at h
  · rename_i hc
    obtain ⟨p, rfl⟩ : ∃ p : Nat, a1 = (p : Int) := ⟨a1.toNat, by omega⟩
    refine (next_calls a0 p hc.1.2 (by simpa using hc.2) w).mono ?_
    rintro e w' ⟨rfl, hb⟩
    refine ⟨?_, hb⟩
    have h' := Option.some.inj h
    simp only [Int.toNat_natCast] at h'
    rw [V6, h']
  · cases h
end PLex
end Go.Proofs.YtbaojlfnbfbjmaaDoor
