/- What the lexer asks of Go's library, in the print's shape: strings.IndexByte. The lexer's reader in memory; and the walks of skip and word. -/
import Derived.Test.YtbaojlfnbfbjmaaDoorLexShelf
import Derived.Test.YtbaojlfnbfbjmaaDoorLexSpec
import Derived.Test.YtbaojlfnbfbjmaaDoorWWords
import Derived.Test.YtbaojlfnbfbjmaaDoorLexClass
import Derived.Tactics
import Derived.Tactics2
import Derived.WalkKit
import Derived.WalkSpells
import Derived.Deep.LoopGhost
import Derived.Deep.QuietTactic
import Derived.BigQuiet
import Derived.Deep.RegionHeld3
import Derived.Deep.DeepCutAuto
import Derived.Deep.Draws
import Derived.Below
import Derived.Outline
import Derived.Lib.Hide
import Derived.Lib.IndexBytes
namespace Go.Proofs.YtbaojlfnbfbjmaaDoor.PLex
open Go.RowKit Go.Proofs.YtbaojlfnbfbjmaaDoorW.PrintWords
def strings_IndexByte.f (a0 : ByteArray) (a1 : Int) : Option Int := some (Lib.indexByte a0.data.toList a1.toNat.toUInt8)
theorem strings_IndexByte.calls (a0 : ByteArray) (a1 : Int) (r : Int) (w : World) (h : strings_IndexByte.f a0 a1 = some r) :
    Calls Tryd.prog 45 #[.string a0, .int .u8 a1] w fun e w' => e = .returned (.int .i64 r) ∧ Drawn0 w w' := by
  obtain rfl := Option.some.inj h
  exact (Tryd.strings_IndexByte a0 a1 w).mono fun _ _ ⟨he, hw⟩ => ⟨he, hw ▸ Drawn0.refl w⟩
end Go.Proofs.YtbaojlfnbfbjmaaDoor.PLex
namespace Go.Proofs.YtbaojlfnbfbjmaaDoor
open Go.RowKit Go.Proofs.YtbaojlfnbfbjmaaDoorW.PrintWords Go.Proofs.YtbaojlfnbfbjmaaDoorW.PrintLast Go.Proofs.YtbaojlfnbfbjmaaDoorW.PrintMore
set_option linter.unusedVariables false
set_option linter.unusedSimpArgs false
namespace Lex
abbrev L (s : ByteArray) : List UInt8 := s.data.toList
/-- A reader's block. -/
def rdr (s : ByteArray) (i : Int) : Obj := .cells #[.string s, .int .i64 i] 51 (0, 0)
/-- The reader at block g reads s from i on. -/
structure Rd (w : World) (g : Nat) (s : ByteArray) (i : Int) : Prop where mk :: (out : w.heap[g]? = some (rdr s i))
theorem Rd.cell0 {w : World} {g : Nat} {s : ByteArray} {i : Int} (h : Rd w g s i) : w.cell? ⟨g, 0, none⟩ = some (.string s) := by simp [World.cell?, h.out, rdr]
theorem Rd.cell1 {w : World} {g : Nat} {s : ByteArray} {i : Int} (h : Rd w g s i) : w.cell? ⟨g, 1, none⟩ = some (.int .i64 i) := by simp [World.cell?, h.out, rdr]
theorem Rd.free {w : World} {g : Nat} {s : ByteArray} {i : Int} (h : Rd w g s i) (j : Nat) : w.frozen? ⟨g, j, none⟩ = false := by simp [World.frozen?, h.out, rdr]
theorem Rd.lt {w : World} {g : Nat} {s : ByteArray} {i : Int} (h : Rd w g s i) : g < w.heap.size := (Array.getElem?_eq_some_iff.1 h.out).1
theorem Rd.below {w w' : World} {g : Nat} {s : ByteArray} {i : Int} (h : Rd w g s i) (hb : Below w.heap.size w w') : Rd w' g s i := ⟨(hb.block g h.lt).trans h.out⟩
theorem Rd.drewN {w : World} {g : Nat} {s : ByteArray} {i : Int} (h : Rd w g s i) (n : Nat) : Rd (w.drewN n) g s i := ⟨h.out⟩
theorem Rd.set {w : World} {g : Nat} {s : ByteArray} {i : Int} (h : Rd w g s i) (j : Int) : Rd (w.setCell ⟨g, 1, none⟩ (.int .i64 j)) g s j := ⟨by simpa [rdr] using blk_set h.out 1 (.int .i64 j)⟩
theorem Rd.far {w : World} {g : Nat} {s : ByteArray} {i : Int} (h : Rd w g s i) {p : Addr} (hne : g ≠ p.block) (u : Value) : Rd (w.setCell p u) g s i := ⟨blk_far h.out hne u⟩
/-- Only block g, and new blocks, have turned. -/
abbrev Kb (g : Nat) (w w' : World) : Prop := w.grownBy w' (some g)
theorem kb_below {g : Nat} {w w' : World} (h : Below w.heap.size w w') : Kb g w w' := ⟨h.os, h.tape, h.output, h.size, fun k hk _ => h.block k hk⟩
theorem kb_trans {g : Nat} {w w1 w2 : World} (h : Kb g w w1) (k : Kb g w1 w2) : Kb g w w2 := ⟨k.os.trans h.os, k.tape.trans h.tape, k.output.trans h.output, Nat.le_trans h.size k.size, fun i hi hne => (k.block i (Nat.lt_of_lt_of_le hi h.size) hne).trans (h.block i hi hne)⟩
theorem kb_step {g : Nat} {w w1 w2 : World} (h : Kb g w w1) (k : Below w1.heap.size w1 w2) : Kb g w w2 := kb_trans h (kb_below k)
theorem kb_set {g : Nat} {w w1 : World} (h : Kb g w w1) (j : Nat) (u : Value) : Kb g w (w1.setCell ⟨g, j, none⟩ u) :=
  ⟨h.os, h.tape, h.output, by simpa using h.size, fun i hi hne => (Below.heap_setCell w1 ⟨g, j, none⟩ u i (by rintro rfl; exact hne rfl)).trans (h.block i hi hne)⟩
theorem kb_drewN {g : Nat} {w w1 : World} (h : Kb g w w1) (n : Nat) : Kb g w (w1.drewN n) := ⟨h.os, h.tape, h.output, h.size, h.block⟩
theorem kb_drew {g : Nat} {w w1 : World} (h : Kb g w w1) : Kb g w w1.drew := ⟨h.os, h.tape, h.output, h.size, h.block⟩
theorem kb_refl (g : Nat) (w : World) : Kb g w w := World.grownBy.refl _ _
/-- A store over a store into the same cell. -/
theorem set_twice (w : World) (b o : Nat) (v v' : Value) : (w.setCell ⟨b, o, none⟩ v).setCell ⟨b, o, none⟩ v' = w.setCell ⟨b, o, none⟩ v' := by
  unfold World.setCell
  simp only [World.mk.injEq, and_true, true_and]
  apply Array.ext_getElem?
  intro k
  simp only [Array.getElem?_modify]
  by_cases hk : b = k
  · simp only [hk, if_true]
    cases w.heap[k]? with
    | none => rfl
    | some ob => cases ob <;> simp
  · simp only [hk, if_false]
theorem w64_add (a b : Int) : wrap64 (wrap64 a + b) = wrap64 (a + b) := by unfold wrap64; omega
theorem clsI_byte (c : UInt8) : clsI (c.toNat : Int) = (Lx.cls c : Nat) := by simp [clsI]
theorem byte_all {P : UInt8 → Prop} (h : ∀ n : Fin 256, P (UInt8.ofNat n.val)) (c : UInt8) : P c := by
  have := h ⟨c.toNat, c.toNat_lt⟩
  rwa [show UInt8.ofNat (⟨c.toNat, c.toNat_lt⟩ : Fin 256).val = c from UInt8.ofNat_toNat] at this
theorem cls_word : ∀ c : UInt8, Lx.isW c = true → Lx.cls c = 3 ∨ Lx.cls c = 4 ∨ Lx.cls c = 5 := byte_all (by decide +kernel)
theorem cls_noword : ∀ c : UInt8, Lx.isW c = false → Lx.cls c ≠ 3 ∧ Lx.cls c ≠ 4 ∧ Lx.cls c ≠ 5 := byte_all (by decide +kernel)
theorem dropL (s : ByteArray) (i : Nat) (h : i < s.size) : (L s).drop i = s[i] :: (L s).drop (i + 1) := by
  have h' : i < (L s).length := by simpa [L] using h
  exact List.drop_eq_getElem_cons h'
theorem drop_end (s : ByteArray) (i : Nat) (h : s.size ≤ i) : (L s).drop i = [] := List.drop_eq_nil_of_le (by simpa [L] using h)
theorem cls_space : ∀ c : UInt8, Lx.cls c = 1 ↔ c = 32 := byte_all (by decide +kernel)
theorem cls_hash : ∀ c : UInt8, Lx.cls c = 2 ↔ c = 35 := byte_all (by decide +kernel)
theorem ib_tw (c : UInt8) : ∀ l : List UInt8, (Lib.indexByte l c = -1 ∧ (l.takeWhile (· != c)).length = l.length) ∨ (Lib.indexByte l c = ((l.takeWhile (· != c)).length : Nat) ∧ (l.takeWhile (· != c)).length < l.length)
  | [] => .inl ⟨rfl, rfl⟩
  | b :: l => by
    by_cases h : b = c
    · subst h
      right
      simp [Lib.indexByte]
    · have h1 : (b == c) = false := by simpa using h
      have h2 : (b != c) = true := by simpa using h
      rcases ib_tw c l with ⟨e, k⟩ | ⟨e, k⟩
      · left
        simp [Lib.indexByte, h1, h2, e, k, List.takeWhile_cons]
      · right
        rw [List.takeWhile_cons_of_pos (p := fun x => x != c) h2]
        have : ¬ ((List.takeWhile (fun x => x != c) l).length : Int) = -1 := by omega
        simp [Lib.indexByte, h1, e, k, this]
theorem skipLen_space (t : List UInt8) : Lx.skipLen (32 :: t) = Lx.skipLen t + 1 := by simp [Lx.skipLen]
theorem skipLen_hash (t : List UInt8) : Lx.skipLen (35 :: t) = ((35 :: t).takeWhile (· != 10)).length := by
  rw [List.takeWhile_cons_of_pos (by decide)]
  simp [Lx.skipLen]
theorem skipLen_other {c : UInt8} (t : List UInt8) (h1 : c ≠ 32) (h2 : c ≠ 35) : Lx.skipLen (c :: t) = 0 := by simp [Lx.skipLen, h1, h2]
theorem skipLen_after : ∀ l : List UInt8, Lx.skipLen (l.drop (l.takeWhile (· != 10)).length) = 0
  | [] => rfl
  | c :: l => by
    by_cases h : c = 10
    · subst h
      simp [Lx.skipLen]
    · have h2 : (c != 10) = true := by simpa using h
      rw [List.takeWhile_cons_of_pos (p := fun x => x != 10) h2]
      simpa using skipLen_after l
end Lex

namespace PLex
set_option maxHeartbeats 4000000 in
set_option maxRecDepth 100000 in
theorem word_calls (g : Nat) (s : ByteArray) (i : Nat) (w : World) (hs : s.size ≤ 140737488355328) (hi : i < s.size) (h : Lex.Rd w g s i) :
    Calls Tryd.prog 54 #[.pointer (some ⟨g, 0, none⟩)] w fun e w' => ∃ j : Nat, j = i + 1 + (((Lex.L s).drop (i + 1)).takeWhile Lx.isW).length ∧ e = .returned (.string (s.extract i j)) ∧ Lex.Rd w' g s j ∧ w.grownBy w' (some g) := by
  have h0 := h.cell0
  have h1 := h.cell1
  go_enter Tryd.func54, Tryd.ntmps54
  go_wp2
  go_loopg [3] (s.size - (i + 1)) (fun k v3 wr => ∃ j : Nat, v3 = .int .i64 (j : Int) ∧ Aside0 (i + 1 ≤ j ∧ j ≤ s.size ∧ k = s.size - j ∧ (((Lex.L s).drop (i + 1)).takeWhile Lx.isW).length = (j - (i + 1)) + (((Lex.L s).drop j).takeWhile Lx.isW).length) ∧ Aside0 (Lex.Rd wr g s i) ∧ Aside0 (Below w.heap.size w wr))
  case atStart => exact ⟨i + 1, by go_num, ⟨by omega, by omega, rfl, by omega⟩, ⟨h⟩, ⟨Below.refl _ _⟩⟩
  case round =>
    obtain ⟨j, rfl, HJ, HR, HB⟩ := hrel
    have c0 := HR.out.cell0
    have c1 := HR.out.cell1
    clear h0 h1
    have hi0 : (0 : Int) ≤ (i : Int) := by omega
    have hj0 : (0 : Int) ≤ (j : Int) := by omega
    have hij : (i : Int) ≤ (j : Int) := by have := HJ.out; omega
    have hjs : (j : Int) ≤ (s.size : Int) := by have := HJ.out; omega
    have f1 := HR.out.free 1
    by_cases hlt : j < s.size
    · have hj1 : (j : Int) < (s.size : Int) := by omega
      have hc0 := (s[j]).toNat_lt
      have HD := Lib.hid (Lex.dropL s j hlt)
      have hB0 : Below wr.heap.size wr wr.drew := below_drew (Below.refl _ _)
      by_cases hW : Lx.isW s[j] = true
      · have h3 := Lex.cls_word _ hW
        have HW := Aside0.mk hW
        clear hW
        have hix0 : ∀ W, (Instr.index 55 (.agg Lex.classA) (.int .u8 (s[j].toNat : Int))).run Tryd.prog W = .ok (.int .u8 ((Lx.cls s[j] : Nat) : Int)) W := fun W => by rw [Lex.run_index_class _ (by omega) (by omega) W, Lex.clsI_byte]
        rcases h3 with h3 | h3 | h3
        all_goals
          have hix : ∀ W, (Instr.index 55 (.agg Lex.classA) (.int .u8 (s[j].toNat : Int))).run Tryd.prog W = _ := hix0
          rw [h3] at hix
          clear hix0 h3
          go_wp2_with (fail)
          go_region_held3 (fun w' => w'.cell? ⟨g, 0, none⟩ = some (.string s) ∧ w'.cell? ⟨g, 1, none⟩ = some (.int .i64 i) ∧ Below wr.heap.size wr w')
            (first | go_keep | ((try go_split_ands); refine ⟨?_, ?_, ?_⟩ <;> (first | assumption | (simp [*]; done) | exact pw_cell_below hb (by assumption) | exact below_step (by assumption) hb)))
            (first | (go_at_call 30; refine (lexer_class.calls () _ rfl).mono ?_; rintro e w' ⟨rfl, hb⟩))
          all_goals
            go_split_ands
            have hb1 : Below wr.heap.size wr w' := by assumption
            have HB1 := Aside0.mk hb1
            clear hb1
            go_wp2
            go_roundg (s.size - (j + 1))
            case measure => have := HJ.out; omega
            case rel =>
              refine ⟨j + 1, by go_num, ⟨?_⟩, ⟨HR.out.below HB1.out⟩, ⟨below_step HB.out HB1.out⟩⟩
              have hJ := HJ.out
              rw [HD.out, List.takeWhile_cons_of_pos HW.out, List.length_cons] at hJ
              omega
      · replace hW := Bool.eq_false_iff.mpr hW
        obtain ⟨n3, n4, n5⟩ := Lex.cls_noword _ hW
        have HW := Aside0.mk hW
        clear hW
        obtain ⟨cv, hcv⟩ : ∃ cv : Int, cv = ((Lx.cls s[j] : Nat) : Int) := ⟨_, rfl⟩
        have hix : ∀ W, (Instr.index 55 (.agg Lex.classA) (.int .u8 (s[j].toNat : Int))).run Tryd.prog W = .ok (.int .u8 cv) W := fun W => by rw [Lex.run_index_class _ (by omega) (by omega) W, Lex.clsI_byte, hcv]
        have m3 : (cv != 3) = true := bne_iff_ne.mpr (by omega)
        have m4 : (cv != 4) = true := bne_iff_ne.mpr (by omega)
        have m5 : (cv != 5) = true := bne_iff_ne.mpr (by omega)
        clear n3 n4 n5 hcv
        go_wp2_with (fail)
        go_region_held3 (fun w' => w'.cell? ⟨g, 0, none⟩ = some (.string s) ∧ w'.cell? ⟨g, 1, none⟩ = some (.int .i64 i) ∧ Below wr.heap.size wr w')
          (first | go_keep | ((try go_split_ands); refine ⟨?_, ?_, ?_⟩ <;> (first | assumption | (simp [*]; done) | exact pw_cell_below hb (by assumption) | exact below_step (by assumption) hb)))
          (first | (go_at_call 30; refine (lexer_class.calls () _ rfl).mono ?_; rintro e w' ⟨rfl, hb⟩))
        all_goals
          go_split_ands
          have hb1 : Below wr.heap.size wr w' := by assumption
          have HB1 := Aside0.mk hb1
          clear hb1
          have f2 := (HR.out.below HB1.out).free 1
          go_wp2
          go_quiet (fail)
          go_wp2
          go_ret
          refine ⟨j, ?_, by first | rfl | simp, ((HR.out.below HB1.out).drewN _).set _, Lex.kb_set (Lex.kb_drewN (Lex.kb_step (Lex.kb_below HB.out) HB1.out) _) _ _⟩
          have hJ := HJ.out
          rw [HD.out, List.takeWhile_cons_of_neg (by rw [HW.out]; decide)] at hJ
          simp at hJ
          omega
    · have hge : ¬ ((j : Int) < (s.size : Int)) := by omega
      go_wp2
      go_quiet (fail)
      go_wp2
      go_ret
      refine ⟨j, ?_, by first | rfl | simp, (HR.out.drewN _).set _, Lex.kb_set (Lex.kb_drewN (Lex.kb_below HB.out) _) _ _⟩
      have hJ := HJ.out
      rw [Lex.drop_end s j (by omega)] at hJ
      simp at hJ
      omega
set_option maxHeartbeats 4000000 in
set_option maxRecDepth 100000 in
theorem skip_calls (g : Nat) (s : ByteArray) (i : Nat) (w : World) (hs : s.size ≤ 140737488355328) (hi : i ≤ s.size) (h : Lex.Rd w g s i) :
    Calls Tryd.prog 29 #[.pointer (some ⟨g, 0, none⟩)] w fun e w' => e = .returned (.tuple #[]) ∧ Lex.Rd w' g s ((i + Lx.skipLen ((Lex.L s).drop i) : Nat) : Int) ∧ Lex.Kb g w w' := by
  go_enter Tryd.func29, Tryd.ntmps29
  go_wp2
  go_loopg [] (s.size - i) (fun k wr => ∃ j : Nat, Aside0 (i ≤ j ∧ j ≤ s.size ∧ k = s.size - j ∧ i + Lx.skipLen ((Lex.L s).drop i) = j + Lx.skipLen ((Lex.L s).drop j)) ∧ Aside0 (Lex.Rd wr g s j) ∧ Aside0 (Lex.Kb g w wr))
  case atStart => exact ⟨i, ⟨by omega, by omega, rfl, rfl⟩, ⟨h⟩, ⟨Lex.kb_refl _ _⟩⟩
  case round =>
    obtain ⟨j, HJ, HR, HB⟩ := hrel
    have c0 := HR.out.cell0
    have c1 := HR.out.cell1
    have f1 := HR.out.free 1
    have hj0 : (0 : Int) ≤ (j : Int) := by omega
    have hjs : (j : Int) ≤ (s.size : Int) := by have := HJ.out; omega
    have hB0 : Below wr.heap.size wr wr.drew := below_drew (Below.refl _ _)
    have hB1 : Below wr.heap.size wr wr.drew.drew := below_drew hB0
    by_cases hlt : j < s.size
    · have hj1 : (j : Int) < (s.size : Int) := by omega
      have hc0 := (s[j]).toNat_lt
      have HD := Lib.hid (Lex.dropL s j hlt)
      have hix0 : ∀ W, (Instr.index 55 (.agg Lex.classA) (.int .u8 (s[j].toNat : Int))).run Tryd.prog W = .ok (.int .u8 ((Lx.cls s[j] : Nat) : Int)) W := fun W => by rw [Lex.run_index_class _ (by omega) (by omega) W, Lex.clsI_byte]
      by_cases hsp : s[j] = 32
      · have h1 := (Lex.cls_space s[j]).2 hsp
        have HS := Aside0.mk hsp
        clear hsp
        have hix : ∀ W, (Instr.index 55 (.agg Lex.classA) (.int .u8 (s[j].toNat : Int))).run Tryd.prog W = _ := hix0
        rw [h1] at hix
        clear hix0 h1
        go_wp2_with (fail)
        go_region_held3 (fun w' => w'.cell? ⟨g, 0, none⟩ = some (.string s) ∧ w'.cell? ⟨g, 1, none⟩ = some (.int .i64 j) ∧ Below wr.heap.size wr w')
          (first | go_keep | ((try go_split_ands); refine ⟨?_, ?_, ?_⟩ <;> (first | assumption | (simp [*]; done) | exact pw_cell_below hb (by assumption) | exact below_step (by assumption) hb)))
          (first | fail)
        go_wp2_with (fail)
        go_region_held3 (fun w' => w'.cell? ⟨g, 0, none⟩ = some (.string s) ∧ w'.cell? ⟨g, 1, none⟩ = some (.int .i64 j) ∧ Below wr.heap.size wr w')
          (first | go_keep | ((try go_split_ands); refine ⟨?_, ?_, ?_⟩ <;> (first | assumption | (simp [*]; done) | exact pw_cell_below hb (by assumption) | exact below_step (by assumption) hb)))
          (first | (go_at_call 30; refine (lexer_class.calls () _ rfl).mono ?_; rintro e w' ⟨rfl, hb⟩))
        all_goals
          go_split_ands
          have hb1 : Below wr.heap.size wr w' := by assumption
          have HB1 := Aside0.mk hb1
          clear hb1
          have f2 := (HR.out.below HB1.out).free 1
          go_wp2
          go_roundg (s.size - (j + 1))
          case measure => have := HJ.out; omega
          case rel =>
            refine ⟨j + 1, ⟨?_⟩, ⟨?_⟩, ⟨?_⟩⟩
            · have hJ := HJ.out
              rw [HD.out, HS.out, Lex.skipLen_space] at hJ
              omega
            · exact ((HR.out.below HB1.out).set _)
            · exact Lex.kb_set (Lex.kb_step HB.out HB1.out) _ _
      · by_cases hha : s[j] = 35
        · have h1 := (Lex.cls_hash s[j]).2 hha
          have hJ := HJ.out
          have hskip : Lx.skipLen ((Lex.L s).drop j) = (((Lex.L s).drop j).takeWhile (· != 10)).length := by rw [HD.out, hha, Lex.skipLen_hash]
          have hafter := Lex.skipLen_after ((Lex.L s).drop j)
          rw [← hskip, List.drop_drop] at hafter
          have hpos : 1 ≤ Lx.skipLen ((Lex.L s).drop j) := by rw [HD.out, hha, Lex.skipLen_hash, List.takeWhile_cons_of_pos (by decide)]; simp
          have hle : Lx.skipLen ((Lex.L s).drop j) ≤ s.size - j := by
            rw [hskip]
            have := (List.takeWhile_prefix (fun x : UInt8 => x != 10) (l := (Lex.L s).drop j)).length_le
            have e := List.length_drop (i := j) (l := Lex.L s)
            have e2 : (Lex.L s).length = s.size := by simp [Lex.L]
            omega
          have hn : ∃ n : Int, (∀ W, Calls Tryd.prog 45 #[.string (s.extract j s.size), .int .u8 10] W fun e w' => e = .returned (.int .i64 n) ∧ w' = W) ∧ ((n = -1 ∧ Lx.skipLen ((Lex.L s).drop j) = s.size - j) ∨ n = (Lx.skipLen ((Lex.L s).drop j) : Nat)) := by
            refine ⟨_, fun W => Tryd.strings_IndexByte _ _ W, ?_⟩
            have e1 : (s.extract j s.size).data.toList = (Lex.L s).drop j := by
              exact Lib.extract_to_end s j
            rw [e1, hskip]
            rcases Lex.ib_tw 10 ((Lex.L s).drop j) with ⟨a, b⟩ | ⟨a, b⟩
            · left
              refine ⟨a, ?_⟩
              rw [b]
              simp [Lex.L]
            · right
              exact a
          obtain ⟨n, hI, hn⟩ := hn
          obtain ⟨m, hm⟩ : ∃ m, m = Lx.skipLen ((Lex.L s).drop j) := ⟨_, rfl⟩
          rw [← hm] at hpos hle hafter hn
          have HM := Lib.hid hm
          have HA := Lib.hid hafter
          have hm0 : 1 ≤ m := hpos
          clear hm hafter hskip hJ hha
          have hix : ∀ W, (Instr.index 55 (.agg Lex.classA) (.int .u8 (s[j].toNat : Int))).run Tryd.prog W = _ := hix0
          rw [h1] at hix
          clear hix0 h1
          have htail : ∀ W n', Below wr.heap.size wr W → Lex.Rd ((W.drewN n').setCell ⟨g, 1, none⟩ (.int .i64 ((j + m : Nat) : Int))) g s ((j + m : Nat) : Int) ∧ Lex.Kb g w ((W.drewN n').setCell ⟨g, 1, none⟩ (.int .i64 ((j + m : Nat) : Int))) := fun W n' hb =>
            ⟨((HR.out.below hb).drewN n').set _, Lex.kb_set (Lex.kb_drewN (Lex.kb_step HB.out hb) _) _ _⟩
          have HT := Aside0.mk htail
          clear htail
          rcases hn with ⟨rfl, hn⟩ | rfl
          · have HN := Aside0.mk hn
            clear hn
            go_wp2_with (fail)
            go_region_held3 (fun w' => w'.cell? ⟨g, 0, none⟩ = some (.string s) ∧ w'.cell? ⟨g, 1, none⟩ = some (.int .i64 j) ∧ Below wr.heap.size wr w')
              (first | go_keep | ((try go_split_ands); refine ⟨?_, ?_, ?_⟩ <;> (first | assumption | (simp [*]; done) | exact pw_cell_below hb (by assumption) | exact below_step (by assumption) hb)))
              (first | fail)
            go_wp2_with (fail)
            go_region_held3 (fun w' => w'.cell? ⟨g, 0, none⟩ = some (.string s) ∧ w'.cell? ⟨g, 1, none⟩ = some (.int .i64 j) ∧ Below wr.heap.size wr w')
              (first | go_keep | ((try go_split_ands); refine ⟨?_, ?_, ?_⟩ <;> (first | assumption | (simp [*]; done) | exact pw_cell_below hb (by assumption) | exact below_step (by assumption) hb)))
              (first | (go_at_call 30; refine (lexer_class.calls () _ rfl).mono ?_; rintro e w' ⟨rfl, hb⟩))
            all_goals
              go_split_ands
              have hb1 : Below wr.heap.size wr w' := by assumption
              have hB2 : Below wr.heap.size wr w'.drew := below_drew hb1
              go_wp2_with (fail)
              go_region_held3 (fun w' => w'.cell? ⟨g, 0, none⟩ = some (.string s) ∧ w'.cell? ⟨g, 1, none⟩ = some (.int .i64 j) ∧ Below wr.heap.size wr w')
                (first | go_keep | ((try go_split_ands); refine ⟨?_, ?_, ?_⟩ <;> (first | assumption | (simp [*]; done) | exact pw_cell_below hb (by assumption) | exact below_step (by assumption) hb)))
                (first | (go_at_call 45; refine (hI _).mono ?_; rintro e w'' ⟨rfl, rfl⟩))
              have f2 := (HR.out.below hb1).free 1
              have HB1 := Aside0.mk hb1
              go_split_ands
              go_wp2
              go_roundg (s.size - (j + m))
              case measure => have := HJ.out; omega
              case rel =>
                have hJ := HJ.out
                refine ⟨j + m, ⟨?_⟩, ⟨?_⟩, ⟨?_⟩⟩
                · rw [HA.out, ← HM.out] at *
                  omega
                · have e : ((j + m : Nat) : Int) = (s.size : Int) := by have := HN.out; omega
                  rw [e]
                  exact ⟨((HR.out.below HB1.out).set _).out⟩
                · exact Lex.kb_set (Lex.kb_drew (Lex.kb_step HB.out HB1.out)) _ _
          · go_wp2_with (fail)
            go_region_held3 (fun w' => w'.cell? ⟨g, 0, none⟩ = some (.string s) ∧ w'.cell? ⟨g, 1, none⟩ = some (.int .i64 j) ∧ Below wr.heap.size wr w')
              (first | go_keep | ((try go_split_ands); refine ⟨?_, ?_, ?_⟩ <;> (first | assumption | (simp [*]; done) | exact pw_cell_below hb (by assumption) | exact below_step (by assumption) hb)))
              (first | fail)
            go_wp2_with (fail)
            go_region_held3 (fun w' => w'.cell? ⟨g, 0, none⟩ = some (.string s) ∧ w'.cell? ⟨g, 1, none⟩ = some (.int .i64 j) ∧ Below wr.heap.size wr w')
              (first | go_keep | ((try go_split_ands); refine ⟨?_, ?_, ?_⟩ <;> (first | assumption | (simp [*]; done) | exact pw_cell_below hb (by assumption) | exact below_step (by assumption) hb)))
              (first | (go_at_call 30; refine (lexer_class.calls () _ rfl).mono ?_; rintro e w' ⟨rfl, hb⟩))
            all_goals
              go_split_ands
              have hb1 : Below wr.heap.size wr w' := by assumption
              have hB2 : Below wr.heap.size wr w'.drew := below_drew hb1
              go_wp2_with (fail)
              go_region_held3 (fun w' => w'.cell? ⟨g, 0, none⟩ = some (.string s) ∧ w'.cell? ⟨g, 1, none⟩ = some (.int .i64 j) ∧ Below wr.heap.size wr w')
                (first | go_keep | ((try go_split_ands); refine ⟨?_, ?_, ?_⟩ <;> (first | assumption | (simp [*]; done) | exact pw_cell_below hb (by assumption) | exact below_step (by assumption) hb)))
                (first | (go_at_call 45; refine (hI _).mono ?_; rintro e w'' ⟨rfl, rfl⟩))
              have f2 := (HR.out.below hb1).free 1
              have HB1 := Aside0.mk hb1
              go_split_ands
              have hjm : (j : Int) + (m : Int) ≤ 9223372036854775807 := by omega
              go_wp2
              go_roundg (s.size - (j + m))
              case measure => have := HJ.out; omega
              case rel =>
                have hJ := HJ.out
                refine ⟨j + m, ⟨?_⟩, ⟨?_⟩, ⟨?_⟩⟩
                · rw [HA.out, ← HM.out] at *
                  omega
                · rw [show ((j + m : Nat) : Int) = (j : Int) + (m : Int) by omega]
                  exact ⟨((HR.out.below HB1.out).set _).out⟩
                · exact Lex.kb_set (Lex.kb_drew (Lex.kb_step HB.out HB1.out)) _ _
        · have n1 : ¬ Lx.cls s[j] = 1 := fun e => hsp ((Lex.cls_space s[j]).1 e)
          have n2 : ¬ Lx.cls s[j] = 2 := fun e => hha ((Lex.cls_hash s[j]).1 e)
          have HN := Aside0.mk (Lex.skipLen_other ((Lex.L s).drop (j + 1)) hsp hha)
          obtain ⟨cv, hcv⟩ : ∃ cv : Int, cv = ((Lx.cls s[j] : Nat) : Int) := ⟨_, rfl⟩
          have hix : ∀ W, (Instr.index 55 (.agg Lex.classA) (.int .u8 (s[j].toNat : Int))).run Tryd.prog W = .ok (.int .u8 cv) W := fun W => by rw [hix0 W, hcv]
          have m1 : (cv == 1) = false := beq_eq_false_iff_ne.mpr (by omega)
          have m2 : (cv == 2) = false := beq_eq_false_iff_ne.mpr (by omega)
          clear n1 n2 hcv hsp hha hix0
          go_wp2_with (fail)
          go_region_held3 (fun w' => w'.cell? ⟨g, 0, none⟩ = some (.string s) ∧ w'.cell? ⟨g, 1, none⟩ = some (.int .i64 j) ∧ Below wr.heap.size wr w')
            (first | go_keep | ((try go_split_ands); refine ⟨?_, ?_, ?_⟩ <;> (first | assumption | (simp [*]; done) | exact pw_cell_below hb (by assumption) | exact below_step (by assumption) hb)))
            (first | fail)
          go_wp2_with (fail)
          go_region_held3 (fun w' => w'.cell? ⟨g, 0, none⟩ = some (.string s) ∧ w'.cell? ⟨g, 1, none⟩ = some (.int .i64 j) ∧ Below wr.heap.size wr w')
            (first | go_keep | ((try go_split_ands); refine ⟨?_, ?_, ?_⟩ <;> (first | assumption | (simp [*]; done) | exact pw_cell_below hb (by assumption) | exact below_step (by assumption) hb)))
            (first | (go_at_call 30; refine (lexer_class.calls () _ rfl).mono ?_; rintro e w' ⟨rfl, hb⟩))
          all_goals
            go_split_ands
            have hb1 : Below wr.heap.size wr w' := by assumption
            have HB1 := Aside0.mk hb1
            clear hb1
            go_wp2
            refine bodyPost_ret (results_none rfl _ _ _) rfl ?_
            refine ⟨rfl, ?_, Lex.kb_step HB.out HB1.out⟩
            have hJ := HJ.out
            rw [HD.out, HN.out] at hJ
            have e : ((i + Lx.skipLen ((Lex.L s).drop i) : Nat) : Int) = (j : Int) := by omega
            rw [e]
            exact HR.out.below HB1.out
    · have hge : ¬ ((j : Int) < (s.size : Int)) := by omega
      go_wp2_with (fail)
      go_region_held3 (fun w' => w'.cell? ⟨g, 0, none⟩ = some (.string s) ∧ w'.cell? ⟨g, 1, none⟩ = some (.int .i64 j) ∧ Below wr.heap.size wr w')
        (first | go_keep | ((try go_split_ands); refine ⟨?_, ?_, ?_⟩ <;> (first | assumption | (simp [*]; done) | exact pw_cell_below hb (by assumption) | exact below_step (by assumption) hb)))
        (first | fail)
      go_wp2
      go_end0
      refine ⟨rfl, ?_, Lex.kb_drew HB.out⟩
      have hJ := HJ.out
      rw [Lex.drop_end s j (by omega)] at hJ
      have e : ((i + Lx.skipLen ((Lex.L s).drop i) : Nat) : Int) = (j : Int) := by simp [Lx.skipLen] at hJ; omega
      rw [e]
      exact ⟨HR.out.out⟩
end PLex
end Go.Proofs.YtbaojlfnbfbjmaaDoor
