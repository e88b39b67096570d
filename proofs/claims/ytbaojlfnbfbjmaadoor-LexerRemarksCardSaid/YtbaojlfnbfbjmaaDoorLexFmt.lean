/- internal/strconv.formatBits at base 16. -/
import Derived.Test.YtbaojlfnbfbjmaaDoorLexLaid
import Derived.Test.YtbaojlfnbfbjmaaDoorLexNum
import Derived.Test.YtbaojlfnbfbjmaaDoorWWords
import Derived.IntWalk
import Derived.RegionTactic
import Derived.Lib.ItoaWalk
import Derived.Laws.IdiomStrings
import Derived.Laws.Bits64b
import Derived.Laws.Slices
import Derived.WalkKit
import Derived.BigCall
import Derived.BigGuard
namespace Go.Proofs.YtbaojlfnbfbjmaaDoor
open Go.RowKit Go.Proofs Go.Proofs.YtbaojlfnbfbjmaaDoorW.PrintWords
set_option linter.unusedVariables false
set_option linter.unusedSimpArgs false
namespace Lex
def zeros65 : Array Value := Array.replicate 65 (.int .u8 0)
/-- The digits of all bases. -/
def digs : ByteArray := ⟨#[48, 49, 50, 51, 52, 53, 54, 55, 56, 57, 97, 98, 99, 100, 101, 102, 103, 104, 105, 106, 107, 108, 109, 110, 111, 112, 113, 114, 115, 116, 117, 118, 119, 120, 121, 122]⟩
theorem digs_at : ∀ d, d < 16 → digs.data[d]? = some (Lx.dgh d) := by decide
/-- The state of the digits that are laid so far: u' is to be done, the cells from j on hold the others. -/
structure Fmt (u : Nat) (w0 wr : World) (g0 : Nat) (T : TypeId) (j u' : Nat) : Prop where
  lo : 50 ≤ j
  hi : j ≤ 65
  small : u' < 16 ^ (j - 49)
  row : ∃ (cs : Array Value) (tail : List UInt8), wr.heap[g0]? = some (.cells cs T (0, 0)) ∧ cs.size = 65 ∧ tail.length = 65 - j ∧ (∀ x (hx : x < tail.length), cs[j + x]? = some (.int .u8 (tail[x].toNat : Int))) ∧ Lx.fmtB Lx.dgh 16 u = Lx.fmtB Lx.dgh 16 u' ++ tail
  below : Below w0.heap.size w0 wr
theorem pow_step (n u : Nat) (h : u < 16 ^ (n + 1)) : u / 16 < 16 ^ n := by
  rw [Nat.pow_succ] at h
  exact Nat.div_lt_of_lt_mul (by omega)
theorem row_step {cs : Array Value} {tail : List UInt8} {m : Nat} (h65 : m + 1 ≤ 65) (hcs : cs.size = 65) (htl : tail.length = 65 - (m + 1)) (c : UInt8)
    (hcells : ∀ (x : Nat) (hx : x < tail.length), cs[m + 1 + x]? = some (Value.int .u8 (tail[x].toNat : Int))) :
    ∀ (x : Nat) (hx : x < (c :: tail).length), (cs.setIfInBounds m (.int .u8 (c.toNat : Int)))[m + x]? = some (.int .u8 ((c :: tail)[x].toNat : Int)) := by
  intro x hx
  cases x with
  | zero => simp [show m < cs.size by omega]
  | succ x =>
    rw [Array.getElem?_setIfInBounds_ne (by omega), show m + (x + 1) = m + 1 + x by omega, hcells x (by simpa using hx)]
    rfl
theorem Fmt.step {u : Nat} {w0 wr : World} {g0 : Nat} {T : TypeId} {m u' : Nat} (h : Fmt u w0 wr g0 T (m + 1) u') (hge : 16 ≤ u') (hg : w0.heap.size ≤ g0) :
    Fmt u w0 (wr.setCell ⟨g0, m, none⟩ (.int .u8 ((Lx.dgh (u' % 16)).toNat : Int))) g0 T m (u' / 16) := by
  obtain ⟨h50, h65, hsm, ⟨cs, tail, hrow, hcs, htl, hcells, hfmt⟩, hb⟩ := h
  have h51 : 51 ≤ m + 1 := by
    by_cases e : m = 49
    · subst e
      have : u' < 16 ^ 1 := hsm
      omega
    · omega
  refine ⟨by omega, by omega, pow_step _ _ (by rw [show m - 49 + 1 = m + 1 - 49 by omega]; exact hsm), ⟨cs.setIfInBounds m _, Lx.dgh (u' % 16) :: tail, blk_set hrow m _, by simpa using hcs, by simp; omega, row_step h65 hcs htl _ hcells, ?_⟩, hb.setCell hg _⟩
  rw [hfmt, Lx.fmtB, dif_neg (by omega)]
  simp
end Lex
namespace PLex
set_option maxHeartbeats 4000000 in
set_option maxRecDepth 100000 in
theorem pow2_calls (w : World) : Calls Tryd.prog 91 #[.int .i64 16] w fun e w' => e = .returned (.bool true) ∧ w' = w := by
  have hx : (bits .and .i64 16 15 == 0) = true := by decide +kernel
  go_enter Tryd.func91, Tryd.ntmps91
  go_wp2
  go_ret
  exact ⟨by rw [← hx]; rfl, rfl⟩
set_option maxHeartbeats 4000000 in
set_option maxRecDepth 100000 in
theorem formatBits16_calls (u : Nat) (hu : u < 9223372036854775808) (w : World) (hc : w.cell? ⟨5, 15, none⟩ = some (.int .u8 4)) :
    Calls Tryd.prog 82 #[.slice none 0 0, .int .u64 u, .int .i64 16, .bool false, .bool false] w fun e w' => ∃ v, e = .returned (.tuple #[v, .string ⟨(Lx.fmtB Lx.dgh 16 u).toArray⟩]) ∧ Below w.heap.size w w' := by
  obtain ⟨U, hU⟩ : ∃ U : Int, U = (u : Int) := ⟨_, rfl⟩
  have hU0 : 0 ≤ U := by omega
  have hU1 : U < 9223372036854775808 := by omega
  have HU := Aside0.mk hU
  have HUU := Aside0.mk hu
  rw [← hU]
  clear hU hu
  go_enter Tryd.func82, Tryd.ntmps82
  go_wp2_with (first
    | ((with_reducible refine gate_dst (N := 12) rfl ?_); refine box_event rfl (N := 12) rfl (cs := Lex.zeros65) (t := 115) ?hr ?_; (case hr => first | (go_simp; done) | (go_simp; rfl)); intro g0 hg w1 hbox hb; have HG := Aside0.mk hg; have HX := Aside0.mk hbox; have HB := Aside0.mk hb; have hc1 := pw_cell_below hb hc; clear hg hbox hb hc)
    | (go_at_call 91; refine (pow2_calls _).mono ?_; rintro e w' ⟨rfl, rfl⟩)
    | (go_at_call 92; refine (trailing_calls _ (by assumption)).mono ?_; rintro e w' ⟨rfl, rfl⟩))
  rename World => W0
  go_loopg [13, 1] 65 (fun k vi vu wr => ∃ (j u' : Nat), vi = .int .i64 (j : Int) ∧ vu = .int .u64 (u' : Int) ∧ Aside0 (k = j) ∧ Aside0 (Lex.Fmt u w wr g0 115 j u'))
  case atStart =>
    refine ⟨65, u, by go_num, by rw [HU.out], ⟨rfl⟩, ⟨?_, ?_, ?_, ?_, HB.out⟩⟩
    · decide
    · decide
    · have := HUU.out
      calc u < 9223372036854775808 := this
        _ ≤ 16 ^ (65 - 49) := by decide
    · exact ⟨Lex.zeros65, [], HX.out, rfl, rfl, by simp, by simp⟩
  case round =>
    obtain ⟨j, u', rfl, rfl, HK, HF⟩ := hrel
    have hF := HF.out
    obtain ⟨cs, tail, hrow, hcs, htl, hcells, hfmt⟩ := hF.row
    have h50 := hF.lo
    have h65 := hF.hi
    have hsm := hF.small
    have hu64 : u' < 18446744073709551616 := by
      refine Nat.lt_of_lt_of_le hsm (Nat.le_trans (Nat.pow_le_pow_right (by decide) (show j - 49 ≤ 16 by omega)) (by decide))
    obtain ⟨m, rfl⟩ : ∃ m, j = m + 1 := ⟨j - 1, by omega⟩
    have hm : m < cs.size := by omega
    have hcz : wr.cell? ⟨g0, m, none⟩ = some cs[m] := by rw [blk_cell hrow m, Array.getElem?_eq_getElem hm]
    have hfz := blk_frozen hrow m
    have hw1 : IntKind.i64.wrap ((m : Int) + 1 - 1) = (m : Int) := by rw [show (m : Int) + 1 - 1 = m by omega]; exact IntWalk.i64_in _ (by omega)
    have hm0 : (0 : Int) ≤ (m : Int) := by omega
    have hm1 : (m : Int) < 65 := by omega
    by_cases hge : 16 ≤ u'
    · have hand : bits .and .u64 (u' : Int) 15 = ((u' % 16 : Nat) : Int) := by
        have h := bits_and_u64_nat u' 15 hu64 (by decide)
        rw [show (15 : Nat) = 2 ^ 4 - 1 from rfl, Nat.and_two_pow_sub_one_eq_mod] at h
        exact h
      have hd16 := Nat.mod_lt u' (show 0 < 16 by decide)
      have hix : ∀ W, (Instr.index 9 (.string Lex.digs) (.int .u64 ((u' % 16 : Nat) : Int))).run Tryd.prog W = .ok (.int .u8 ((Lx.dgh (u' % 16)).toNat : Int)) W := fun W => by
        rw [run_index_string W 9 Lex.digs .u64 _ Tryd.underlying9]
        have hsz : Lex.digs.size = 36 := rfl
        rw [dif_pos (by omega)]
        congr 3
        have := Lex.digs_at (u' % 16) hd16
        obtain ⟨_, h2⟩ := Array.getElem?_eq_some_iff.1 this
        exact congrArg _ h2
      unfold Lex.digs at hix
      have hgeI : (16 : Int) ≤ (u' : Int) := by omega
      have HGE := Aside0.mk hge
      clear hge
      obtain ⟨d, hd⟩ : ∃ d : Int, d = ((u' % 16 : Nat) : Int) := ⟨_, rfl⟩
      rw [← hd] at hix hand
      clear hd hsm hcells hfmt htl hrow hd16
      go_wp2
      go_roundg m
      case measure => have := HK.out; omega
      case rel =>
        refine ⟨m, u' / 16, rfl, by go_num, ⟨rfl⟩, ⟨?_⟩⟩
        exact HF.out.step HGE.out (by have := HG.out; omega)
    · have hlt : u' < 16 := by omega
      have hix : ∀ W, (Instr.index 9 (.string Lex.digs) (.int .u64 (u' : Int))).run Tryd.prog W = .ok (.int .u8 ((Lx.dgh u').toNat : Int)) W := fun W => by
        rw [run_index_string W 9 Lex.digs .u64 _ Tryd.underlying9]
        have hsz : Lex.digs.size = 36 := rfl
        rw [dif_pos (by omega)]
        congr 3
        have := Lex.digs_at u' hlt
        obtain ⟨_, h2⟩ := Array.getElem?_eq_some_iff.1 this
        exact congrArg _ h2
      unfold Lex.digs at hix
      have hrow2 := blk_set hrow m (.int .u8 ((Lx.dgh u').toNat : Int))
      have hcells2 := Lex.row_step h65 hcs htl (Lx.dgh u') hcells
      have hlen : (Lx.dgh u' :: tail).length = 65 - m := by simp; omega
      have hal : Tryd.prog.arrayLen 115 = 65 := by simp [Program.arrayLen, Tryd.underlying115]
      have hsl : ∀ W, (Instr.sliceAt 115 (.pointer (some ⟨g0, 0, none⟩)) (some (.int .i64 (m : Int))) none none).run Tryd.prog W = .ok (.slice (some ⟨g0, m, none⟩) (65 - m) (65 - m)) W := fun W => by
        rw [run_sliceAt_array_l W 115 ⟨g0, 0, none⟩ (by simp [Program.arrayLen, Program.elem, Tryd.underlying115]) .i64 (m : Int) (by omega) (by rw [hal]; omega), hal]
        go_simp
        omega
      have hcv : (convert 42 9 (.slice (some ⟨g0, m, none⟩) (65 - m) (65 - m))).run Tryd.prog (wr.setCell ⟨g0, m, none⟩ (.int .u8 ((Lx.dgh u').toNat : Int))) = .ok (.string ⟨(Lx.dgh u' :: tail).toArray⟩) (wr.setCell ⟨g0, m, none⟩ (.int .u8 ((Lx.dgh u').toNat : Int))) := by
        have h := run_convert_bytes_back (P := Tryd.prog) (wr.setCell ⟨g0, m, none⟩ (.int .u8 ((Lx.dgh u').toNat : Int))) 42 9 5 ⟨g0, m, none⟩ (65 - m) (Lx.dgh u' :: tail) Tryd.underlying42 Tryd.underlying5 Tryd.underlying9 (fun x hx => by
          rw [Lib.add_plain, blk_cell hrow2 (m + x)]
          exact hcells2 x hx)
        rw [hlen] at h
        exact h
      have hltI : (u' : Int) < 16 := by omega
      have hend : Lx.fmtB Lx.dgh 16 u = Lx.dgh u' :: tail := by rw [hfmt, Lx.fmtB, dif_pos (.inl hlt)]; rfl
      have HEND := Aside0.mk hend
      have hbel := hF.below.setCell (p := ⟨g0, m, none⟩) (show w.heap.size ≤ g0 by have := HG.out; omega) (.int .u8 ((Lx.dgh u').toNat : Int))
      have HBEL := Aside0.mk hbel
      clear hend hsm hcells hfmt htl hrow hrow2 hcells2 hlen hal hge hbel hlt
      go_wp2
      go_ret2
      refine ⟨?_, HBEL.out⟩
      first | (rw [HEND.out]; rfl) | exact ⟨_, by rw [HEND.out]; rfl⟩ | exact ⟨_, by rw [HEND.out]⟩
end PLex
end Go.Proofs.YtbaojlfnbfbjmaaDoor
