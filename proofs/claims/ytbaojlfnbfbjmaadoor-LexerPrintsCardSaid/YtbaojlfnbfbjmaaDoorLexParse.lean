/- internal/strconv.ParseUint at base 16. What the start-up code lays that the lexer reads, and what it keeps. internal/strconv.formatBits at base 16. strconv.ParseInt and FormatInt, at base 10 and 16, as the lexer asks for them. -/
import Derived.Test.YtbaojlfnbfbjmaaDoorLexShelf
import Derived.Test.YtbaojlfnbfbjmaaDoorLexSpec
import Derived.Lib.Strings
import Derived.Lib.Walk
import Derived.Lib.ConvBytes
import Derived.Lib.AtoiAllMem
import Derived.Lib.Hide
import Derived.Laws.Strings3
import Derived.Laws.Closers25
import Derived.Laws.Closers25b
import Derived.WalkKit
import Derived.BigCall
import Derived.BigGuard
import Derived.Lib.AppendIntMem
import Derived.Test.YtbaojlfnbfbjmaaDoorWWords
import Derived.IntWalk
import Derived.RegionTactic
import Derived.Lib.ItoaWalk
import Derived.Laws.IdiomStrings
import Derived.Laws.Bits64b
import Derived.Laws.Slices
import Derived.Lib.ParseIntBMem
import Derived.Lib.ParseIntBTie
import Derived.Lib.IfaceNeq
namespace Go.Proofs.YtbaojlfnbfbjmaaDoor
open Go.RowKit Go.Proofs
set_option linter.unusedVariables false
set_option linter.unusedSimpArgs false
namespace Lex
theorem byte_allX {p : UInt8 → Prop} [DecidablePred p] (h : ∀ n : Fin 256, p (UInt8.ofNat n)) (c : UInt8) : p c := by
  have := h ⟨c.toNat, c.toNat_lt⟩
  simpa using this
/-- The value of a digit of base 16, as ParseUint takes it. -/
def hx (c : UInt8) : Option Nat := if 48 ≤ c.toNat ∧ c.toNat ≤ 57 then some (c.toNat - 48) else if 97 ≤ c.toNat ∧ c.toNat ≤ 102 then some (c.toNat - 87) else if 65 ≤ c.toNat ∧ c.toNat ≤ 70 then some (c.toNat - 55) else none
/-- ParseUint(s, 16, 64) behind its test for the empty string. -/
def hexU (acc : Nat) : List UInt8 → Lib.NumEnd Nat
  | [] => .ok acc
  | c :: r => match hx c with
    | none => Lib.NumEnd.syntax
    | some d => if 1152921504606846976 ≤ acc then .range else hexU (acc * 16 + d) r
/-- The low letter of a byte: the bit 32 set. -/
def low (c : UInt8) : Nat := c.toNat ||| 32
theorem low_dig : ∀ c : UInt8, 48 ≤ c.toNat ∧ c.toNat ≤ 57 ∨ (97 ≤ low c ∧ low c ≤ 102 ∧ c.toNat ≠ 95 ∧ hx c = some (low c - 87)) ∨ ((low c < 97 ∨ 102 < low c) ∧ hx c = none) := byte_allX (by unfold low hx; decide +kernel)
theorem low_lt : ∀ c : UInt8, low c < 256 := byte_allX (by unfold low; decide +kernel)
theorem bits_low (c : UInt8) : bits .or .u8 (c.toNat : Int) 32 = (low c : Int) := by
  unfold low
  revert c
  exact byte_allX (by decide +kernel)
end Lex
namespace PLex
set_option maxHeartbeats 32000000 in
set_option maxRecDepth 100000 in
theorem parseUint16_calls (t : ByteArray) (hne : t.size ≠ 0) (hmax : t.size ≤ 9223372036854775806) (w : World) :
    Calls Tryd.prog 74 #[.string t, .int .i64 16, .int .i64 64] w fun e w' => e = .returned (Lib.uintTuple 93 (Lex.hexU 0 t.data.toList)) ∧ w' = Lib.bytesWorld w 5 t := by
  have hemp : t.toList.isEmpty = false := by
    rw [← decide_eq_emptyBytes]
    exact decide_eq_false (fun h => hne (by rw [h]; rfl))
  have hcv := Lib.run_convert_string_bytes (P := Tryd.prog) w 9 42 5 t (u := .string) Tryd.underlying9 Tryd.underlying42 Tryd.underlying5
  have hB : ∀ j, j < t.size → (Lib.bytesWorld w 5 t).cell? ⟨w.heap.size, j, none⟩ = some (.int .u8 (t.data.toList.getD j 0).toNat) := fun j hj => Lib.bytesWorld_cell w 5 t j hj
  obtain ⟨W1, hW1⟩ : ∃ W1, W1 = Lib.bytesWorld w 5 t := ⟨_, rfl⟩
  rw [← hW1] at hcv hB ⊢
  clear hW1
  obtain ⟨bs, hL⟩ : ∃ bs, bs = t.data.toList := ⟨_, rfl⟩
  have hLn : bs.length = t.size := by rw [hL, Lib.size_eq]
  rw [← hL] at hB ⊢
  clear hL
  have hmv : IntKind.u64.wrap (IntKind.u64.wrap 18446744073709551616 - 1) = 18446744073709551615 := by
    rw [IntKind.wrap_u64, IntKind.wrap_u64]
    decide
  go_enter Tryd.func74, Tryd.ntmps74
  go_wp2
  go_loop [12, 13, 101] (fun vu vn vi => ∃ (k acc : Nat) (a : Int), vu = .bool false ∧ vn = .int .u64 a ∧ vi = .int .i64 k ∧ k ≤ t.size ∧ Hid (a = (acc : Int) ∧ acc < 18446744073709551616 ∧ Lex.hexU 0 bs = Lex.hexU acc (bs.drop k)))
    (fun _ _ vi => t.size - (intOf vi).toNat)
  case atStart => exact ⟨0, 0, 0, rfl, rfl, rfl, by omega, rfl, by omega, rfl⟩
  case round =>
    obtain ⟨k, acc, a, rfl, rfl, rfl, hk, hh⟩ := hrel
    obtain ⟨ha, hacc, hdec⟩ := hh.out
    clear hh
    have a0 : 0 ≤ a := by omega
    have a1 : a < 18446744073709551616 := by omega
    by_cases hkn : k < t.size
    · have hc := hB k hkn
      have hdrop : bs.drop k = bs[k]'(by omega) :: bs.drop (k + 1) := List.drop_eq_getElem_cons (by omega)
      have hget : bs.getD k 0 = bs[k]'(by omega) := by simp [List.getD, List.getElem?_eq_getElem (show k < bs.length by omega)]
      rw [hdrop] at hdec
      rw [hget] at hc
      generalize bs[k]'(by omega) = c at hc hdec
      have hc256 : c.toNat < 256 := c.toNat_lt
      clear hB hdrop hget
      have hlow := Lex.bits_low c
      have hl256 := Lex.low_lt c
      have hcases := Lex.low_dig c
      obtain ⟨l, hl⟩ : ∃ l : Int, l = (Lex.low c : Int) := ⟨_, rfl⟩
      rw [← hl] at hlow
      rcases hcases with ⟨hd0, hd1⟩ | ⟨hd0, hd1, h95, hd⟩ | ⟨hd0, hd⟩
      · have hd : Lex.hx c = some (c.toNat - 48) := by unfold Lex.hx; rw [if_pos ⟨hd0, hd1⟩]
        by_cases hcut : 1152921504606846976 ≤ acc
        · have hF : Lex.hexU acc (c :: bs.drop (k + 1)) = .range := by simp [Lex.hexU, hd, hcut]
          rw [hF] at hdec
          have icut : 1152921504606846976 ≤ a := by omega
          clear hcut hacc hF ha hl hd
          go_wp2
          go_ret2
          exact ⟨rfl, rfl⟩
        · have hF : Lex.hexU acc (c :: bs.drop (k + 1)) = Lex.hexU (acc * 16 + (c.toNat - 48)) (bs.drop (k + 1)) := by simp [Lex.hexU, hd, hcut]
          have HN : Hid (a * 16 + ((c.toNat : Int) - 48) = ((acc * 16 + (c.toNat - 48) : Nat) : Int) ∧ acc * 16 + (c.toNat - 48) < 18446744073709551616 ∧ Lex.hexU 0 bs = Lex.hexU (acc * 16 + (c.toNat - 48)) (bs.drop (k + 1))) := Lib.hid ⟨by omega, by omega, hdec.trans hF⟩
          have icut : a < 1152921504606846976 := by omega
          have iov : a * 16 + ((c.toNat : Int) - 48) < 18446744073709551616 := by omega
          clear hcut hacc hF hdec ha hl hd
          go_wp2
          refine ⟨⟨k + 1, acc * 16 + (c.toNat - 48), a * 16 + ((c.toNat : Int) - 48), rfl, (by first | rfl | (congr 1; omega)), (by first | rfl | (congr 1; omega)), by omega, HN⟩, by simp [intOf]; omega⟩
      · have il0 : 97 ≤ l := by omega
        have i95 : ¬ (c.toNat : Int) = 95 := by omega
        have il1 : l ≤ 102 := by omega
        have hndig : ¬ (48 ≤ c.toNat ∧ c.toNat ≤ 57) := by
          intro h
          have : Lex.hx c = some (c.toNat - 48) := by unfold Lex.hx; rw [if_pos h]
          rw [this] at hd
          have := Option.some.inj hd
          omega
        by_cases hcut : 1152921504606846976 ≤ acc
        · have hF : Lex.hexU acc (c :: bs.drop (k + 1)) = .range := by simp [Lex.hexU, hd, hcut]
          rw [hF] at hdec
          have icut : 1152921504606846976 ≤ a := by omega
          clear hcut hacc hF ha hl hd hd0 hd1 hl256
          go_wp2_with (go_at_call 83; refine (Tryd.internal_strconv_lower _ _).mono ?_; rintro e w' ⟨rfl, rfl⟩)
          all_goals go_ret2
          all_goals first | exact ⟨rfl, rfl⟩ | exact ⟨by rw [hdec]; rfl, rfl⟩
        · have hF : Lex.hexU acc (c :: bs.drop (k + 1)) = Lex.hexU (acc * 16 + (Lex.low c - 87)) (bs.drop (k + 1)) := by simp [Lex.hexU, hd, hcut]
          have HN : Hid (a * 16 + (l - 97 + 10) = ((acc * 16 + (Lex.low c - 87) : Nat) : Int) ∧ acc * 16 + (Lex.low c - 87) < 18446744073709551616 ∧ Lex.hexU 0 bs = Lex.hexU (acc * 16 + (Lex.low c - 87)) (bs.drop (k + 1))) := Lib.hid ⟨by omega, by omega, hdec.trans hF⟩
          have icut : a < 1152921504606846976 := by omega
          have iov : a * 16 + (l - 97 + 10) < 18446744073709551616 := by omega
          clear hcut hacc hF hdec ha hl hd hd0 hd1 hl256
          go_wp2_with (go_at_call 83; refine (Tryd.internal_strconv_lower _ _).mono ?_; rintro e w' ⟨rfl, rfl⟩)
          all_goals refine ⟨⟨k + 1, acc * 16 + (Lex.low c - 87), a * 16 + (l - 97 + 10), rfl, (by first | rfl | (congr 1; omega)), (by first | rfl | (congr 1; omega)), by omega, HN⟩, by simp [intOf]; omega⟩
      · have hF : Lex.hexU acc (c :: bs.drop (k + 1)) = Lib.NumEnd.syntax := by simp [Lex.hexU, hd]
        rw [hF] at hdec
        have hndig : ¬ (48 ≤ c.toNat ∧ c.toNat ≤ 57) := by
          intro h
          have : Lex.hx c = some (c.toNat - 48) := by unfold Lex.hx; rw [if_pos h]
          rw [this] at hd
          cases hd
        have il1 : 0 ≤ l := by omega
        have il2 : l < 256 := by omega
        have il3 : l < 97 ∨ 102 < l := by omega
        clear hacc hF ha hl hd hd0 hl256
        by_cases h95 : (c.toNat : Int) = 95
        · rw [h95] at hc hlow
          clear hc256 hndig
          go_wp2_with (go_at_call 83; refine (Tryd.internal_strconv_lower _ _).mono ?_; rintro e w' ⟨rfl, rfl⟩)
          all_goals go_ret2
          all_goals first | exact ⟨rfl, rfl⟩ | exact ⟨by rw [hdec]; rfl, rfl⟩
        go_wp2_with (go_at_call 83; refine (Tryd.internal_strconv_lower _ _).mono ?_; rintro e w' ⟨rfl, rfl⟩)
        all_goals go_ret2
        all_goals first | exact ⟨rfl, rfl⟩ | exact ⟨by rw [hdec]; rfl, rfl⟩
    · have hkk : k = t.size := by omega
      subst hkk
      have hF : Lex.hexU acc (bs.drop t.size) = .ok acc := by rw [List.drop_eq_nil_of_le (by omega)]; rfl
      rw [hF] at hdec
      subst ha
      clear hacc hF a0 a1
      go_wp2
      go_ret2
      exact ⟨rfl, rfl⟩
end PLex
end Go.Proofs.YtbaojlfnbfbjmaaDoor
namespace Go.Proofs.YtbaojlfnbfbjmaaDoor
open Go.RowKit Go.Proofs
namespace Lex
/-- The table of math/bits.TrailingZeros64. -/
def bru : List Int := [0, 1, 56, 2, 57, 49, 28, 3, 61, 58, 42, 50, 38, 29, 17, 4, 62, 47, 59, 36, 45, 43, 51, 22, 53, 39, 33, 30, 24, 18, 12, 5, 63, 55, 48, 27, 60, 41, 37, 16, 46, 35, 44, 21, 52, 32, 23, 11, 54, 26, 40, 15, 34, 20, 31, 10, 25, 14, 19, 9, 13, 8, 7, 6]
/-- A variable that holds an error. -/
def ErrAt (w : World) (g : Nat) : Prop := ∃ ev, w.cell? ⟨g, 0, none⟩ = some ev ∧ (ev = .nilIface ∨ ∃ te pe, ev = .iface te pe)
structure Laid (w : World) : Prop where
  pow : Lib.TabIs Tryd.prog w "internal/strconv.uint64pow10" .u64 Lib.pow10Tab
  bru : Lib.TabIs Tryd.prog w "math/bits.deBruijn64tab" .u8 bru
  syn : ErrAt w 1
  rng : ErrAt w 2
theorem gPow : Tryd.prog.globalNamed "internal/strconv.uint64pow10" = some 3 := by kernel_rfl
theorem gBru : Tryd.prog.globalNamed "math/bits.deBruijn64tab" = some 5 := by kernel_rfl
theorem ErrAt.below {w w' : World} {g : Nat} (h : ErrAt w g) (hb : Below w.heap.size w w') : ErrAt w' g := by
  obtain ⟨ev, h1, h2⟩ := h
  exact ⟨ev, (hb.cell (show (⟨g, 0, none⟩ : Addr).block < w.heap.size from Lib.lt_of_cell h1)).trans h1, h2⟩
theorem Laid.below {w w' : World} (h : Laid w) (hb : Below w.heap.size w w') : Laid w' :=
  ⟨Lib.tabBelow_of_tabIs h.pow w' hb, Lib.tabBelow_of_tabIs h.bru w' hb, h.syn.below hb, h.rng.below hb⟩
theorem Laid.four {w : World} (h : Laid w) : w.cell? ⟨5, 15, none⟩ = some (.int .u8 4) := h.bru.cell gBru 15 (by decide)
end Lex
namespace PLex
set_option maxHeartbeats 4000000 in
set_option maxRecDepth 100000 in
theorem trailing16_calls (w : World) (hc : w.cell? ⟨5, 15, none⟩ = some (.int .u8 4)) :
    Calls Tryd.prog 95 #[.int .u64 16] w fun e w' => e = .returned (.int .i64 4) ∧ w' = w := by
  have hx : IntKind.u64.wrap (bits .and .u64 16 (IntKind.u64.wrap (-16)) * 285870213051353865) / 288230376151711744 = 15 := by decide +kernel
  go_enter Tryd.func95, Tryd.ntmps95
  go_wp2
  go_ret
  exact ⟨rfl, rfl⟩
set_option maxHeartbeats 4000000 in
set_option maxRecDepth 100000 in
theorem trailing_calls (w : World) (hc : w.cell? ⟨5, 15, none⟩ = some (.int .u8 4)) :
    Calls Tryd.prog 92 #[.int .u64 16] w fun e w' => e = .returned (.int .i64 4) ∧ w' = w := by
  go_enter Tryd.func92, Tryd.ntmps92
  go_wp2_with (go_at_call 95; refine (trailing16_calls _ hc).mono ?_; rintro e w' ⟨rfl, rfl⟩)
  go_ret
  exact ⟨rfl, rfl⟩
end PLex
end Go.Proofs.YtbaojlfnbfbjmaaDoor
namespace Go.Proofs.YtbaojlfnbfbjmaaDoor
open Go.RowKit Go.Proofs Go.Proofs.YtbaojlfnbfbjmaaDoorW.PrintWords
set_option linter.unusedVariables false
set_option linter.unusedSimpArgs false
namespace Lex
def zeros65 : Array Value := Array.replicate 65 (.int .u8 0)
/-- The digits of all bases. -/
def digs : ByteArray := ⟨#[48, 49, 50, 51, 52, 53, 54, 55, 56, 57, 97, 98, 99, 100, 101, 102, 103, 104, 105, 106, 107, 108, 109, 110, 111, 112, 113, 114, 115, 116, 117, 118, 119, 120, 121, 122]⟩
theorem digs_at : ∀ d, d < 16 → digs.data[d]? = some (Lx.dgh d) := by decide
/-- The state of the digits that are laid so far: u' is to be done, the cells from j on hold the others. -/
structure Fmt (u : Nat) (w0 wr : World) (g0 : Nat) (T : TypeId) (j u' : Nat) : Prop where
  lo : 50 ≤ j
  hi : j ≤ 65
  small : u' < 16 ^ (j - 49)
  row : ∃ (cs : Array Value) (tail : List UInt8), wr.heap[g0]? = some (.cells cs T (0, 0)) ∧ cs.size = 65 ∧ tail.length = 65 - j ∧ (∀ x (hx : x < tail.length), cs[j + x]? = some (.int .u8 (tail[x].toNat : Int))) ∧ Lx.fmtB Lx.dgh 16 u = Lx.fmtB Lx.dgh 16 u' ++ tail
  below : Below w0.heap.size w0 wr
theorem pow_step (n u : Nat) (h : u < 16 ^ (n + 1)) : u / 16 < 16 ^ n := by
  rw [Nat.pow_succ] at h
  exact Nat.div_lt_of_lt_mul (by omega)
theorem row_step {cs : Array Value} {tail : List UInt8} {m : Nat} (h65 : m + 1 ≤ 65) (hcs : cs.size = 65) (htl : tail.length = 65 - (m + 1)) (c : UInt8)
    (hcells : ∀ (x : Nat) (hx : x < tail.length), cs[m + 1 + x]? = some (Value.int .u8 (tail[x].toNat : Int))) :
    ∀ (x : Nat) (hx : x < (c :: tail).length), (cs.setIfInBounds m (.int .u8 (c.toNat : Int)))[m + x]? = some (.int .u8 ((c :: tail)[x].toNat : Int)) := by
  intro x hx
  cases x with
  | zero => simp [show m < cs.size by omega]
  | succ x =>
    rw [Array.getElem?_setIfInBounds_ne (by omega), show m + (x + 1) = m + 1 + x by omega, hcells x (by simpa using hx)]
    rfl
theorem Fmt.step {u : Nat} {w0 wr : World} {g0 : Nat} {T : TypeId} {m u' : Nat} (h : Fmt u w0 wr g0 T (m + 1) u') (hge : 16 ≤ u') (hg : w0.heap.size ≤ g0) :
    Fmt u w0 (wr.setCell ⟨g0, m, none⟩ (.int .u8 ((Lx.dgh (u' % 16)).toNat : Int))) g0 T m (u' / 16) := by
  obtain ⟨h50, h65, hsm, ⟨cs, tail, hrow, hcs, htl, hcells, hfmt⟩, hb⟩ := h
  have h51 : 51 ≤ m + 1 := by
    by_cases e : m = 49
    · subst e
      have : u' < 16 ^ 1 := hsm
      omega
    · omega
  refine ⟨by omega, by omega, pow_step _ _ (by rw [show m - 49 + 1 = m + 1 - 49 by omega]; exact hsm), ⟨cs.setIfInBounds m _, Lx.dgh (u' % 16) :: tail, blk_set hrow m _, by simpa using hcs, by simp; omega, row_step h65 hcs htl _ hcells, ?_⟩, hb.setCell hg _⟩
  rw [hfmt, Lx.fmtB, dif_neg (by omega)]
  simp
end Lex
namespace PLex
set_option maxHeartbeats 4000000 in
set_option maxRecDepth 100000 in
theorem pow2_calls (w : World) : Calls Tryd.prog 91 #[.int .i64 16] w fun e w' => e = .returned (.bool true) ∧ w' = w := by
  have hx : (bits .and .i64 16 15 == 0) = true := by decide +kernel
  go_enter Tryd.func91, Tryd.ntmps91
  go_wp2
  go_ret
  exact ⟨by rw [← hx]; rfl, rfl⟩
set_option maxHeartbeats 4000000 in
set_option maxRecDepth 100000 in
theorem formatBits16_calls (u : Nat) (hu : u < 9223372036854775808) (w : World) (hc : w.cell? ⟨5, 15, none⟩ = some (.int .u8 4)) :
    Calls Tryd.prog 82 #[.slice none 0 0, .int .u64 u, .int .i64 16, .bool false, .bool false] w fun e w' => ∃ v, e = .returned (.tuple #[v, .string ⟨(Lx.fmtB Lx.dgh 16 u).toArray⟩]) ∧ Below w.heap.size w w' := by
  obtain ⟨U, hU⟩ : ∃ U : Int, U = (u : Int) := ⟨_, rfl⟩
  have hU0 : 0 ≤ U := by omega
  have hU1 : U < 9223372036854775808 := by omega
  have HU := Aside0.mk hU
  have HUU := Aside0.mk hu
  rw [← hU]
  clear hU hu
  go_enter Tryd.func82, Tryd.ntmps82
  go_wp2_with (first
    | ((with_reducible refine gate_dst (N := 12) rfl ?_); refine box_event rfl (N := 12) rfl (cs := Lex.zeros65) (t := 115) ?hr ?_; (case hr => first | (go_simp; done) | (go_simp; rfl)); intro g0 hg w1 hbox hb; have HG := Aside0.mk hg; have HX := Aside0.mk hbox; have HB := Aside0.mk hb; have hc1 := pw_cell_below hb hc; clear hg hbox hb hc)
    | (go_at_call 91; refine (pow2_calls _).mono ?_; rintro e w' ⟨rfl, rfl⟩)
    | (go_at_call 92; refine (trailing_calls _ (by assumption)).mono ?_; rintro e w' ⟨rfl, rfl⟩))
  rename World => W0
  go_loopg [13, 1] 65 (fun k vi vu wr => ∃ (j u' : Nat), vi = .int .i64 (j : Int) ∧ vu = .int .u64 (u' : Int) ∧ Aside0 (k = j) ∧ Aside0 (Lex.Fmt u w wr g0 115 j u'))
  case atStart =>
    refine ⟨65, u, by go_num, by rw [HU.out], ⟨rfl⟩, ⟨?_, ?_, ?_, ?_, HB.out⟩⟩
    · decide
    · decide
    · have := HUU.out
      calc u < 9223372036854775808 := this
        _ ≤ 16 ^ (65 - 49) := by decide
    · exact ⟨Lex.zeros65, [], HX.out, rfl, rfl, by simp, by simp⟩
  case round =>
    obtain ⟨j, u', rfl, rfl, HK, HF⟩ := hrel
    have hF := HF.out
    obtain ⟨cs, tail, hrow, hcs, htl, hcells, hfmt⟩ := hF.row
    have h50 := hF.lo
    have h65 := hF.hi
    have hsm := hF.small
    have hu64 : u' < 18446744073709551616 := by
      refine Nat.lt_of_lt_of_le hsm (Nat.le_trans (Nat.pow_le_pow_right (by decide) (show j - 49 ≤ 16 by omega)) (by decide))
    obtain ⟨m, rfl⟩ : ∃ m, j = m + 1 := ⟨j - 1, by omega⟩
    have hm : m < cs.size := by omega
    have hcz : wr.cell? ⟨g0, m, none⟩ = some cs[m] := by rw [blk_cell hrow m, Array.getElem?_eq_getElem hm]
    have hfz := blk_frozen hrow m
    have hw1 : IntKind.i64.wrap ((m : Int) + 1 - 1) = (m : Int) := by rw [show (m : Int) + 1 - 1 = m by omega]; exact IntWalk.i64_in _ (by omega)
    have hm0 : (0 : Int) ≤ (m : Int) := by omega
    have hm1 : (m : Int) < 65 := by omega
    by_cases hge : 16 ≤ u'
    · have hand : bits .and .u64 (u' : Int) 15 = ((u' % 16 : Nat) : Int) := by
        have h := bits_and_u64_nat u' 15 hu64 (by decide)
        rw [show (15 : Nat) = 2 ^ 4 - 1 from rfl, Nat.and_two_pow_sub_one_eq_mod] at h
        exact h
      have hd16 := Nat.mod_lt u' (show 0 < 16 by decide)
      have hix : ∀ W, (Instr.index 9 (.string Lex.digs) (.int .u64 ((u' % 16 : Nat) : Int))).run Tryd.prog W = .ok (.int .u8 ((Lx.dgh (u' % 16)).toNat : Int)) W := fun W => by
        rw [run_index_string W 9 Lex.digs .u64 _ Tryd.underlying9]
        have hsz : Lex.digs.size = 36 := rfl
        rw [dif_pos (by omega)]
        congr 3
        have := Lex.digs_at (u' % 16) hd16
        obtain ⟨_, h2⟩ := Array.getElem?_eq_some_iff.1 this
        exact congrArg _ h2
      unfold Lex.digs at hix
      have hgeI : (16 : Int) ≤ (u' : Int) := by omega
      have HGE := Aside0.mk hge
      clear hge
      obtain ⟨d, hd⟩ : ∃ d : Int, d = ((u' % 16 : Nat) : Int) := ⟨_, rfl⟩
      rw [← hd] at hix hand
      clear hd hsm hcells hfmt htl hrow hd16
      go_wp2
      go_roundg m
      case measure => have := HK.out; omega
      case rel =>
        refine ⟨m, u' / 16, rfl, by go_num, ⟨rfl⟩, ⟨?_⟩⟩
        exact HF.out.step HGE.out (by have := HG.out; omega)
    · have hlt : u' < 16 := by omega
      have hix : ∀ W, (Instr.index 9 (.string Lex.digs) (.int .u64 (u' : Int))).run Tryd.prog W = .ok (.int .u8 ((Lx.dgh u').toNat : Int)) W := fun W => by
        rw [run_index_string W 9 Lex.digs .u64 _ Tryd.underlying9]
        have hsz : Lex.digs.size = 36 := rfl
        rw [dif_pos (by omega)]
        congr 3
        have := Lex.digs_at u' hlt
        obtain ⟨_, h2⟩ := Array.getElem?_eq_some_iff.1 this
        exact congrArg _ h2
      unfold Lex.digs at hix
      have hrow2 := blk_set hrow m (.int .u8 ((Lx.dgh u').toNat : Int))
      have hcells2 := Lex.row_step h65 hcs htl (Lx.dgh u') hcells
      have hlen : (Lx.dgh u' :: tail).length = 65 - m := by simp; omega
      have hal : Tryd.prog.arrayLen 115 = 65 := by simp [Program.arrayLen, Tryd.underlying115]
      have hsl : ∀ W, (Instr.sliceAt 115 (.pointer (some ⟨g0, 0, none⟩)) (some (.int .i64 (m : Int))) none none).run Tryd.prog W = .ok (.slice (some ⟨g0, m, none⟩) (65 - m) (65 - m)) W := fun W => by
        rw [run_sliceAt_array_l W 115 ⟨g0, 0, none⟩ (by simp [Program.arrayLen, Program.elem, Tryd.underlying115]) .i64 (m : Int) (by omega) (by rw [hal]; omega), hal]
        go_simp
        omega
      have hcv : (convert 42 9 (.slice (some ⟨g0, m, none⟩) (65 - m) (65 - m))).run Tryd.prog (wr.setCell ⟨g0, m, none⟩ (.int .u8 ((Lx.dgh u').toNat : Int))) = .ok (.string ⟨(Lx.dgh u' :: tail).toArray⟩) (wr.setCell ⟨g0, m, none⟩ (.int .u8 ((Lx.dgh u').toNat : Int))) := by
        have h := run_convert_bytes_back (P := Tryd.prog) (wr.setCell ⟨g0, m, none⟩ (.int .u8 ((Lx.dgh u').toNat : Int))) 42 9 5 ⟨g0, m, none⟩ (65 - m) (Lx.dgh u' :: tail) Tryd.underlying42 Tryd.underlying5 Tryd.underlying9 (fun x hx => by
          rw [Lib.add_plain, blk_cell hrow2 (m + x)]
          exact hcells2 x hx)
        rw [hlen] at h
        exact h
      have hltI : (u' : Int) < 16 := by omega
      have hend : Lx.fmtB Lx.dgh 16 u = Lx.dgh u' :: tail := by rw [hfmt, Lx.fmtB, dif_pos (.inl hlt)]; rfl
      have HEND := Aside0.mk hend
      have hbel := hF.below.setCell (p := ⟨g0, m, none⟩) (show w.heap.size ≤ g0 by have := HG.out; omega) (.int .u8 ((Lx.dgh u').toNat : Int))
      have HBEL := Aside0.mk hbel
      clear hend hsm hcells hfmt htl hrow hrow2 hcells2 hlen hal hge hbel hlt
      go_wp2
      go_ret2
      refine ⟨?_, HBEL.out⟩
      first | (rw [HEND.out]; rfl) | exact ⟨_, by rw [HEND.out]; rfl⟩ | exact ⟨_, by rw [HEND.out]⟩
end PLex
end Go.Proofs.YtbaojlfnbfbjmaaDoor
namespace Go.Proofs.YtbaojlfnbfbjmaaDoor
open Go.RowKit Go.Proofs Go.Proofs.YtbaojlfnbfbjmaaDoorW.PrintWords
set_option linter.unusedVariables false
set_option linter.unusedSimpArgs false
namespace Lex
/-- How ParseInt ends: a number and no error, or a number and an error. -/
def Parsed (w : World) (o : Option Int) (e : Ending) (w' : World) : Prop :=
  ∃ (n : Int) (er : Value), e = .returned (.tuple #[.int .i64 n, er]) ∧ (-9223372036854775808 ≤ n ∧ n ≤ 9223372036854775807) ∧ ((o = some n ∧ er = .nilIface) ∨ (o = none ∧ 0 ≤ n ∧ ∃ p, er = .iface 98 (.pointer (some p)))) ∧ Below w.heap.size w w'
/-- How ParseInt ends at base 16, no sign ahead. -/
def hexI (l : List UInt8) : Lib.NumEnd Int := if l = [] then Lib.NumEnd.syntax else match hexU 0 l with
  | .ok u => if 9223372036854775808 ≤ u then .range else .ok u
  | Lib.NumEnd.syntax => Lib.NumEnd.syntax
  | .range => .range
theorem below_grow (w : World) (q : Nat) (os : Array Obj) : Below w.heap.size w (Sort.grow (w.drewN q) os) :=
  ⟨rfl, rfl, rfl, by simp [Sort.grow, World.drewN], fun k hk => by simp [Sort.grow, World.drewN, Array.getElem?_append, hk]⟩
theorem hexU_lt : ∀ (l : List UInt8) (acc u : Nat), acc < 18446744073709551616 → hexU acc l = .ok u → u < 18446744073709551616
  | [], acc, u, ha, h => by
    simp only [hexU] at h
    injection h with h
    omega
  | c :: r, acc, u, ha, h => by
    simp only [hexU] at h
    cases hd : hx c with
    | none => rw [hd] at h; cases h
    | some d =>
      rw [hd] at h
      have hd16 : d < 16 := by
        unfold hx at hd
        split at hd
        · injection hd; omega
        · split at hd
          · injection hd; omega
          · split at hd
            · injection hd; omega
            · cases hd
      by_cases hc : 1152921504606846976 ≤ acc
      · simp [hc] at h
      · simp only [hc, if_false] at h
        exact hexU_lt r _ u (by omega) h
end Lex
namespace PLex
set_option maxHeartbeats 32000000 in
set_option maxRecDepth 100000 in
theorem parseInt16_calls (s : ByteArray) (hmax : s.size ≤ 9223372036854775806) (h43 : s.data.toList.head? ≠ some 43) (h45 : s.data.toList.head? ≠ some 45) (w : World) :
    Calls Tryd.prog 68 #[.string s, .int .i64 16, .int .i64 64] w fun e w' => e = .returned (Lib.intTuple 93 9223372036854775807 (Lex.hexI s.data.toList)) ∧ Below w.heap.size w w' := by
  have hq2 : ∀ W, (binOp .neq 67 (.iface 93 (.int .i64 2)) (.iface 93 (.int .i64 1))).run Tryd.prog W = .ok (.bool true) W := fun W => Lib.run_neq_iface_int W 2 1 Tryd.underlying67 (by kernel_rfl) Tryd.underlying93
  have hq1 : ∀ W, (binOp .neq 67 (.iface 93 (.int .i64 1)) (.iface 93 (.int .i64 1))).run Tryd.prog W = .ok (.bool false) W := fun W => Lib.run_neq_iface_int W 1 1 Tryd.underlying67 (by kernel_rfl) Tryd.underlying93
  by_cases hz : s.size = 0
  · have hs : s = ByteArray.empty := by
      apply ByteArray.ext
      exact Array.eq_empty_of_size_eq_zero hz
    subst hs
    have he : Lib.intTuple 93 9223372036854775807 (Lex.hexI ByteArray.empty.data.toList) = .tuple #[.int .i64 0, .iface 93 (.int .i64 2)] := rfl
    rw [he]
    clear h43 h45 hmax hz he
    go_enter Tryd.func68, Tryd.ntmps68
    go_wp2
    go_ret2
    exact ⟨rfl, Below.refl _ _⟩
  · have hne : s.size ≠ 0 := hz
    have hemp : s.toList.isEmpty = false := by
      rw [← decide_eq_emptyBytes]
      exact decide_eq_false (fun h => hne (by rw [h]; rfl))
    have hpos : 0 < s.size := by omega
    obtain ⟨c0, r, hL⟩ : ∃ c0 r, s.data.toList = c0 :: r := by
      cases h : s.data.toList with
      | nil => exact absurd (by rw [Lib.size_eq, h]; rfl) hne
      | cons c0 r => exact ⟨c0, r, rfl⟩
    have hsz : s.size = r.length + 1 := by rw [Lib.size_eq, hL]; rfl
    have hs0 : s[0]'hpos = c0 := by have := Lib.getD_at s 0 hpos; rw [hL] at this; exact this
    have hU := parseUint16_calls s hne hmax w
    rw [hL] at hU h43 h45 ⊢
    have n43 : ¬ (c0.toNat : Int) = 43 := fun h => h43 (by rw [show c0 = 43 from UInt8.toNat_inj.1 (by show c0.toNat = 43; omega)]; rfl)
    have n45 : ¬ (c0.toNat : Int) = 45 := fun h => h45 (by rw [show c0 = 45 from UInt8.toNat_inj.1 (by show c0.toNat = 45; omega)]; rfl)
    clear h43 h45 hz hL
    cases hE : Lex.hexU 0 (c0 :: r) with
    | range =>
      have hres : Lib.intTuple 93 9223372036854775807 (Lex.hexI (c0 :: r)) = .tuple #[.int .i64 9223372036854775807, .iface 93 (.int .i64 1)] := by unfold Lex.hexI; rw [hE]; rfl
      rw [hres]
      rw [hE] at hU
      have hU : Calls Tryd.prog 74 #[.string s, .int .i64 16, .int .i64 64] w fun e w' => e = .returned (.tuple #[.int .u64 18446744073709551615, .iface 93 (.int .i64 1)]) ∧ w' = Lib.bytesWorld w 5 s := hU
      go_enter Tryd.func68, Tryd.ntmps68
      go_wp2_with (go_at_call 74; refine hU.mono ?_; rintro e w1 ⟨rfl, hw1⟩; clear hU)
      go_wp2
      go_ret2
      exact ⟨rfl, by first | exact Lib.bytesWorld_below _ _ _ | (rw [hw1]; exact Lib.bytesWorld_below _ _ _)⟩
    | ok u =>
      have hu64 := Lex.hexU_lt _ _ _ (by decide) hE
      obtain ⟨a, ha⟩ : ∃ a : Int, a = (u : Int) := ⟨_, rfl⟩
      rw [hE] at hU
      have hU : Calls Tryd.prog 74 #[.string s, .int .i64 16, .int .i64 64] w fun e w' => e = .returned (.tuple #[.int .u64 a, .nilIface]) ∧ w' = Lib.bytesWorld w 5 s := by rw [ha]; exact hU
      have a0 : 0 ≤ a := by omega
      have a1 : a ≤ 18446744073709551615 := by omega
      by_cases hout : 9223372036854775808 ≤ u
      · have hres : Lib.intTuple 93 9223372036854775807 (Lex.hexI (c0 :: r)) = .tuple #[.int .i64 9223372036854775807, .iface 93 (.int .i64 1)] := by unfold Lex.hexI; rw [hE]; simp [hout, Lib.intTuple]
        rw [hres]
        have iout : 9223372036854775808 ≤ a := by omega
        clear hres hout hu64 ha hE
        go_enter Tryd.func68, Tryd.ntmps68
        go_wp2_with (go_at_call 74; refine hU.mono ?_; rintro e w1 ⟨rfl, hw1⟩; clear hU)
        go_wp2
        go_ret2
        exact ⟨rfl, by first | exact Lib.bytesWorld_below _ _ _ | (rw [hw1]; exact Lib.bytesWorld_below _ _ _)⟩
      · have hres : Lib.intTuple 93 9223372036854775807 (Lex.hexI (c0 :: r)) = .tuple #[.int .i64 a, .nilIface] := by unfold Lex.hexI; rw [hE]; simp [hout, Lib.intTuple, ha]
        rw [hres]
        have iin : a < 9223372036854775808 := by omega
        clear hres hout hu64 ha hE
        go_enter Tryd.func68, Tryd.ntmps68
        go_wp2_with (go_at_call 74; refine hU.mono ?_; rintro e w1 ⟨rfl, hw1⟩; clear hU)
        go_wp2
        go_ret2
        exact ⟨rfl, by first | exact Lib.bytesWorld_below _ _ _ | (rw [hw1]; exact Lib.bytesWorld_below _ _ _)⟩
    | _ =>
      have hres : Lib.intTuple 93 9223372036854775807 (Lex.hexI (c0 :: r)) = .tuple #[.int .i64 0, .iface 93 (.int .i64 2)] := by unfold Lex.hexI; rw [hE]; rfl
      rw [hres]
      rw [hE] at hU
      have hU : Calls Tryd.prog 74 #[.string s, .int .i64 16, .int .i64 64] w fun e w' => e = .returned (.tuple #[.int .u64 0, .iface 93 (.int .i64 2)]) ∧ w' = Lib.bytesWorld w 5 s := hU
      go_enter Tryd.func68, Tryd.ntmps68
      go_wp2_with (go_at_call 74; refine hU.mono ?_; rintro e w1 ⟨rfl, hw1⟩; clear hU)
      go_wp2
      go_ret2
      exact ⟨rfl, by first | exact Lib.bytesWorld_below _ _ _ | (rw [hw1]; exact Lib.bytesWorld_below _ _ _)⟩
set_option maxHeartbeats 4000000 in
set_option maxRecDepth 100000 in
/-- strconv.ParseInt at base 16, no sign ahead. -/
theorem ParseInt16_calls (s : ByteArray) (hlim : s.size ≤ 281474976710656) (h43 : s.data.toList.head? ≠ some 43) (h45 : s.data.toList.head? ≠ some 45) (w : World) (hL : Lex.Laid w) :
    Calls Tryd.prog 58 #[.string s, .int .i64 16, .int .i64 64] w (Lex.Parsed w (match Lex.hexI s.data.toList with | .ok n => some n | _ => none)) := by
  have hI := parseInt16_calls s (by omega) h43 h45 w
  clear h43 h45
  have hn : ∀ n, Lex.hexI s.data.toList = .ok n → 0 ≤ n ∧ n ≤ 9223372036854775807 := by
    intro n h
    unfold Lex.hexI at h
    split at h
    · cases h
    · split at h
      · split at h
        · cases h
        · injection h; omega
      · cases h
      · cases h
  cases hE : Lex.hexI s.data.toList with
  | ok n =>
    obtain ⟨n0, n1⟩ := hn n hE
    rw [hE] at hI
    have hI : Calls Tryd.prog 68 #[.string s, .int .i64 16, .int .i64 64] w fun e w' => e = .returned (.tuple #[.int .i64 n, .nilIface]) ∧ Below w.heap.size w w' := hI
    clear hE hn
    go_enter Tryd.func58, Tryd.ntmps58
    go_wp2_with (go_at_call 68; refine hI.mono ?_; rintro e W1 ⟨rfl, hW⟩)
    go_wp2
    go_ret2
    exact ⟨n, .nilIface, rfl, ⟨by omega, n1⟩, .inl ⟨rfl, rfl⟩, hW⟩
  | range =>
    obtain ⟨ev, hv, hev⟩ := hL.rng
    rw [hE] at hI
    have hI : Calls Tryd.prog 68 #[.string s, .int .i64 16, .int .i64 64] w fun e w' => e = .returned (.tuple #[.int .i64 9223372036854775807, .iface 93 (.int .i64 1)]) ∧ Below w.heap.size w w' := hI
    clear hE hn
    go_enter Tryd.func58, Tryd.ntmps58
    go_wp2_with (first
      | (go_at_call 68; refine hI.mono ?_; rintro e W1 ⟨rfl, hW⟩; have hv1 := pw_cell_below hW hv; have HW := Aside0.mk hW; clear hW)
      | (go_at_call 69; refine (Tryd.strconv_toError_range ⟨#[80, 97, 114, 115, 101, 73, 110, 116]⟩ s 16 64 ev _ hlim (by assumption) hev).mono ?_; rintro e W2 ⟨N, rfl, h1, h2, h3⟩; have H3 := Aside0.mk h3; clear h1 h2 h3))
    go_wp2
    go_ret2
    exact ⟨9223372036854775807, _, rfl, by decide, .inr ⟨rfl, by decide, _, rfl⟩, below_step HW.out H3.out⟩
  | _ =>
    obtain ⟨ev, hv, hev⟩ := hL.syn
    have hG : 1 < w.heap.size := Lib.lt_of_cell hv
    rw [hE] at hI
    have hI : Calls Tryd.prog 68 #[.string s, .int .i64 16, .int .i64 64] w fun e w' => e = .returned (.tuple #[.int .i64 0, .iface 93 (.int .i64 2)]) ∧ Below w.heap.size w w' := hI
    clear hE hn
    go_enter Tryd.func58, Tryd.ntmps58
    go_wp2_with (first
      | (go_at_call 68; refine hI.mono ?_; rintro e W1 ⟨rfl, hW⟩; have hv1 := pw_cell_below hW hv; have HW := Aside0.mk hW; clear hW)
      | (go_at_call 69; refine (Tryd.strconv_toError_syntax ⟨#[80, 97, 114, 115, 101, 73, 110, 116]⟩ s 16 64 ev _ hlim (by assumption) hev).mono ?_; rintro e W2 ⟨N, rfl, h1, h2, h3⟩; have H3 := Aside0.mk h3; clear h1 h2 h3))
    go_wp2
    go_ret2
    exact ⟨0, _, rfl, by decide, .inr ⟨rfl, by decide, _, rfl⟩, below_step HW.out H3.out⟩
/-- strconv.ParseInt at base 10. -/
theorem ParseInt10_calls (s : ByteArray) (hlim : s.size ≤ 281474976710656) (h45 : s.data.toList.head? ≠ some 45) (w : World) (hL : Lex.Laid w) :
    Calls Tryd.prog 58 #[.string s, .int .i64 10, .int .i64 64] w (Lex.Parsed w (match Lib.parseIntB 64 s.data.toList with | .ok n => some n | _ => none)) := by
  cases hE : Lib.parseIntB 64 s.data.toList with
  | ok n =>
    refine (Tryd.strconv_ParseInt_10_at64_ok s (by omega) n hE w).mono ?_
    rintro e w' ⟨rfl, hw⟩
    refine ⟨n, _, rfl, ?_, .inl ⟨rfl, rfl⟩, ?_⟩
    · have h := Lib.parseIntB_bounds hE
      have e1 : (2 : Nat) ^ (64 - 1) = 9223372036854775808 := by decide
      rw [e1] at h
      omega
    · rcases hw with rfl | ⟨t, rfl⟩
      · exact Below.refl _ _
      · exact Lib.bytesWorld_below _ _ _
  | range =>
    obtain ⟨ev, hv, hev⟩ := hL.rng
    refine (Tryd.strconv_ParseInt_10_at64_range s hlim hE ev w hv hev).mono ?_
    rintro e w' ⟨N, rfl, _, _, hb⟩
    have hs : Lib.intSat 64 s.data.toList = 9223372036854775807 := by
      unfold Lib.intSat
      rw [if_neg]
      · decide
      · intro h
        apply h45
        cases hl : s.data.toList with
        | nil => rw [hl] at h; cases h
        | cons a t =>
          rw [hl] at h
          simp only [List.head?_cons, Option.map_some, Option.some.injEq] at h ⊢
          exact UInt8.toNat_inj.1 h
    rw [hs]
    exact ⟨_, _, rfl, by decide, .inr ⟨rfl, by decide, _, rfl⟩, hb⟩
  | _ =>
    obtain ⟨ev, hv, hev⟩ := hL.syn
    refine (Tryd.strconv_ParseInt_10_at64_syntax s hlim hE ev w hv hev).mono ?_
    rintro e w' ⟨N, rfl, _, _, hb⟩
    exact ⟨_, _, rfl, by decide, .inr ⟨rfl, by decide, _, rfl⟩, hb⟩
set_option maxHeartbeats 4000000 in
set_option maxRecDepth 100000 in
theorem formatInt16_calls (u : Nat) (hu : u < 9223372036854775808) (w : World) (hL : Lex.Laid w) :
    Calls Tryd.prog 70 #[.int .i64 u, .int .i64 16] w fun e w' => e = .returned (.string ⟨(Lx.fmtB Lx.dgh 16 u).toArray⟩) ∧ Below w.heap.size w w' := by
  have hF := formatBits16_calls u hu w hL.four
  go_enter Tryd.func70, Tryd.ntmps70
  go_wp2_with (go_at_call 82; refine hF.mono ?_; rintro e W1 ⟨v, rfl, hW⟩)
  go_wp2
  go_ret
  exact ⟨rfl, hW⟩
set_option maxHeartbeats 4000000 in
set_option maxRecDepth 100000 in
/-- strconv.FormatInt at base 16. -/
theorem FormatInt16_calls (u : Nat) (hu : u < 9223372036854775808) (w : World) (hL : Lex.Laid w) :
    Calls Tryd.prog 59 #[.int .i64 u, .int .i64 16] w fun e w' => e = .returned (.string ⟨(Lx.fmtB Lx.dgh 16 u).toArray⟩) ∧ Below w.heap.size w w' := by
  have hF := formatInt16_calls u hu w hL
  go_enter Tryd.func59, Tryd.ntmps59
  go_wp2_with (go_at_call 70; refine hF.mono ?_; rintro e W1 ⟨rfl, hW⟩)
  go_wp2
  go_ret
  exact ⟨rfl, hW⟩
/-- strconv.FormatInt at base 10. -/
theorem FormatInt10_calls (n : Int) (h0 : -9223372036854775808 ≤ n) (h1 : n ≤ 9223372036854775807) (w : World) (hL : Lex.Laid w) :
    Calls Tryd.prog 59 #[.int .i64 n, .int .i64 10] w fun e w' => e = .returned (.string ⟨(Lib.itoa n).toArray⟩) ∧ Below w.heap.size w w' :=
  (Tryd.strconv_FormatInt_10 n h0 h1 w hL.pow).mono fun e w' ⟨he, hw⟩ => ⟨he, by obtain ⟨k, os, rfl⟩ := hw; exact Lex.below_grow _ _ _⟩
end PLex
end Go.Proofs.YtbaojlfnbfbjmaaDoor
