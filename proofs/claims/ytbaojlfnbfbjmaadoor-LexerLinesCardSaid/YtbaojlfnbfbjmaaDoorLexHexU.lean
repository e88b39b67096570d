/- internal/strconv.ParseUint at base 16. -/
import Derived.Test.YtbaojlfnbfbjmaaDoorLexShelf
import Derived.Test.YtbaojlfnbfbjmaaDoorLexSpec
import Derived.Lib.Strings
import Derived.Lib.Walk
import Derived.Lib.ConvBytes
import Derived.Lib.AtoiAllMem
import Derived.Lib.Hide
import Derived.Laws.Strings3
import Derived.Laws.Closers25
import Derived.Laws.Closers25b
import Derived.WalkKit
import Derived.BigCall
import Derived.BigGuard
namespace Go.Proofs.YtbaojlfnbfbjmaaDoor
open Go.RowKit Go.Proofs
set_option linter.unusedVariables false
set_option linter.unusedSimpArgs false
namespace Lex
theorem byte_allX {p : UInt8 → Prop} [DecidablePred p] (h : ∀ n : Fin 256, p (UInt8.ofNat n)) (c : UInt8) : p c := by
  have := h ⟨c.toNat, c.toNat_lt⟩
  simpa using this
/-- The value of a digit of base 16, as ParseUint takes it. -/
def hx (c : UInt8) : Option Nat := if 48 ≤ c.toNat ∧ c.toNat ≤ 57 then some (c.toNat - 48) else if 97 ≤ c.toNat ∧ c.toNat ≤ 102 then some (c.toNat - 87) else if 65 ≤ c.toNat ∧ c.toNat ≤ 70 then some (c.toNat - 55) else none
/-- ParseUint(s, 16, 64) behind its test for the empty string. -/
def hexU (acc : Nat) : List UInt8 → Lib.NumEnd Nat
  | [] => .ok acc
  | c :: r => match hx c with
    | none => Lib.NumEnd.syntax
    | some d => if 1152921504606846976 ≤ acc then .range else hexU (acc * 16 + d) r
/-- The low letter of a byte: the bit 32 set. -/
def low (c : UInt8) : Nat := c.toNat ||| 32
theorem low_dig : ∀ c : UInt8, 48 ≤ c.toNat ∧ c.toNat ≤ 57 ∨ (97 ≤ low c ∧ low c ≤ 102 ∧ c.toNat ≠ 95 ∧ hx c = some (low c - 87)) ∨ ((low c < 97 ∨ 102 < low c) ∧ hx c = none) := byte_allX (by unfold low hx; decide +kernel)
theorem low_lt : ∀ c : UInt8, low c < 256 := byte_allX (by unfold low; decide +kernel)
theorem bits_low (c : UInt8) : bits .or .u8 (c.toNat : Int) 32 = (low c : Int) := by
  unfold low
  revert c
  exact byte_allX (by decide +kernel)
end Lex
namespace PLex
set_option maxHeartbeats 32000000 in
set_option maxRecDepth 100000 in
theorem parseUint16_calls (t : ByteArray) (hne : t.size ≠ 0) (hmax : t.size ≤ 9223372036854775806) (w : World) :
    Calls Tryd.prog 74 #[.string t, .int .i64 16, .int .i64 64] w fun e w' => e = .returned (Lib.uintTuple 93 (Lex.hexU 0 t.data.toList)) ∧ w' = Lib.bytesWorld w 5 t := by
  have hemp : t.toList.isEmpty = false := by
    rw [← decide_eq_emptyBytes]
    exact decide_eq_false (fun h => hne (by rw [h]; rfl))
  have hcv := Lib.run_convert_string_bytes (P := Tryd.prog) w 9 42 5 t (u := .string) Tryd.underlying9 Tryd.underlying42 Tryd.underlying5
  have hB : ∀ j, j < t.size → (Lib.bytesWorld w 5 t).cell? ⟨w.heap.size, j, none⟩ = some (.int .u8 (t.data.toList.getD j 0).toNat) := fun j hj => Lib.bytesWorld_cell w 5 t j hj
  obtain ⟨W1, hW1⟩ : ∃ W1, W1 = Lib.bytesWorld w 5 t := ⟨_, rfl⟩
  rw [← hW1] at hcv hB ⊢
  clear hW1
  obtain ⟨bs, hL⟩ : ∃ bs, bs = t.data.toList := ⟨_, rfl⟩
  have hLn : bs.length = t.size := by rw [hL, Lib.size_eq]
  rw [← hL] at hB ⊢
  clear hL
  have hmv : IntKind.u64.wrap (IntKind.u64.wrap 18446744073709551616 - 1) = 18446744073709551615 := by
    rw [IntKind.wrap_u64, IntKind.wrap_u64]
    decide
  go_enter Tryd.func74, Tryd.ntmps74
  go_wp2
  go_loop [12, 13, 101] (fun vu vn vi => ∃ (k acc : Nat) (a : Int), vu = .bool false ∧ vn = .int .u64 a ∧ vi = .int .i64 k ∧ k ≤ t.size ∧ Hid (a = (acc : Int) ∧ acc < 18446744073709551616 ∧ Lex.hexU 0 bs = Lex.hexU acc (bs.drop k)))
    (fun _ _ vi => t.size - (intOf vi).toNat)
  case atStart => exact ⟨0, 0, 0, rfl, rfl, rfl, by omega, rfl, by omega, rfl⟩
  case round =>
    obtain ⟨k, acc, a, rfl, rfl, rfl, hk, hh⟩ := hrel
    obtain ⟨ha, hacc, hdec⟩ := hh.out
    clear hh
    have a0 : 0 ≤ a := by omega
    have a1 : a < 18446744073709551616 := by omega
    by_cases hkn : k < t.size
    · have hc := hB k hkn
      have hdrop : bs.drop k = bs[k]'(by omega) :: bs.drop (k + 1) := List.drop_eq_getElem_cons (by omega)
      have hget : bs.getD k 0 = bs[k]'(by omega) := by simp [List.getD, List.getElem?_eq_getElem (show k < bs.length by omega)]
      rw [hdrop] at hdec
      rw [hget] at hc
      generalize bs[k]'(by omega) = c at hc hdec
      have hc256 : c.toNat < 256 := c.toNat_lt
      clear hB hdrop hget
      have hlow := Lex.bits_low c
      have hl256 := Lex.low_lt c
      have hcases := Lex.low_dig c
      obtain ⟨l, hl⟩ : ∃ l : Int, l = (Lex.low c : Int) := ⟨_, rfl⟩
      rw [← hl] at hlow
      rcases hcases with ⟨hd0, hd1⟩ | ⟨hd0, hd1, h95, hd⟩ | ⟨hd0, hd⟩
      · have hd : Lex.hx c = some (c.toNat - 48) := by unfold Lex.hx; rw [if_pos ⟨hd0, hd1⟩]
        by_cases hcut : 1152921504606846976 ≤ acc
        · have hF : Lex.hexU acc (c :: bs.drop (k + 1)) = .range := by simp [Lex.hexU, hd, hcut]
          rw [hF] at hdec
          have icut : 1152921504606846976 ≤ a := by omega
          clear hcut hacc hF ha hl hd
          go_wp2
          go_ret2
          exact ⟨rfl, rfl⟩
        · have hF : Lex.hexU acc (c :: bs.drop (k + 1)) = Lex.hexU (acc * 16 + (c.toNat - 48)) (bs.drop (k + 1)) := by simp [Lex.hexU, hd, hcut]
          have HN : Hid (a * 16 + ((c.toNat : Int) - 48) = ((acc * 16 + (c.toNat - 48) : Nat) : Int) ∧ acc * 16 + (c.toNat - 48) < 18446744073709551616 ∧ Lex.hexU 0 bs = Lex.hexU (acc * 16 + (c.toNat - 48)) (bs.drop (k + 1))) := Lib.hid ⟨by omega, by omega, hdec.trans hF⟩
          have icut : a < 1152921504606846976 := by omega
          have iov : a * 16 + ((c.toNat : Int) - 48) < 18446744073709551616 := by omega
          clear hcut hacc hF hdec ha hl hd
          go_wp2
          refine ⟨⟨k + 1, acc * 16 + (c.toNat - 48), a * 16 + ((c.toNat : Int) - 48), rfl, (by first | rfl | (congr 1; omega)), (by first | rfl | (congr 1; omega)), by omega, HN⟩, by simp [intOf]; omega⟩
      · have il0 : 97 ≤ l := by omega
        have i95 : ¬ (c.toNat : Int) = 95 := by omega
        have il1 : l ≤ 102 := by omega
        have hndig : ¬ (48 ≤ c.toNat ∧ c.toNat ≤ 57) := by
          intro h
          have : Lex.hx c = some (c.toNat - 48) := by unfold Lex.hx; rw [if_pos h]
          rw [this] at hd
          have := Option.some.inj hd
          omega
        by_cases hcut : 1152921504606846976 ≤ acc
        · have hF : Lex.hexU acc (c :: bs.drop (k + 1)) = .range := by simp [Lex.hexU, hd, hcut]
          rw [hF] at hdec
          have icut : 1152921504606846976 ≤ a := by omega
          clear hcut hacc hF ha hl hd hd0 hd1 hl256
          go_wp2_with (go_at_call 83; refine (Tryd.internal_strconv_lower _ _).mono ?_; rintro e w' ⟨rfl, rfl⟩)
          all_goals go_ret2
          all_goals first | exact ⟨rfl, rfl⟩ | exact ⟨by rw [hdec]; rfl, rfl⟩
        · have hF : Lex.hexU acc (c :: bs.drop (k + 1)) = Lex.hexU (acc * 16 + (Lex.low c - 87)) (bs.drop (k + 1)) := by simp [Lex.hexU, hd, hcut]
          have HN : Hid (a * 16 + (l - 97 + 10) = ((acc * 16 + (Lex.low c - 87) : Nat) : Int) ∧ acc * 16 + (Lex.low c - 87) < 18446744073709551616 ∧ Lex.hexU 0 bs = Lex.hexU (acc * 16 + (Lex.low c - 87)) (bs.drop (k + 1))) := Lib.hid ⟨by omega, by omega, hdec.trans hF⟩
          have icut : a < 1152921504606846976 := by omega
          have iov : a * 16 + (l - 97 + 10) < 18446744073709551616 := by omega
          clear hcut hacc hF hdec ha hl hd hd0 hd1 hl256
          go_wp2_with (go_at_call 83; refine (Tryd.internal_strconv_lower _ _).mono ?_; rintro e w' ⟨rfl, rfl⟩)
          all_goals refine ⟨⟨k + 1, acc * 16 + (Lex.low c - 87), a * 16 + (l - 97 + 10), rfl, (by first | rfl | (congr 1; omega)), (by first | rfl | (congr 1; omega)), by omega, HN⟩, by simp [intOf]; omega⟩
      · have hF : Lex.hexU acc (c :: bs.drop (k + 1)) = Lib.NumEnd.syntax := by simp [Lex.hexU, hd]
        rw [hF] at hdec
        have hndig : ¬ (48 ≤ c.toNat ∧ c.toNat ≤ 57) := by
          intro h
          have : Lex.hx c = some (c.toNat - 48) := by unfold Lex.hx; rw [if_pos h]
          rw [this] at hd
          cases hd
        have il1 : 0 ≤ l := by omega
        have il2 : l < 256 := by omega
        have il3 : l < 97 ∨ 102 < l := by omega
        clear hacc hF ha hl hd hd0 hl256
        by_cases h95 : (c.toNat : Int) = 95
        · rw [h95] at hc hlow
          clear hc256 hndig
          go_wp2_with (go_at_call 83; refine (Tryd.internal_strconv_lower _ _).mono ?_; rintro e w' ⟨rfl, rfl⟩)
          all_goals go_ret2
          all_goals first | exact ⟨rfl, rfl⟩ | exact ⟨by rw [hdec]; rfl, rfl⟩
        go_wp2_with (go_at_call 83; refine (Tryd.internal_strconv_lower _ _).mono ?_; rintro e w' ⟨rfl, rfl⟩)
        all_goals go_ret2
        all_goals first | exact ⟨rfl, rfl⟩ | exact ⟨by rw [hdec]; rfl, rfl⟩
    · have hkk : k = t.size := by omega
      subst hkk
      have hF : Lex.hexU acc (bs.drop t.size) = .ok acc := by rw [List.drop_eq_nil_of_le (by omega)]; rfl
      rw [hF] at hdec
      subst ha
      clear hacc hF a0 a1
      go_wp2
      go_ret2
      exact ⟨rfl, rfl⟩
end PLex
end Go.Proofs.YtbaojlfnbfbjmaaDoor
