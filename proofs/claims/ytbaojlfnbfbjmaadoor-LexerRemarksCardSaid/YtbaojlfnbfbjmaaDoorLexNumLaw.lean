/- Numbers: what parsing, the limit and formatting together come to. Plain. -/
import Derived.Test.YtbaojlfnbfbjmaaDoorLexParse
import Derived.Test.YtbaojlfnbfbjmaaDoorLexName
import Derived.Lib.ParseIntBCases
namespace Go.Proofs.YtbaojlfnbfbjmaaDoor
open Go.RowKit Go.Proofs Go
namespace Lex
theorem hexd_hx (c : UInt8) (x : Nat) (h : Lx.hexd c = some x) : hx c = some x := by
  revert h
  revert x
  revert c
  intro c x h
  have := (show ∀ c : UInt8, Lx.hexd c = none ∨ Lx.hexd c = hx c from byte_allX (by decide +kernel)) c
  rcases this with e | e
  · rw [e] at h; cases h
  · rw [← e]; exact h
theorem hexU_digits : ∀ (l : List UInt8) (acc m : Nat), Lx.digits Lx.hexd 16 acc l = some m → m < 18446744073709551616 → hexU acc l = .ok m
  | [], acc, m, h, hm => by
    simp only [Lx.digits, Option.some.injEq] at h
    simp [hexU, h]
  | c :: l, acc, m, h, hm => by
    simp only [Lx.digits] at h
    cases hd : Lx.hexd c with
    | none => rw [hd] at h; cases h
    | some x =>
      rw [hd] at h
      have hge := Lx.digits_ge Lx.hexd 16 (by decide) l _ m h
      simp only [hexU, hexd_hx c x hd]
      rw [if_neg (by omega), Nat.mul_comm]
      exact hexU_digits l _ m h hm
theorem dec_digits : ∀ (l : List UInt8) (acc m : Nat), Lx.digits Lx.dec 10 acc l = some m → m < 18446744073709551616 → Lib.parseUint10 acc l = .ok m
  | [], acc, m, h, hm => by
    simp only [Lx.digits, Option.some.injEq] at h
    simp [Lib.parseUint10, h]
  | c :: l, acc, m, h, hm => by
    simp only [Lx.digits] at h
    cases hd : Lx.dec c with
    | none => rw [hd] at h; cases h
    | some x =>
      rw [hd] at h
      have hge := Lx.digits_ge Lx.dec 10 (by decide) l _ m h
      unfold Lx.dec at hd
      split at hd
      · rename_i hc
        rw [isD_iff] at hc
        injection hd with hd
        simp only [Lib.parseUint10]
        rw [if_pos hc, if_neg (by omega), if_neg (by omega), show acc * 10 + (c.toNat - 48) = 10 * acc + x by omega]
        exact dec_digits l _ m h hm
      · cases hd
theorem hex_law (r : List UInt8) : (∃ n : Nat, hexI r = .ok (n : Int) ∧ n < 9223372036854775808 ∧ Lx.canon Lx.hexd 16 15 r = if r.length ≤ 15 ∧ r = Lx.fmtB Lx.dgh 16 n then some n else none) ∨ ((hexI r = .syntax ∨ hexI r = .range) ∧ Lx.canon Lx.hexd 16 15 r = none) := by
  have key : ∀ m, Lx.canon Lx.hexd 16 15 r = some m → hexI r = .ok (m : Int) ∧ m < 9223372036854775808 := by
    intro m hm
    obtain ⟨ht, hl, hd⟩ := Lx.canon_iff.1 hm
    have hlt := Lx.digits_lt Lx.hexd 16 (fun c x h => (Lx.hexd_dg c x h).1) r 0 m hd
    have hp : 16 ^ r.length ≤ 16 ^ 15 := Nat.pow_le_pow_right (by decide) hl
    have hm' : m < 9223372036854775808 := by
      have : (16 : Nat) ^ 15 < 9223372036854775808 := by decide
      omega
    refine ⟨?_, hm'⟩
    unfold hexI
    rw [if_neg ht.1, hexU_digits r 0 m hd (by omega)]
    simp [show ¬ 9223372036854775808 ≤ m by omega]
  cases hE : hexI r with
  | ok v =>
    left
    have hv : ∃ n : Nat, v = (n : Int) ∧ n < 9223372036854775808 := by
      unfold hexI at hE
      split at hE
      · cases hE
      · split at hE
        · split at hE
          · cases hE
          · injection hE with hE; exact ⟨_, hE.symm, by omega⟩
        · cases hE
        · cases hE
    obtain ⟨n, rfl, hn⟩ := hv
    refine ⟨n, rfl, hn, ?_⟩
    split
    · rename_i h
      exact Lx.canon_hex_fmt.2 h
    · rename_i h
      cases hc : Lx.canon Lx.hexd 16 15 r with
      | none => rfl
      | some m =>
        obtain ⟨e, _⟩ := key m hc
        rw [hE] at e
        injection e with e
        obtain rfl : n = m := by omega
        exact absurd (Lx.canon_hex_fmt.1 hc) h
  | «syntax» =>
    right
    refine ⟨.inl rfl, ?_⟩
    cases hc : Lx.canon Lx.hexd 16 15 r with
    | none => rfl
    | some m => have := (key m hc).1; rw [hE] at this; cases this
  | range =>
    right
    refine ⟨.inr rfl, ?_⟩
    cases hc : Lx.canon Lx.hexd 16 15 r with
    | none => rfl
    | some m => have := (key m hc).1; rw [hE] at this; cases this
theorem dec_law (r : List UInt8) (h43 : r.head? ≠ some 43) (h45 : r.head? ≠ some 45) : (∃ n : Nat, Lib.parseIntB 64 r = .ok (n : Int) ∧ n < 9223372036854775808 ∧ Lx.canon Lx.dec 10 18 r = if r.length ≤ 18 ∧ r = Lib.decDigits n then some n else none) ∨ ((Lib.parseIntB 64 r = .syntax ∨ Lib.parseIntB 64 r = .range) ∧ Lx.canon Lx.dec 10 18 r = none) := by
  have hpl : Lib.parseIntB 64 r = if r = [] then .syntax else Lib.signlessC (2 ^ 63) (Lib.parseUint10 0 r) := by
    cases r with
    | nil => rfl
    | cons c t =>
      rw [Lib.parseIntB_plain 64 c t (fun h => h43 (by rw [List.head?_cons, show c = 43 from UInt8.toNat_inj.1 h])) (fun h => h45 (by rw [List.head?_cons, show c = 45 from UInt8.toNat_inj.1 h]))]
      rw [if_neg (by simp)]
      unfold Lib.parseUintB
      rw [if_neg (by simp), show (2 : Nat) ^ 64 - 1 = 18446744073709551615 by decide, Lib.parseUintM_64]
  have e63 : (2 : Nat) ^ 63 = 9223372036854775808 := by decide
  rw [e63] at hpl
  have key : ∀ m, Lx.canon Lx.dec 10 18 r = some m → Lib.parseIntB 64 r = .ok (m : Int) ∧ m < 9223372036854775808 := by
    intro m hm
    obtain ⟨ht, hl, hd⟩ := Lx.canon_iff.1 hm
    have hlt := Lx.digits_lt Lx.dec 10 (fun c x h => (Lx.dec_dg c x h).1) r 0 m hd
    have hp : 10 ^ r.length ≤ 10 ^ 18 := Nat.pow_le_pow_right (by decide) hl
    have hm' : m < 9223372036854775808 := by
      have : (10 : Nat) ^ 18 < 9223372036854775808 := by decide
      omega
    refine ⟨?_, hm'⟩
    rw [hpl, if_neg ht.1, dec_digits r 0 m hd (by omega)]
    simp [Lib.signlessC, show ¬ 9223372036854775808 ≤ m by omega]
  cases hE : Lib.parseIntB 64 r with
  | ok v =>
    left
    have hv : ∃ n : Nat, v = (n : Int) ∧ n < 9223372036854775808 := by
      rw [hpl] at hE
      split at hE
      · cases hE
      · cases hU : Lib.parseUint10 0 r with
        | ok u =>
          rw [hU] at hE
          simp only [Lib.signlessC] at hE
          split at hE
          · cases hE
          · injection hE with hE; exact ⟨_, hE.symm, by omega⟩
        | «syntax» => rw [hU] at hE; cases hE
        | range => rw [hU] at hE; cases hE
    obtain ⟨n, rfl, hn⟩ := hv
    refine ⟨n, rfl, hn, ?_⟩
    split
    · rename_i h
      exact Lx.canon_dec_fmt.2 h
    · rename_i h
      cases hc : Lx.canon Lx.dec 10 18 r with
      | none => rfl
      | some m =>
        obtain ⟨e, _⟩ := key m hc
        rw [hE] at e
        injection e with e
        obtain rfl : n = m := by omega
        exact absurd (Lx.canon_dec_fmt.1 hc) h
  | «syntax» =>
    right
    refine ⟨.inl rfl, ?_⟩
    cases hc : Lx.canon Lx.dec 10 18 r with
    | none => rfl
    | some m => have := (key m hc).1; rw [hE] at this; cases this
  | range =>
    right
    refine ⟨.inr rfl, ?_⟩
    cases hc : Lx.canon Lx.dec 10 18 r with
    | none => rfl
    | some m => have := (key m hc).1; rw [hE] at this; cases this
end Lex
end Go.Proofs.YtbaojlfnbfbjmaaDoor
