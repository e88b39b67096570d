/- Numbers: digits without needless zeros are just those that formatting gives back. Plain. -/
import Derived.Test.YtbaojlfnbfbjmaaDoorLexSpec
import Derived.Lib.ItoaNum
import Derived.Lib.ParseIntB
namespace Go.Proofs.Lx

/-- The digits of u to the base b, by a table of digits. -/
def fmtB (dg : Nat → UInt8) (b u : Nat) : List UInt8 :=
  if _h : u < b ∨ b < 2 then [dg u] else fmtB dg b (u / b) ++ [dg (u % b)]
termination_by u
decreasing_by exact Nat.div_lt_self (by omega) (by omega)

theorem digits_snoc (d : UInt8 → Option Nat) (b : Nat) (c : UInt8) : ∀ (l : List UInt8) (n : Nat), digits d b n (l ++ [c]) = (digits d b n l).bind fun m => (d c).map fun x => b * m + x
  | [], n => by
    simp only [List.nil_append, digits, Option.bind_some]
    cases d c <;> rfl
  | a :: l, n => by
    simp only [List.cons_append, digits]
    cases d a with
    | none => rfl
    | some x => exact digits_snoc d b c l _

theorem digits_ge (d : UInt8 → Option Nat) (b : Nat) (hb : 1 ≤ b) : ∀ (l : List UInt8) (n m : Nat), digits d b n l = some m → n ≤ m
  | [], n, m, h => by simp only [digits, Option.some.injEq] at h; omega
  | a :: l, n, m, h => by
    simp only [digits] at h
    cases hd : d a with
    | none => rw [hd] at h; cases h
    | some x =>
      rw [hd] at h
      have := digits_ge d b hb l _ m h
      have : n ≤ b * n := Nat.le_mul_of_pos_left n hb
      omega

theorem digits_lt (d : UInt8 → Option Nat) (b : Nat) (hd : ∀ c x, d c = some x → x < b) : ∀ (l : List UInt8) (n m : Nat), digits d b n l = some m → m < b ^ l.length * (n + 1)
  | [], n, m, h => by simp only [digits, Option.some.injEq] at h; simp; omega
  | a :: l, n, m, h => by
    simp only [digits] at h
    cases hx : d a with
    | none => rw [hx] at h; cases h
    | some x =>
      rw [hx] at h
      have h1 := digits_lt d b hd l _ m h
      have h2 := hd a x hx
      refine Nat.lt_of_lt_of_le h1 ?_
      rw [List.length_cons, Nat.pow_succ, Nat.mul_assoc]
      refine Nat.mul_le_mul_left _ ?_
      rw [Nat.mul_add, Nat.mul_one]
      omega

/-- No needless zero. -/
def Tight (l : List UInt8) : Prop := l ≠ [] ∧ (1 < l.length → l.head? ≠ some 48)

section
variable {d : UInt8 → Option Nat} {b : Nat} {dg : Nat → UInt8}

theorem fmt_of_digits (hb : 2 ≤ b) (hd : ∀ c x, d c = some x → x < b ∧ dg x = c) (h0 : ∀ c, d c = some 0 → c = 48) (l : List UInt8) :
    ∀ n, Tight l → digits d b 0 l = some n → fmtB dg b n = l := by
  induction hL : l.length using Nat.strongRecOn generalizing l with
  | _ L ih =>
    intro n ht hn
    rcases List.eq_nil_or_concat l with rfl | ⟨l', c, rfl⟩
    · exact absurd rfl ht.1
    · rw [List.concat_eq_append] at hL ht hn ⊢
      rw [digits_snoc] at hn
      obtain ⟨m, hm, hn⟩ := Option.bind_eq_some_iff.1 hn
      obtain ⟨x, hx, rfl⟩ := Option.map_eq_some_iff.1 hn
      obtain ⟨hxb, hxc⟩ := hd c x hx
      by_cases hl : l' = []
      · subst hl
        simp only [digits, Option.some.injEq] at hm
        subst hm
        rw [fmtB, dif_pos (by left; omega)]
        simp [hxc]
      · have hlen : 0 < l'.length := List.length_pos_iff.2 hl
        have ht' : Tight l' := by
          refine ⟨hl, fun _ => ?_⟩
          have := ht.2 (by simp; omega)
          cases l' with
          | nil => exact absurd rfl hl
          | cons a t => simpa using this
        have hm1 : 1 ≤ m := by
          cases l' with
          | nil => exact absurd rfl hl
          | cons a t =>
            simp only [digits] at hm
            cases ha : d a with
            | none => rw [ha] at hm; cases hm
            | some y =>
              rw [ha] at hm
              have := digits_ge d b (by omega) t _ m hm
              have hy : y ≠ 0 := by
                rintro rfl
                have := ht.2 (by simp)
                simp [h0 a ha] at this
              omega
        have hge : ¬ (b * m + x < b ∨ b < 2) := by
          have : b * 1 ≤ b * m := Nat.mul_le_mul_left b hm1
          omega
        rw [fmtB, dif_neg hge]
        have e1 : (b * m + x) / b = m := by rw [Nat.mul_add_div (by omega), Nat.div_eq_of_lt hxb]; omega
        have e2 : (b * m + x) % b = x := by rw [Nat.mul_add_mod, Nat.mod_eq_of_lt hxb]
        rw [e1, e2, hxc, ih l'.length (by simp at hL; omega) l' rfl m ht' hm]

theorem digits_of_fmt (hb : 2 ≤ b) (hg : ∀ x, x < b → d (dg x) = some x) (h48 : ∀ x, x < b → dg x = 48 → x = 0) (n : Nat) :
    Tight (fmtB dg b n) ∧ digits d b 0 (fmtB dg b n) = some n ∧ (1 ≤ n → (fmtB dg b n).head? ≠ some 48) := by
  induction n using Nat.strongRecOn with
  | _ n ih =>
    by_cases hn : n < b
    · rw [fmtB, dif_pos (by left; exact hn)]
      refine ⟨⟨by simp, by simp⟩, by simp [digits, hg n hn], fun h1 => ?_⟩
      intro e
      simp at e
      have := h48 n hn e
      omega
    · obtain ⟨i1, i2, i3⟩ := ih (n / b) (Nat.div_lt_self (by omega) (by omega))
      have hq : 1 ≤ n / b := Nat.div_pos (by omega) (by omega)
      have hh := i3 hq
      rw [fmtB, dif_neg (by omega)]
      have hne := i1.1
      have hhead : (fmtB dg b (n / b) ++ [dg (n % b)]).head? = (fmtB dg b (n / b)).head? := by
        cases h : fmtB dg b (n / b) with
        | nil => exact absurd h hne
        | cons a t => rfl
      refine ⟨⟨by simp, fun _ => by rw [hhead]; exact hh⟩, ?_, fun _ => by rw [hhead]; exact hh⟩
      rw [digits_snoc, i2, Option.bind_some, hg (n % b) (Nat.mod_lt _ (by omega))]
      simp [Nat.div_add_mod]
end

def dgd (x : Nat) : UInt8 := UInt8.ofNat (48 + x)
def dgh (x : Nat) : UInt8 := if x < 10 then UInt8.ofNat (48 + x) else UInt8.ofNat (87 + x)

theorem dec_dg : ∀ c : UInt8, ∀ x, dec c = some x → x < 10 ∧ dgd x = c := by
  intro c x h
  unfold dec isD at h
  split at h
  · rename_i hc
    simp only [Option.some.injEq] at h
    simp [UInt8.le_iff_toNat_le] at hc
    subst h
    refine ⟨by omega, ?_⟩
    unfold dgd
    apply UInt8.toNat_inj.1
    simp
    omega
  · cases h
theorem hexd_dg : ∀ c : UInt8, ∀ x, hexd c = some x → x < 16 ∧ dgh x = c := by
  intro c x h
  unfold hexd isD at h
  split at h
  · rename_i hc
    simp only [Option.some.injEq] at h
    simp [UInt8.le_iff_toNat_le] at hc
    subst h
    refine ⟨by omega, ?_⟩
    unfold dgh
    rw [if_pos (by omega)]
    apply UInt8.toNat_inj.1
    simp
    omega
  · split at h
    · rename_i _ hc
      simp only [Option.some.injEq] at h
      simp [UInt8.le_iff_toNat_le] at hc
      subst h
      refine ⟨by omega, ?_⟩
      unfold dgh
      rw [if_neg (by omega)]
      apply UInt8.toNat_inj.1
      simp
      omega
    · cases h
theorem dec_zero (c : UInt8) (h : dec c = some 0) : c = 48 := by have := (dec_dg c 0 h).2; exact this.symm
theorem hexd_zero (c : UInt8) (h : hexd c = some 0) : c = 48 := by have := (hexd_dg c 0 h).2; exact this.symm
theorem dg_dec : ∀ x, x < 10 → dec (dgd x) = some x := by decide
theorem dg_hexd : ∀ x, x < 16 → hexd (dgh x) = some x := by decide
theorem dgd_48 : ∀ x, x < 10 → dgd x = 48 → x = 0 := by decide
theorem dgh_48 : ∀ x, x < 16 → dgh x = 48 → x = 0 := by decide

theorem decDigits_fmt (u : Nat) : Go.Lib.decDigits u = fmtB dgd 10 u := by
  induction u using Nat.strongRecOn with
  | _ u ih =>
    rw [Go.Lib.decDigits, fmtB]
    by_cases h : u < 10
    · rw [dif_pos h, dif_pos (by left; exact h)]; rfl
    · rw [dif_neg h, dif_neg (by omega), ih (u / 10) (by omega)]; rfl

theorem canon_iff {d : UInt8 → Option Nat} {b most : Nat} {l : List UInt8} {n : Nat} : canon d b most l = some n ↔ Tight l ∧ l.length ≤ most ∧ digits d b 0 l = some n := by
  unfold canon Tight
  split
  · rename_i h
    constructor
    · intro e; cases e
    · rintro ⟨⟨h1, h2⟩, h3, _⟩
      exfalso
      rcases h with h | h | ⟨h, h'⟩
      · exact h1 (List.eq_nil_of_length_eq_zero (by omega))
      · omega
      · exact h2 h h'
  · rename_i h
    simp only [not_or, not_and] at h
    constructor
    · intro e
      exact ⟨⟨by intro e; subst e; simp at h, h.2.2⟩, by omega, e⟩
    · rintro ⟨_, _, e⟩; exact e

/-- A numeral that is just as it is formatted. -/
theorem canon_dec_fmt {l : List UInt8} {n : Nat} : canon dec 10 18 l = some n ↔ l.length ≤ 18 ∧ l = Go.Lib.decDigits n := by
  rw [canon_iff, decDigits_fmt]
  constructor
  · rintro ⟨h1, h2, h3⟩
    exact ⟨h2, (fmt_of_digits (by decide) dec_dg dec_zero l n h1 h3).symm⟩
  · rintro ⟨h1, rfl⟩
    obtain ⟨a, c, _⟩ := digits_of_fmt (b := 10) (by decide) dg_dec dgd_48 n
    exact ⟨a, h1, c⟩
theorem canon_hex_fmt {l : List UInt8} {n : Nat} : canon hexd 16 15 l = some n ↔ l.length ≤ 15 ∧ l = fmtB dgh 16 n := by
  rw [canon_iff]
  constructor
  · rintro ⟨h1, h2, h3⟩
    exact ⟨h2, (fmt_of_digits (by decide) hexd_dg hexd_zero l n h1 h3).symm⟩
  · rintro ⟨h1, rfl⟩
    obtain ⟨a, c, _⟩ := digits_of_fmt (b := 16) (by decide) dg_hexd dgh_48 n
    exact ⟨a, h1, c⟩

end Go.Proofs.Lx
