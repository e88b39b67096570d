/- The reference of the lexer, as it is printed, answers as the plain words say: spaces, classes, names, numbers. Plain: no memory. -/
import Derived.Test.YtbaojlfnbfbjmaaDoorLexPure
import Derived.Test.YtbaojlfnbfbjmaaDoorPLex2
import Derived.Test.YtbaojlfnbfbjmaaDoorPLex2
import Derived.Test.YtbaojlfnbfbjmaaDoorPLex4
import Derived.Test.YtbaojlfnbfbjmaaDoorPLex3
import Derived.Test.YtbaojlfnbfbjmaaDoorPLex5
import Derived.Laws.Strings
namespace Go.Proofs.YtbaojlfnbfbjmaaDoor.Pure
open Go.RowKit Go.Proofs.YtbaojlfnbfbjmaaDoor.PLex Go.Proofs.YtbaojlfnbfbjmaaDoorW.PrintWords Go.Proofs.YtbaojlfnbfbjmaaDoorW.PrintLast Go.Proofs.YtbaojlfnbfbjmaaDoor.Lex
theorem bI (c d : UInt8) (n : Int) (h : (d.toNat : Int) = n) : ((c.toNat : Nat) : Int) = n ↔ c = d := by
  subst h
  constructor
  · intro e
    exact UInt8.toNat_inj.1 (by omega)
  · rintro rfl
    rfl
theorem L_len (s : ByteArray) : (L s).length = s.size := by simp [L]
/-! classes -/
theorem letter_ref (c : UInt8) : retargetref07_letter.f (c.toNat : Int) = some (Lx.isL c) :=
  Lex.byte_all (P := fun c => retargetref07_letter.f (c.toNat : Int) = some (Lx.isL c)) (by decide +kernel) c
theorem digit_ref (c : UInt8) : retargetref07_digit.f (c.toNat : Int) = some (Lx.isD c) :=
  Lex.byte_all (P := fun c => retargetref07_digit.f (c.toNat : Int) = some (Lx.isD c)) (by decide +kernel) c
theorem word_ref (c : UInt8) : retargetref07_word.f (c.toNat : Int) = some (Lx.isW c) := by
  unfold retargetref07_word.f Lx.isW
  rw [letter_ref, digit_ref]
  simp only [Option.bind_some]
  cases Lx.isL c
  · cases Lx.isD c
    · simp only [Bool.false_eq_true, if_false, Bool.false_or, Option.some.injEq]
      rw [Bool.eq_iff_iff, beq_iff_eq, beq_iff_eq]
      exact bI c 95 95 rfl
    · simp
  · simp
theorem mark_ref (c : UInt8) (k : Nat) (hk : 15 ≤ k) : retargetref07_mark.f k (c.toNat : Int) = some (Lx.isM c) := by
  have h := Lex.byte_all (P := fun c => retargetref07_mark.f 15 (c.toNat : Int) = some (Lx.isM c)) (by decide +kernel) c
  exact leO_le (F := fun k => retargetref07_mark.f k (c.toNat : Int)) (retargetref07_mark.mono _) h k hk
theorem hexadecimal_ref (c : UInt8) : retargetref07_hexadecimal.f (c.toNat : Int) = some (match Lx.hexd c with | some x => (x : Int) | none => -1) :=
  Lex.byte_all (P := fun c => retargetref07_hexadecimal.f (c.toNat : Int) = some (match Lx.hexd c with | some x => (x : Int) | none => -1)) (by decide +kernel) c
theorem hexd_lt (c : UInt8) (x : Nat) (h : Lx.hexd c = some x) : x < 16 := by
  have := Lex.byte_all (P := fun c => (Lx.hexd c).all (· < 16) = true) (by decide +kernel) c
  simp only [h] at this
  simpa using this
theorem dec_at (c : UInt8) : Lx.dec c = if Lx.isD c then some (c.toNat - 48) else none := rfl
theorem isD_val (c : UInt8) (h : Lx.isD c = true) : (((c.toNat : Int) - 48) % 256) = ((c.toNat - 48 : Nat) : Int) ∧ c.toNat - 48 < 10 ∧ 48 ≤ c.toNat := by
  simp only [Lx.isD, Bool.and_eq_true, decide_eq_true_eq, UInt8.le_iff_toNat_le] at h
  have h1 : (48 : UInt8).toNat = 48 := rfl
  have h2 : (57 : UInt8).toNat = 57 := rfl
  omega
/-! numbers -/
theorem pow_step (b n i : Nat) (h : n < b ^ i) (x : Nat) (hx : x < b) : b * n + x < b ^ (i + 1) := by
  have : b * (n + 1) ≤ b * b ^ i := Nat.mul_le_mul_left b h
  rw [Nat.pow_succ, Nat.mul_comm (b ^ i) b]
  rw [Nat.mul_add] at this
  omega
def outN : Option Nat → Int × Bool
  | some n => ((n : Int), true)
  | none => (0, false)
theorem number_l0 (s : ByteArray) (hs : s.size ≤ 15) : ∀ (d i : Nat), i + d = s.size → ∀ n : Nat, n < 16 ^ i → ∀ k, d + 1 ≤ k → retargetref07_Number.l0 k s (n : Int) (i : Int) = some (outN (Lx.digits Lx.hexd 16 n ((L s).drop i))) := by
  intro d
  induction d with
  | zero =>
    intro i hi n hn k hk
    match k, hk with
    | k + 1, _ =>
      simp only [retargetref07_Number.l0]
      rw [if_neg (by omega), Lex.drop_end s i (by omega)]
      rfl
  | succ d ih =>
    intro i hi n hn k hk
    match k, hk with
    | k + 1, hk =>
      have hi' : i < s.size := by omega
      have h16 : 16 ^ i ≤ 16 ^ 14 := Nat.pow_le_pow_right (by omega) (by omega)
      have e16 : 16 ^ 14 = 72057594037927936 := by decide
      simp only [retargetref07_Number.l0]
      rw [if_pos (by omega), if_pos (by omega), bt_nat s i hi', hexadecimal_ref, Lex.dropL s i hi']
      cases hx : Lx.hexd s[i] with
      | none => simp [Lx.digits, hx, outN]
      | some x =>
        have hx16 := hexd_lt _ _ hx
        simp only [Option.bind_some]
        rw [if_neg (by omega), w64n i (by omega), w64 (i := 16 * (n : Int)) (by omega) (by omega), w64 (by omega) (by omega)]
        have e : (16 * (n : Int) + (x : Int)) = ((16 * n + x : Nat) : Int) := by omega
        rw [e, ih (i + 1) (by omega) (16 * n + x) (pow_step 16 n i hn x hx16) k (by omega)]
        simp [Lx.digits, hx]
theorem number_l1 (s : ByteArray) (hs : s.size ≤ 18) (g : Int) (hg : g = 1 ∨ g = -1) : ∀ (d i : Nat), i + d = s.size → ∀ n : Nat, n < 10 ^ i → ∀ k, d + 1 ≤ k → retargetref07_Number.l1 k s g (n : Int) (i : Int) = some (g * (outN (Lx.digits Lx.dec 10 n ((L s).drop i))).1, (outN (Lx.digits Lx.dec 10 n ((L s).drop i))).2) := by
  intro d
  induction d with
  | zero =>
    intro i hi n hn k hk
    have h10 : 10 ^ i ≤ 10 ^ 18 := Nat.pow_le_pow_right (by omega) (by omega)
    have e10 : 10 ^ 18 = 1000000000000000000 := by decide
    match k, hk with
    | k + 1, _ =>
      simp only [retargetref07_Number.l1]
      rw [if_neg (by omega), Lex.drop_end s i (by omega)]
      rcases hg with rfl | rfl <;> (rw [w64 (by omega) (by omega)]; rfl)
  | succ d ih =>
    intro i hi n hn k hk
    match k, hk with
    | k + 1, hk =>
      have hi' : i < s.size := by omega
      have h10 : 10 ^ i ≤ 10 ^ 17 := Nat.pow_le_pow_right (by omega) (by omega)
      have e10 : 10 ^ 17 = 100000000000000000 := by decide
      simp only [retargetref07_Number.l1]
      rw [if_pos (by omega), if_pos (by omega), bt_nat s i hi', digit_ref, Lex.dropL s i hi']
      simp only [Option.bind_some]
      by_cases hD : Lx.isD s[i] = true
      · obtain ⟨hv, hx, h48⟩ := isD_val _ hD
        rw [if_pos hD, hv, w64n i (by omega), w64 (i := 10 * (n : Int)) (by omega) (by omega), w64 (by omega) (by omega)]
        have e : (10 * (n : Int) + ((s[i].toNat - 48 : Nat) : Int)) = ((10 * n + (s[i].toNat - 48) : Nat) : Int) := by omega
        rw [e, ih (i + 1) (by omega) _ (pow_step 10 n i hn _ hx) k (by omega)]
        simp [Lx.digits, dec_at, hD]
      · rw [if_neg hD]
        simp [Lx.digits, dec_at, hD, outN]
theorem number_j5 (s : ByteArray) (hs : s.size ≤ 18) (g : Int) (hg : g = 1 ∨ g = -1) (k : Nat) (hk : s.size + 2 ≤ k) : retargetref07_Number.j5 k s g false = some (g * (outN (Lx.digits Lx.dec 10 0 (L s))).1, (outN (Lx.digits Lx.dec 10 0 (L s))).2) := by
  match k, hk with
  | k + 1, hk =>
    simp only [retargetref07_Number.j5]
    rw [if_neg (by decide)]
    exact number_l1 s hs g hg s.size 0 (by omega) 0 (by decide) k (by omega)
theorem number_j5t (s : ByteArray) (g : Int) (k : Nat) (hk : 1 ≤ k) : retargetref07_Number.j5 k s g true = some (0, false) := by
  match k, hk with
  | k + 1, hk =>
    simp only [retargetref07_Number.j5, if_true]
theorem head_at (s : ByteArray) (h : 0 < s.size) : (L s).head? = some s[0] := by
  have := Lex.dropL s 0 h
  rw [List.drop_zero] at this
  rw [this]
  rfl
theorem number_j4 (s : ByteArray) (g : Int) (hg : g = 1 ∨ g = -1) (k : Nat) (hk : 25 ≤ k) : retargetref07_Number.j4 k s g = some (g * (outN (Lx.canon Lx.dec 10 18 (L s))).1, (outN (Lx.canon Lx.dec 10 18 (L s))).2) := by
  have hl := L_len s
  match k, hk with
  | k + 1, hk =>
    simp only [retargetref07_Number.j4]
    have no : (L s).length < 1 ∨ 18 < (L s).length ∨ (1 < (L s).length ∧ (L s).head? = some 48) → retargetref07_Number.j5 k s g true = some (g * (outN (Lx.canon Lx.dec 10 18 (L s))).1, (outN (Lx.canon Lx.dec 10 18 (L s))).2) := fun h => by
      rw [number_j5t s g k (by omega), Lx.canon, if_pos h]
      simp [outN]
    have yes : ¬ ((L s).length < 1 ∨ 18 < (L s).length ∨ (1 < (L s).length ∧ (L s).head? = some 48)) → retargetref07_Number.j5 k s g false = some (g * (outN (Lx.canon Lx.dec 10 18 (L s))).1, (outN (Lx.canon Lx.dec 10 18 (L s))).2) := fun h => by
      rw [number_j5 s (by omega) g hg k (by omega), Lx.canon, if_neg h]
    by_cases h1 : (s.size : Int) < 1
    · rw [if_pos h1]
      exact no (.inl (by omega))
    rw [if_neg h1]
    by_cases h2 : (s.size : Int) > 18
    · rw [if_pos h2]
      exact no (.inr (.inl (by omega)))
    rw [if_neg h2]
    have hb := bt_nat s 0 (by omega)
    have hh := head_at s (by omega)
    by_cases h3 : (s.size : Int) > 1
    · rw [if_pos h3, if_pos (by omega)]
      rw [show bt s 0 = (s[0].toNat : Int) from hb]
      by_cases h : s[0] = 48
      · rw [show (((s[0].toNat : Nat) : Int) == 48) = true from beq_iff_eq.2 ((bI _ 48 48 rfl).2 h)]
        exact no (.inr (.inr ⟨by omega, by rw [hh, h]⟩))
      · rw [show (((s[0].toNat : Nat) : Int) == 48) = false from beq_eq_false_iff_ne.2 (fun e => h ((bI _ 48 48 rfl).1 e))]
        refine yes ?_
        rintro (h' | h' | ⟨_, h'⟩)
        · omega
        · omega
        · rw [hh] at h'
          exact h (Option.some.inj h')
    · rw [if_neg h3]
      exact yes (by omega)
theorem L_rest (s : ByteArray) (i : Nat) : L (s.extract i s.size) = (L s).drop i := Lib.extract_to_end s i
theorem rest_size (s : ByteArray) (i : Nat) : (s.extract i s.size).size = s.size - i := by
  have := congrArg List.length (L_rest s i)
  rwa [L_len, List.length_drop, L_len] at this
theorem outN_map_neg (o : Option Nat) : ((-1) * (outN o).1, (outN o).2) = (match (o.map fun (n : Nat) => -(n : Int)) with | some n => (n, true) | none => (0, false)) := by
  cases o with
  | none => rfl
  | some n =>
    show ((-1 : Int) * (n : Int), true) = (-(n : Int), true)
    rw [Int.neg_one_mul]
theorem outN_map (o : Option Nat) : (1 * (outN o).1, (outN o).2) = (match (o.map Int.ofNat) with | some n => (n, true) | none => (0, false)) := by
  cases o with
  | none => rfl
  | some n =>
    show ((1 : Int) * (n : Int), true) = ((n : Int), true)
    rw [Int.one_mul]
/-- Number's answer. -/
def ansN (o : Option Int) : Int × Bool := match o with | some n => (n, true) | none => (0, false)
def numB (l : List UInt8) : Option Int :=
  match l with
  | 45 :: r => if r.head? = some 48 then none else (Lx.canon Lx.dec 10 18 r).map fun (n : Nat) => -(n : Int)
  | l => (Lx.canon Lx.dec 10 18 l).map Int.ofNat
theorem numB_minus (r : List UInt8) : numB (45 :: r) = if r.head? = some 48 then none else (Lx.canon Lx.dec 10 18 r).map fun (n : Nat) => -(n : Int) := rfl
theorem number_numB (l : List UInt8) (h : ∀ r, l ≠ 48 :: 120 :: r) : Lx.number l = numB l := by
  unfold Lx.number
  split
  · rename_i r
    exact absurd rfl (h r)
  · rw [numB_minus]
    split
    · rfl
    · cases Lx.canon Lx.dec 10 18 _ <;> rfl
  · rename_i h1 h2
    unfold numB
    split
    · rename_i r
      exact absurd rfl (h2 r)
    · rfl
theorem number_j3 (s : ByteArray) (b : Bool) (hb : b = (decide (0 < s.size) && decide ((L s).head? = some 45))) (k : Nat) (hk : 26 ≤ k) :
    retargetref07_Number.j3 k s 1 b = some (ansN (numB (L s))) := by
  match k, hk with
  | k + 1, hk =>
    simp only [retargetref07_Number.j3]
    cases hL : L s with
    | nil =>
      have : s.size = 0 := by rw [← L_len, hL]; rfl
      have hbf : b = false := by rw [hb, this]; rfl
      rw [hbf, if_neg (by decide), number_j4 s 1 (.inl rfl) k (by omega), outN_map, hL]
      rfl
    | cons c r =>
      have hsz : s.size = r.length + 1 := by rw [← L_len, hL]; rfl
      by_cases hc : c = 45
      · subst hc
        have hbt : b = true := by rw [hb, hL]; simp; omega
        have hr : L (s.extract 1 s.size) = r := by rw [L_rest, hL]; rfl
        have hrs := rest_size s 1
        rw [hbt, if_pos rfl, if_pos (by omega), hrs]
        by_cases h1 : ((s.size - 1 : Nat) : Int) < 1
        · rw [if_pos h1]
          have : r = [] := List.length_eq_zero_iff.1 (by omega)
          subst this
          rfl
        · rw [if_neg h1, if_pos (by omega)]
          have hh := head_at (s.extract 1 s.size) (by omega)
          rw [hr] at hh
          rw [show bt (s.extract 1 s.size) 0 = _ from bt_nat (s.extract 1 s.size) 0 (by omega)]
          by_cases h : (s.extract 1 s.size)[0]'(by omega) = 48
          · rw [if_pos ((bI _ 48 48 rfl).2 h)]
            have e : numB (45 :: r) = none := by
              rw [numB_minus, if_pos (by rw [hh, h])]
            rw [e]
            rfl
          · rw [if_neg (fun e => h ((bI _ 48 48 rfl).1 e)), number_j4 _ (-1) (.inr rfl) k (by omega), outN_map_neg, hr]
            have hne : ¬ r.head? = some 48 := by rw [hh]; exact fun e => h (Option.some.inj e)
            have e : numB (45 :: r) = (Lx.canon Lx.dec 10 18 r).map fun (n : Nat) => -(n : Int) := by
              rw [numB_minus, if_neg hne]
            rw [e]
            rfl
      · have hbf : b = false := by rw [hb, hL]; simp [hc]
        rw [hbf, if_neg (by decide), number_j4 s 1 (.inl rfl) k (by omega), outN_map, hL]
        have : numB (c :: r) = (Lx.canon Lx.dec 10 18 (c :: r)).map Int.ofNat := by
          unfold numB
          split
          · rename_i heq
            cases heq
            exact absurd rfl hc
          · rfl
        rw [this]
        rfl
theorem number_ref (s : ByteArray) (k : Nat) (hk : 40 ≤ k) : retargetref07_Number.f k s = some (ansN (Lx.number (L s))) := by
  have hj3 : ∀ (b : Bool), b = (decide (0 < s.size) && decide ((L s).head? = some 45)) → (∀ r, L s ≠ 48 :: 120 :: r) → ∀ k, 26 ≤ k → retargetref07_Number.j3 k s 1 b = some (ansN (Lx.number (L s))) := by
    intro b hb hno k hk
    rw [number_j3 s b hb k hk, number_numB _ hno]
  have hj0f : (∀ r, L s ≠ 48 :: 120 :: r) → ∀ k, 27 ≤ k → retargetref07_Number.j0 k s false = some (ansN (Lx.number (L s))) := by
    intro hno k hk
    match k, hk with
    | k + 1, hk =>
      simp only [retargetref07_Number.j0]
      rw [if_neg (by decide)]
      by_cases h0 : (s.size : Int) > 0
      · rw [if_pos h0, if_pos (by omega), show bt s 0 = _ from bt_nat s 0 (by omega)]
        refine hj3 _ ?_ hno k (by omega)
        rw [head_at s (by omega)]
        rw [Bool.eq_iff_iff, beq_iff_eq, Bool.and_eq_true, decide_eq_true_eq, decide_eq_true_eq, bI _ 45 45 rfl]
        exact ⟨fun e => ⟨by omega, by rw [e]⟩, fun e => Option.some.inj e.2⟩
      · rw [if_neg h0]
        refine hj3 _ ?_ hno k (by omega)
        have : s.size = 0 := by omega
        rw [this]
        rfl
  unfold retargetref07_Number.f
  have hL0 : (s.extract 0 2).toList = (L s).take 2 := by
    rw [ByteArray.toList_eq]
    simp [L]
  by_cases h2 : (s.size : Int) > 2
  · rw [if_pos h2, if_pos (by omega), if_pos (by omega), hL0]
    by_cases hx : (L s).take 2 = [48, 120]
    · obtain ⟨r, hr⟩ : ∃ r, L s = 48 :: 120 :: r := ⟨(L s).drop 2, by
        conv => lhs; rw [← List.take_append_drop 2 (L s), hx]
        rfl⟩
      have hsz : s.size = r.length + 2 := by rw [← L_len, hr]; rfl
      have hrest : L (s.extract 2 s.size) = r := by rw [L_rest, hr]; rfl
      have hrs := rest_size s 2
      have hnum : Lx.number (L s) = (Lx.canon Lx.hexd 16 15 r).map Int.ofNat := by rw [hr]; rfl
      rw [hx, hnum, show (([48, 120] : List UInt8) == [48, 120]) = true from rfl]
      obtain ⟨m, rfl⟩ : ∃ m, k = m + 3 := ⟨k - 3, by omega⟩
      have no : r.length < 1 ∨ 15 < r.length ∨ (1 < r.length ∧ r.head? = some 48) → retargetref07_Number.j1 (m + 2) (s.extract 2 s.size) true = some (ansN ((Lx.canon Lx.hexd 16 15 r).map Int.ofNat)) := fun h => by
        simp only [retargetref07_Number.j1, if_true]
        rw [Lx.canon, if_pos h]
        rfl
      have yes : ¬ (r.length < 1 ∨ 15 < r.length ∨ (1 < r.length ∧ r.head? = some 48)) → retargetref07_Number.j1 (m + 2) (s.extract 2 s.size) false = some (ansN ((Lx.canon Lx.hexd 16 15 r).map Int.ofNat)) := fun h => by
        simp only [retargetref07_Number.j1]
        rw [if_neg (by decide)]
        have := number_l0 (s.extract 2 s.size) (by omega) (s.extract 2 s.size).size 0 (by omega) 0 (by decide) (m + 1) (by omega)
        rw [Lx.canon, if_neg h]
        rw [List.drop_zero, hrest] at this
        refine this.trans ?_
        cases Lx.digits Lx.hexd 16 0 r <;> rfl
      simp only [retargetref07_Number.j0, if_true]
      rw [if_pos (by omega), hrs]
      by_cases h15 : ((s.size - 2 : Nat) : Int) > 15
      · rw [if_pos h15]
        exact no (.inr (.inl (by omega)))
      · rw [if_neg h15]
        have hh := head_at (s.extract 2 s.size) (by omega)
        rw [hrest] at hh
        by_cases h1 : ((s.size - 2 : Nat) : Int) > 1
        · rw [if_pos h1, if_pos (by omega), show bt (s.extract 2 s.size) 0 = _ from bt_nat (s.extract 2 s.size) 0 (by omega)]
          by_cases h : (s.extract 2 s.size)[0]'(by omega) = 48
          · rw [show ((((s.extract 2 s.size)[0]'(by omega)).toNat : Int) == 48) = true from beq_iff_eq.2 ((bI _ 48 48 rfl).2 h)]
            exact no (.inr (.inr ⟨by omega, by rw [hh, h]⟩))
          · rw [show ((((s.extract 2 s.size)[0]'(by omega)).toNat : Int) == 48) = false from beq_eq_false_iff_ne.2 (fun e => h ((bI _ 48 48 rfl).1 e))]
            refine yes ?_
            rintro (h' | h' | ⟨_, h'⟩)
            · omega
            · omega
            · rw [hh] at h'
              exact h (Option.some.inj h')
        · rw [if_neg h1]
          exact yes (by omega)
    · rw [show ((L s).take 2 == [48, 120]) = false from beq_eq_false_iff_ne.2 hx]
      exact hj0f (fun r e => hx (by rw [e]; rfl)) k (by omega)
  · rw [if_neg h2]
    by_cases hz : L s = [48, 120]
    · have hj : retargetref07_Number.j0 40 ⟨#[48, 120]⟩ false = some (ansN (Lx.number [48, 120])) := by decide +kernel
      have hs : s = ⟨#[48, 120]⟩ := ByteArray.ext (Array.toList_inj.1 hz)
      subst hs
      exact leO_le (F := fun k => retargetref07_Number.j0 k ⟨#[48, 120]⟩ false) (fun k => (retargetref07_Number.mono_l k).1 _ _) hj k hk
    · refine hj0f (fun r e => ?_) k (by omega)
      have : s.size = r.length + 2 := by rw [← L_len, e]; rfl
      have hr0 : r = [] := List.length_eq_zero_iff.1 (by omega)
      rw [hr0] at e
      exact hz e
/-! names, and what next answers -/
theorem isW_val (c : UInt8) (h : Lx.isW c = true) : (97 ≤ (c.toNat : Int) ∧ (c.toNat : Int) ≤ 122) ∨ (65 ≤ (c.toNat : Int) ∧ (c.toNat : Int) ≤ 90) ∨ (48 ≤ (c.toNat : Int) ∧ (c.toNat : Int) ≤ 57) ∨ (c.toNat : Int) = 95 :=
  Lex.byte_all (P := fun c => Lx.isW c = true → (97 ≤ (c.toNat : Int) ∧ (c.toNat : Int) ≤ 122) ∨ (65 ≤ (c.toNat : Int) ∧ (c.toNat : Int) ≤ 90) ∨ (48 ≤ (c.toNat : Int) ∧ (c.toNat : Int) ≤ 57) ∨ (c.toNat : Int) = 95) (by decide +kernel) c h
theorem isL_val (c : UInt8) (h : Lx.isL c = true) : (97 ≤ (c.toNat : Int) ∧ (c.toNat : Int) ≤ 122) ∨ (65 ≤ (c.toNat : Int) ∧ (c.toNat : Int) ≤ 90) :=
  Lex.byte_all (P := fun c => Lx.isL c = true → (97 ≤ (c.toNat : Int) ∧ (c.toNat : Int) ≤ 122) ∨ (65 ≤ (c.toNat : Int) ∧ (c.toNat : Int) ≤ 90)) (by decide +kernel) c h
theorem name_l0 (s : ByteArray) (hs : s.size < 1000000) (hw : ∀ x ∈ L s, Lx.isW x = true) (hL : ∀ h : 0 < s.size, Lx.isL s[0] = true) : ∀ (d i : Nat), i + d = s.size → ∀ k, d + 1 ≤ k → retargetref01_Name.l0 k s (i : Int) = some true := by
  intro d
  induction d with
  | zero =>
    intro i hi k hk
    match k, hk with
    | k + 1, _ =>
      simp only [retargetref01_Name.l0]
      rw [if_neg (by omega)]
  | succ d ih =>
    intro i hi k hk
    match k, hk with
    | k + 1, hk =>
      have hi' : i < s.size := by omega
      have hnext := ih (i + 1) (by omega) k (by omega)
      have hv := isW_val s[i] (hw _ (by
        have : s[i] = (L s)[i]'(by rw [L_len]; exact hi') := by simp [L]; rfl
        rw [this]
        exact List.getElem_mem _))
      have h0 : (i : Int) = 0 → (97 ≤ (s[i].toNat : Int) ∧ (s[i].toNat : Int) ≤ 122) ∨ (65 ≤ (s[i].toNat : Int) ∧ (s[i].toNat : Int) ≤ 90) := by
        intro e
        obtain rfl : i = 0 := by omega
        exact isL_val _ (hL hi')
      simp only [retargetref01_Name.l0]
      rw [if_pos (by omega), if_pos (by omega), bt_nat s i hi', w64n i (by omega)]
      generalize (s[i].toNat : Int) = b at hv h0
      repeat' split
      all_goals first | exact hnext | (exfalso; omega)
theorem name_ref (s : ByteArray) (hs : s.size < 1000000) (hw : ∀ x ∈ L s, Lx.isW x = true) (hne : 0 < s.size) (hL : Lx.isL s[0] = true) (k : Nat) (hk : s.size + 3 ≤ k) : retargetref01_Name.f k s = some (decide (s.size ≤ 24)) := by
  obtain ⟨m, rfl⟩ : ∃ m, k = m + 1 := ⟨k - 1, by omega⟩
  unfold retargetref01_Name.f
  rw [if_neg (by omega)]
  by_cases h : (s.size : Int) > 24
  · rw [decide_eq_true h]
    simp only [retargetref01_Name.j0, if_true]
    rw [decide_eq_false (by omega)]
  · rw [decide_eq_false h]
    simp only [retargetref01_Name.j0]
    rw [if_neg (by decide), decide_eq_true (by omega)]
    exact name_l0 s hs hw (fun _ => hL) s.size 0 (by omega) m (by omega)
theorem extract_take (s : ByteArray) (i n : Nat) : s.extract i (i + n) = BA (((L s).drop i).take n) := by
  apply ByteArray.ext
  apply Array.toList_inj.1
  simp [L, BA, List.take_drop]
theorem tw_take (q : UInt8 → Bool) (l : List UInt8) : l.take (l.takeWhile q).length = l.takeWhile q := (List.prefix_iff_eq_take.1 (List.takeWhile_prefix q)).symm
abbrev R6 := Int × ByteArray × Int × Int × Int × Bool
def bad6 : R6 := (0, ⟨#[]⟩, 0, 0, 0, false)
/-- What next answers at place p. -/
def ans6 (p : Nat) : Option Lx.Tok → R6
  | some t => (t.kind, BA t.text, t.num, p, ((p + t.written.length : Nat) : Int), true)
  | none => bad6
theorem cls_facts (c : UInt8) : (Lx.cls c = 9 → c = 10) ∧ (Lx.cls c = 8 → c ≠ 10 ∧ Lx.isM c = true) ∧ (Lx.cls c = 7 → c = 34) ∧ (Lx.cls c = 3 → c ≠ 10 ∧ Lx.isM c = false ∧ c ≠ 34 ∧ Lx.isL c = true) ∧ (Lx.cls c = 4 → c ≠ 10 ∧ Lx.isM c = false ∧ c ≠ 34 ∧ Lx.isL c = false ∧ Lx.isD c = true) ∧ (Lx.cls c = 6 → c = 45) ∧
    (Lx.cls c = 0 ∨ Lx.cls c = 1 ∨ Lx.cls c = 2 ∨ Lx.cls c = 5 → c ≠ 10 ∧ Lx.isM c = false ∧ c ≠ 34 ∧ Lx.isL c = false ∧ Lx.isD c = false ∧ c ≠ 45) :=
  Lex.byte_all (P := fun c => (Lx.cls c = 9 → c = 10) ∧ (Lx.cls c = 8 → c ≠ 10 ∧ Lx.isM c = true) ∧ (Lx.cls c = 7 → c = 34) ∧ (Lx.cls c = 3 → c ≠ 10 ∧ Lx.isM c = false ∧ c ≠ 34 ∧ Lx.isL c = true) ∧ (Lx.cls c = 4 → c ≠ 10 ∧ Lx.isM c = false ∧ c ≠ 34 ∧ Lx.isL c = false ∧ Lx.isD c = true) ∧ (Lx.cls c = 6 → c = 45) ∧
    (Lx.cls c = 0 ∨ Lx.cls c = 1 ∨ Lx.cls c = 2 ∨ Lx.cls c = 5 → c ≠ 10 ∧ Lx.isM c = false ∧ c ≠ 34 ∧ Lx.isL c = false ∧ Lx.isD c = false ∧ c ≠ 45)) (by decide +kernel) c
end Go.Proofs.YtbaojlfnbfbjmaaDoor.Pure
