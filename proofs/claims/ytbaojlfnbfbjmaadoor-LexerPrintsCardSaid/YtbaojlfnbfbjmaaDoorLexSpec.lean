/- The plain words of the lexer: what tokens a list of bytes has. No Go, no memory. Numbers: digits without needless zeros are just those that formatting gives back. Plain. What the lexer's loop reads, as a relation; and how it behaves under joining texts. Plain: no Go, no memory. -/
import Derived.Lib.Strings
import Derived.Lib.ItoaNum
import Derived.Lib.ParseIntB
namespace Go.Proofs.Lx

def isL (c : UInt8) : Bool := (97 ≤ c && c ≤ 122) || (65 ≤ c && c ≤ 90)
def isD (c : UInt8) : Bool := 48 ≤ c && c ≤ 57
def isW (c : UInt8) : Bool := isL c || isD c || c == 95
def marks : List UInt8 := [44, 58, 61, 40, 41, 91, 93, 123, 125, 64, 46, 43, 42, 47]
def isM (c : UInt8) : Bool := marks.contains c
def isQ (c : UInt8) : Bool := c != 34 && 32 ≤ c && c ≤ 126
/-- The class of a byte, as the program's table has it. -/
def cls (c : UInt8) : Nat :=
  if c = 32 then 1 else if c = 35 then 2 else if isL c then 3 else if isD c then 4 else if c = 95 then 5
  else if c = 45 then 6 else if c = 34 then 7 else if isM c then 8 else if c = 10 then 9 else 0

/-- How many bytes are skipped where no token has begun. -/
def skipLen : List UInt8 → Nat
  | [] => 0
  | c :: t => if c = 32 then skipLen t + 1 else if c = 35 then (t.takeWhile (· != 10)).length + 1 else 0

def dec (c : UInt8) : Option Nat := if isD c then some (c.toNat - 48) else none
def hexd (c : UInt8) : Option Nat := if isD c then some (c.toNat - 48) else if 97 ≤ c && c ≤ 102 then some (c.toNat - 87) else none
/-- The value of digits. -/
def digits (d : UInt8 → Option Nat) (b : Nat) : Nat → List UInt8 → Option Nat
  | n, [] => some n
  | n, c :: t => match d c with
    | none => none
    | some x => digits d b (b * n + x) t
/-- The value of digits without needless zeros, at most so many. -/
def canon (d : UInt8 → Option Nat) (b most : Nat) (l : List UInt8) : Option Nat :=
  if l.length < 1 ∨ most < l.length ∨ (1 < l.length ∧ l.head? = some 48) then none else digits d b 0 l
/-- The value of a number. -/
def number (l : List UInt8) : Option Int :=
  match l with
  | 48 :: 120 :: r => (canon hexd 16 15 r).map Int.ofNat
  | 45 :: r => if r.head? = some 48 then none else (canon dec 10 18 r).map fun n => -(n : Int)
  | l => (canon dec 10 18 l).map Int.ofNat

structure Tok where
  kind : Nat
  text : List UInt8
  num : Int
deriving DecidableEq

/-- The bytes of a token as it is written. -/
def Tok.written (t : Tok) : List UInt8 := if t.kind = 3 then 34 :: (t.text ++ [34]) else t.text

/-- The token that begins with c, t behind it. -/
def next (c : UInt8) (t : List UInt8) : Option Tok :=
  match cls c with
  | 9 => some ⟨5, [c], 0⟩
  | 8 => some ⟨4, [c], 0⟩
  | 7 => if (t.dropWhile isQ).head? = some 34 then some ⟨3, t.takeWhile isQ, 0⟩ else none
  | 3 => if (c :: t.takeWhile isW).length ≤ 24 then some ⟨1, c :: t.takeWhile isW, 0⟩ else none
  | 4 => (number (c :: t.takeWhile isW)).map fun n => ⟨2, c :: t.takeWhile isW, n⟩
  | 6 => (number (c :: t.takeWhile isW)).map fun n => ⟨2, c :: t.takeWhile isW, n⟩
  | _ => none

/-- The tokens of l, which begins at place at; n: room for rounds; acc: the tokens ahead of it. A pair: a token and its place. -/
def run : Nat → Nat → List UInt8 → List (Tok × Nat) → List (Tok × Nat) × Nat × Nat
  | 0, _, _, acc => (acc, 0, 0)
  | n + 1, at_, l, acc =>
    match l.drop (skipLen l) with
    | [] => (acc, 0, 0)
    | c :: t =>
      match next c t with
      | none => ([], at_ + skipLen l, 12)
      | some k =>
        if 20000 ≤ acc.length then ([], at_ + skipLen l, 4)
        else run n (at_ + skipLen l + k.written.length) (l.drop (skipLen l + k.written.length)) (acc ++ [(k, at_ + skipLen l)])

/-- The tokens of a text, the place of an error, and the error. -/
def tokens (l : List UInt8) : List (Tok × Nat) × Nat × Nat :=
  if 65536 < l.length then ([], 0, 4) else run (l.length + 1) 0 l []

end Go.Proofs.Lx
namespace Go.Proofs.Lx

/-- The digits of u to the base b, by a table of digits. -/
def fmtB (dg : Nat → UInt8) (b u : Nat) : List UInt8 :=
  if _h : u < b ∨ b < 2 then [dg u] else fmtB dg b (u / b) ++ [dg (u % b)]
termination_by u
decreasing_by exact Nat.div_lt_self (by omega) (by omega)

theorem digits_snoc (d : UInt8 → Option Nat) (b : Nat) (c : UInt8) : ∀ (l : List UInt8) (n : Nat), digits d b n (l ++ [c]) = (digits d b n l).bind fun m => (d c).map fun x => b * m + x
  | [], n => by
    simp only [List.nil_append, digits, Option.bind_some]
    cases d c <;> rfl
  | a :: l, n => by
    simp only [List.cons_append, digits]
    cases d a with
    | none => rfl
    | some x => exact digits_snoc d b c l _

theorem digits_ge (d : UInt8 → Option Nat) (b : Nat) (hb : 1 ≤ b) : ∀ (l : List UInt8) (n m : Nat), digits d b n l = some m → n ≤ m
  | [], n, m, h => by simp only [digits, Option.some.injEq] at h; omega
  | a :: l, n, m, h => by
    simp only [digits] at h
    cases hd : d a with
    | none => rw [hd] at h; cases h
    | some x =>
      rw [hd] at h
      have := digits_ge d b hb l _ m h
      have : n ≤ b * n := Nat.le_mul_of_pos_left n hb
      omega

theorem digits_lt (d : UInt8 → Option Nat) (b : Nat) (hd : ∀ c x, d c = some x → x < b) : ∀ (l : List UInt8) (n m : Nat), digits d b n l = some m → m < b ^ l.length * (n + 1)
  | [], n, m, h => by simp only [digits, Option.some.injEq] at h; simp; omega
  | a :: l, n, m, h => by
    simp only [digits] at h
    cases hx : d a with
    | none => rw [hx] at h; cases h
    | some x =>
      rw [hx] at h
      have h1 := digits_lt d b hd l _ m h
      have h2 := hd a x hx
      refine Nat.lt_of_lt_of_le h1 ?_
      rw [List.length_cons, Nat.pow_succ, Nat.mul_assoc]
      refine Nat.mul_le_mul_left _ ?_
      rw [Nat.mul_add, Nat.mul_one]
      omega

/-- No needless zero. -/
def Tight (l : List UInt8) : Prop := l ≠ [] ∧ (1 < l.length → l.head? ≠ some 48)

section
variable {d : UInt8 → Option Nat} {b : Nat} {dg : Nat → UInt8}

theorem fmt_of_digits (hb : 2 ≤ b) (hd : ∀ c x, d c = some x → x < b ∧ dg x = c) (h0 : ∀ c, d c = some 0 → c = 48) (l : List UInt8) :
    ∀ n, Tight l → digits d b 0 l = some n → fmtB dg b n = l := by
  induction hL : l.length using Nat.strongRecOn generalizing l with
  | _ L ih =>
    intro n ht hn
    rcases List.eq_nil_or_concat l with rfl | ⟨l', c, rfl⟩
    · exact absurd rfl ht.1
    · rw [List.concat_eq_append] at hL ht hn ⊢
      rw [digits_snoc] at hn
      obtain ⟨m, hm, hn⟩ := Option.bind_eq_some_iff.1 hn
      obtain ⟨x, hx, rfl⟩ := Option.map_eq_some_iff.1 hn
      obtain ⟨hxb, hxc⟩ := hd c x hx
      by_cases hl : l' = []
      · subst hl
        simp only [digits, Option.some.injEq] at hm
        subst hm
        rw [fmtB, dif_pos (by left; omega)]
        simp [hxc]
      · have hlen : 0 < l'.length := List.length_pos_iff.2 hl
        have ht' : Tight l' := by
          refine ⟨hl, fun _ => ?_⟩
          have := ht.2 (by simp; omega)
          cases l' with
          | nil => exact absurd rfl hl
          | cons a t => simpa using this
        have hm1 : 1 ≤ m := by
          cases l' with
          | nil => exact absurd rfl hl
          | cons a t =>
            simp only [digits] at hm
            cases ha : d a with
            | none => rw [ha] at hm; cases hm
            | some y =>
              rw [ha] at hm
              have := digits_ge d b (by omega) t _ m hm
              have hy : y ≠ 0 := by
                rintro rfl
                have := ht.2 (by simp)
                simp [h0 a ha] at this
              omega
        have hge : ¬ (b * m + x < b ∨ b < 2) := by
          have : b * 1 ≤ b * m := Nat.mul_le_mul_left b hm1
          omega
        rw [fmtB, dif_neg hge]
        have e1 : (b * m + x) / b = m := by rw [Nat.mul_add_div (by omega), Nat.div_eq_of_lt hxb]; omega
        have e2 : (b * m + x) % b = x := by rw [Nat.mul_add_mod, Nat.mod_eq_of_lt hxb]
        rw [e1, e2, hxc, ih l'.length (by simp at hL; omega) l' rfl m ht' hm]

theorem digits_of_fmt (hb : 2 ≤ b) (hg : ∀ x, x < b → d (dg x) = some x) (h48 : ∀ x, x < b → dg x = 48 → x = 0) (n : Nat) :
    Tight (fmtB dg b n) ∧ digits d b 0 (fmtB dg b n) = some n ∧ (1 ≤ n → (fmtB dg b n).head? ≠ some 48) := by
  induction n using Nat.strongRecOn with
  | _ n ih =>
    by_cases hn : n < b
    · rw [fmtB, dif_pos (by left; exact hn)]
      refine ⟨⟨by simp, by simp⟩, by simp [digits, hg n hn], fun h1 => ?_⟩
      intro e
      simp at e
      have := h48 n hn e
      omega
    · obtain ⟨i1, i2, i3⟩ := ih (n / b) (Nat.div_lt_self (by omega) (by omega))
      have hq : 1 ≤ n / b := Nat.div_pos (by omega) (by omega)
      have hh := i3 hq
      rw [fmtB, dif_neg (by omega)]
      have hne := i1.1
      have hhead : (fmtB dg b (n / b) ++ [dg (n % b)]).head? = (fmtB dg b (n / b)).head? := by
        cases h : fmtB dg b (n / b) with
        | nil => exact absurd h hne
        | cons a t => rfl
      refine ⟨⟨by simp, fun _ => by rw [hhead]; exact hh⟩, ?_, fun _ => by rw [hhead]; exact hh⟩
      rw [digits_snoc, i2, Option.bind_some, hg (n % b) (Nat.mod_lt _ (by omega))]
      simp [Nat.div_add_mod]
end

def dgd (x : Nat) : UInt8 := UInt8.ofNat (48 + x)
def dgh (x : Nat) : UInt8 := if x < 10 then UInt8.ofNat (48 + x) else UInt8.ofNat (87 + x)

theorem dec_dg : ∀ c : UInt8, ∀ x, dec c = some x → x < 10 ∧ dgd x = c := by
  intro c x h
  unfold dec isD at h
  split at h
  · rename_i hc
    simp only [Option.some.injEq] at h
    simp [UInt8.le_iff_toNat_le] at hc
    subst h
    refine ⟨by omega, ?_⟩
    unfold dgd
    apply UInt8.toNat_inj.1
    simp
    omega
  · cases h
theorem hexd_dg : ∀ c : UInt8, ∀ x, hexd c = some x → x < 16 ∧ dgh x = c := by
  intro c x h
  unfold hexd isD at h
  split at h
  · rename_i hc
    simp only [Option.some.injEq] at h
    simp [UInt8.le_iff_toNat_le] at hc
    subst h
    refine ⟨by omega, ?_⟩
    unfold dgh
    rw [if_pos (by omega)]
    apply UInt8.toNat_inj.1
    simp
    omega
  · split at h
    · rename_i _ hc
      simp only [Option.some.injEq] at h
      simp [UInt8.le_iff_toNat_le] at hc
      subst h
      refine ⟨by omega, ?_⟩
      unfold dgh
      rw [if_neg (by omega)]
      apply UInt8.toNat_inj.1
      simp
      omega
    · cases h
theorem dec_zero (c : UInt8) (h : dec c = some 0) : c = 48 := by have := (dec_dg c 0 h).2; exact this.symm
theorem hexd_zero (c : UInt8) (h : hexd c = some 0) : c = 48 := by have := (hexd_dg c 0 h).2; exact this.symm
theorem dg_dec : ∀ x, x < 10 → dec (dgd x) = some x := by decide
theorem dg_hexd : ∀ x, x < 16 → hexd (dgh x) = some x := by decide
theorem dgd_48 : ∀ x, x < 10 → dgd x = 48 → x = 0 := by decide
theorem dgh_48 : ∀ x, x < 16 → dgh x = 48 → x = 0 := by decide

theorem decDigits_fmt (u : Nat) : Go.Lib.decDigits u = fmtB dgd 10 u := by
  induction u using Nat.strongRecOn with
  | _ u ih =>
    rw [Go.Lib.decDigits, fmtB]
    by_cases h : u < 10
    · rw [dif_pos h, dif_pos (by left; exact h)]; rfl
    · rw [dif_neg h, dif_neg (by omega), ih (u / 10) (by omega)]; rfl

theorem canon_iff {d : UInt8 → Option Nat} {b most : Nat} {l : List UInt8} {n : Nat} : canon d b most l = some n ↔ Tight l ∧ l.length ≤ most ∧ digits d b 0 l = some n := by
  unfold canon Tight
  split
  · rename_i h
    constructor
    · intro e; cases e
    · rintro ⟨⟨h1, h2⟩, h3, _⟩
      exfalso
      rcases h with h | h | ⟨h, h'⟩
      · exact h1 (List.eq_nil_of_length_eq_zero (by omega))
      · omega
      · exact h2 h h'
  · rename_i h
    simp only [not_or, not_and] at h
    constructor
    · intro e
      exact ⟨⟨by intro e; subst e; simp at h, h.2.2⟩, by omega, e⟩
    · rintro ⟨_, _, e⟩; exact e

/-- A numeral that is just as it is formatted. -/
theorem canon_dec_fmt {l : List UInt8} {n : Nat} : canon dec 10 18 l = some n ↔ l.length ≤ 18 ∧ l = Go.Lib.decDigits n := by
  rw [canon_iff, decDigits_fmt]
  constructor
  · rintro ⟨h1, h2, h3⟩
    exact ⟨h2, (fmt_of_digits (by decide) dec_dg dec_zero l n h1 h3).symm⟩
  · rintro ⟨h1, rfl⟩
    obtain ⟨a, c, _⟩ := digits_of_fmt (b := 10) (by decide) dg_dec dgd_48 n
    exact ⟨a, h1, c⟩
theorem canon_hex_fmt {l : List UInt8} {n : Nat} : canon hexd 16 15 l = some n ↔ l.length ≤ 15 ∧ l = fmtB dgh 16 n := by
  rw [canon_iff]
  constructor
  · rintro ⟨h1, h2, h3⟩
    exact ⟨h2, (fmt_of_digits (by decide) hexd_dg hexd_zero l n h1 h3).symm⟩
  · rintro ⟨h1, rfl⟩
    obtain ⟨a, c, _⟩ := digits_of_fmt (b := 16) (by decide) dg_hexd dgh_48 n
    exact ⟨a, h1, c⟩

end Go.Proofs.Lx
namespace Go.Proofs.Lx
/-- From place p on, the text l has the tokens ts (with their places), and then ends, or has no token at a place. -/
inductive Scan : Nat → List UInt8 → List (Tok × Nat) → Option Nat → Prop
  | fin {p : Nat} {l : List UInt8} (h : l.drop (skipLen l) = []) : Scan p l [] none
  | bad {p : Nat} {l t : List UInt8} {c : UInt8} (h : l.drop (skipLen l) = c :: t) (hn : next c t = none) : Scan p l [] (some (p + skipLen l))
  | tok {p : Nat} {l t : List UInt8} {c : UInt8} {k : Tok} {ts : List (Tok × Nat)} {er : Option Nat} (h : l.drop (skipLen l) = c :: t) (hn : next c t = some k) (hr : Scan (p + skipLen l + k.written.length) (l.drop (skipLen l + k.written.length)) ts er) : Scan p l ((k, p + skipLen l) :: ts) er

theorem tw_len (q : UInt8 → Bool) (l : List UInt8) : (l.takeWhile q).length ≤ l.length := (List.takeWhile_prefix q).length_le
theorem skip_le : ∀ l : List UInt8, skipLen l ≤ l.length
  | [] => Nat.le_refl _
  | c :: t => by
    have h1 := skip_le t
    have h2 := tw_len (· != 10) t
    unfold skipLen
    split
    · simp; omega
    · split
      · simp; omega
      · simp
theorem quoted_len {t : List UInt8} (h : (t.dropWhile isQ).head? = some 34) : (t.takeWhile isQ).length + 1 ≤ t.length := by
  have e : (t.takeWhile isQ).length + (t.dropWhile isQ).length = t.length := by rw [← List.length_append, List.takeWhile_append_dropWhile]
  cases hd : t.dropWhile isQ with
  | nil => rw [hd] at h; cases h
  | cons a r => rw [hd] at e; simp at e; omega
/-- The token is what stands there, unless it has none. -/
theorem next_written {c : UInt8} {t : List UInt8} {k : Tok} (h : next c t = some k) : 1 ≤ k.written.length ∧ k.written.length ≤ t.length + 1 ∧ (c :: t).take k.written.length = k.written := by
  have hw := tw_len isW t
  have htk : ∀ q : UInt8 → Bool, t.take (t.takeWhile q).length = t.takeWhile q := fun q => (List.prefix_iff_eq_take.1 (List.takeWhile_prefix q)).symm
  unfold next at h
  split at h
  · cases h; simp [Tok.written]
  · cases h; simp [Tok.written]
  · rename_i h7
    split at h
    · rename_i h34
      have hq := quoted_len h34
      cases h
      have hc : c = 34 := by
        have : ∀ n : Fin 256, cls (UInt8.ofNat n.val) = 7 → UInt8.ofNat n.val = 34 := by decide +kernel
        have h2 := this ⟨c.toNat, c.toNat_lt⟩
        rw [show UInt8.ofNat (⟨c.toNat, c.toNat_lt⟩ : Fin 256).val = c from UInt8.ofNat_toNat] at h2
        exact h2 h7
      subst hc
      have e : t.take ((t.takeWhile isQ).length + 1) = t.takeWhile isQ ++ [34] := by
        conv => lhs; rw [← List.takeWhile_append_dropWhile (p := isQ) (l := t)]
        rw [List.take_append, List.take_of_length_le (by rw [List.takeWhile_append_dropWhile]; omega)]
        rw [List.takeWhile_append_dropWhile]
        cases hd : t.dropWhile isQ with
        | nil => rw [hd] at h34; cases h34
        | cons a r =>
          rw [hd] at h34
          cases h34
          rw [Nat.add_sub_cancel_left]
          rfl
      refine ⟨by simp [Tok.written], by simp [Tok.written]; omega, ?_⟩
      simp only [Tok.written, if_true, List.length_cons, List.length_append, List.length_nil]
      rw [List.take_succ_cons, e]
    · cases h
  · split at h
    · cases h
      refine ⟨by simp [Tok.written], by simp [Tok.written]; omega, ?_⟩
      simp [Tok.written, htk]
    · cases h
  · obtain ⟨n, _, rfl⟩ := Option.map_eq_some_iff.1 h
    refine ⟨by simp [Tok.written], by simp [Tok.written]; omega, ?_⟩
    simp [Tok.written, htk]
  · obtain ⟨n, _, rfl⟩ := Option.map_eq_some_iff.1 h
    refine ⟨by simp [Tok.written], by simp [Tok.written]; omega, ?_⟩
    simp [Tok.written, htk]
  · cases h
theorem scan_ex : ∀ (n : Nat) (l : List UInt8), l.length ≤ n → ∀ p, ∃ ts er, Scan p l ts er
  | n, l, hl, p => by
    cases h : l.drop (skipLen l) with
    | nil => exact ⟨_, _, .fin h⟩
    | cons c t =>
      have hlen : (l.drop (skipLen l)).length = t.length + 1 := by rw [h]; rfl
      rw [List.length_drop] at hlen
      cases hn : next c t with
      | none => exact ⟨_, _, .bad h hn⟩
      | some k =>
        obtain ⟨h1, h2, _⟩ := next_written hn
        have hd : (l.drop (skipLen l + k.written.length)).length < l.length := by rw [List.length_drop]; omega
        match n, hl with
        | 0, hl => omega
        | m + 1, hl =>
          obtain ⟨ts, er, hr⟩ := scan_ex m (l.drop (skipLen l + k.written.length)) (by omega) (p + skipLen l + k.written.length)
          exact ⟨_, _, .tok h hn hr⟩
theorem scan_all (p : Nat) (l : List UInt8) : ∃ ts er, Scan p l ts er := scan_ex _ l (Nat.le_refl _) p
/-- With the limit of tokens. -/
def lim (acc ts : List (Tok × Nat)) (er : Option Nat) : List (Tok × Nat) × Nat × Nat :=
  if acc.length + ts.length ≤ 20000 then (match er with | none => (acc ++ ts, 0, 0) | some q => ([], q, 12)) else ([], ((ts.drop (20000 - acc.length)).head?.map (·.2)).getD 0, 4)
theorem run_scan {p : Nat} {l : List UInt8} {ts : List (Tok × Nat)} {er : Option Nat} (h : Scan p l ts er) : ∀ (n : Nat) (acc : List (Tok × Nat)), l.length < n → acc.length ≤ 20000 → run n p l acc = lim acc ts er := by
  induction h with
  | fin h =>
    intro n acc hn ha
    cases n with
    | zero => omega
    | succ n =>
      unfold run
      rw [h]
      simp [lim, ha]
  | bad h hx =>
    intro n acc hn ha
    cases n with
    | zero => omega
    | succ n =>
      unfold run
      rw [h]
      simp [lim, ha, hx]
  | @tok p l t c k ts er h hx hr ih =>
    intro n acc hn ha
    cases n with
    | zero => omega
    | succ n =>
      obtain ⟨h1, h2, _⟩ := next_written hx
      have hlen : (l.drop (skipLen l)).length = t.length + 1 := by rw [h]; rfl
      rw [List.length_drop] at hlen
      unfold run
      rw [h]
      simp only [hx]
      by_cases hc : 20000 ≤ acc.length
      · have e : acc.length = 20000 := by omega
        have h2 : ¬ acc.length + ((k, p + skipLen l) :: ts).length ≤ 20000 := by rw [List.length_cons]; omega
        unfold lim
        rw [if_pos hc, if_neg h2, e]
        rfl
      · rw [if_neg hc, ih n (acc ++ [(k, p + skipLen l)]) (by rw [List.length_drop]; omega) (by simp; omega)]
        unfold lim
        simp only [List.length_append, List.length_cons, List.length_nil, Nat.zero_add, List.append_assoc, List.singleton_append]
        by_cases h3 : acc.length + (ts.length + 1) ≤ 20000
        · rw [if_pos (by omega), if_pos h3]
        · rw [if_neg (by omega), if_neg h3, show 20000 - acc.length = (20000 - (acc.length + 1)) + 1 by omega, List.drop_succ_cons]
theorem tokens_scan {l : List UInt8} {ts : List (Tok × Nat)} {er : Option Nat} (h : Scan 0 l ts er) (hl : l.length ≤ 65536) : tokens l = lim [] ts er := by
  rw [tokens, if_neg (by omega)]
  exact run_scan h _ _ (by omega) (by simp)
/-- There are no more tokens than bytes. -/
theorem Scan.count {p : Nat} {l : List UInt8} {ts : List (Tok × Nat)} {er : Option Nat} (h : Scan p l ts er) : ts.length ≤ l.length := by
  induction h with
  | fin h => simp
  | bad h hx => simp
  | @tok p l t c k ts er h hx hr ih =>
    obtain ⟨h1, h2, _⟩ := next_written hx
    have hlen : (l.drop (skipLen l)).length = t.length + 1 := by rw [h]; rfl
    rw [List.length_drop] at hlen ih
    rw [List.length_cons]
    omega
/-- The places lie in the text. -/
theorem Scan.places {p : Nat} {l : List UInt8} {ts : List (Tok × Nat)} {er : Option Nat} (h : Scan p l ts er) : (∀ x ∈ ts, p ≤ x.2 ∧ x.2 ≤ p + l.length) ∧ (∀ q, er = some q → p ≤ q ∧ q ≤ p + l.length) := by
  induction h with
  | fin h => simp
  | bad h hx =>
    refine ⟨by simp, ?_⟩
    rintro q ⟨rfl⟩
    have := skip_le ‹List UInt8›
    rename_i l t c
    have := skip_le l
    omega
  | @tok p l t c k ts er h hx hr ih =>
    obtain ⟨h1, h2, _⟩ := next_written hx
    have hlen : (l.drop (skipLen l)).length = t.length + 1 := by rw [h]; rfl
    have hs := skip_le l
    rw [List.length_drop] at hlen ih
    refine ⟨?_, ?_⟩
    · intro x hxm
      rcases List.mem_cons.1 hxm with rfl | hm
      · simp; omega
      · have := ih.1 x hm
        omega
    · intro q hq
      have := ih.2 q hq
      omega
/-- Tokens moved. -/
def shift (d : Nat) (ts : List (Tok × Nat)) : List (Tok × Nat) := ts.map fun x => (x.1, x.2 + d)
theorem Scan.move {p : Nat} {l : List UInt8} {ts : List (Tok × Nat)} {er : Option Nat} (h : Scan p l ts er) (d : Nat) : Scan (p + d) l (shift d ts) (er.map (· + d)) := by
  induction h with
  | fin h => exact .fin h
  | @bad p l t c h hx =>
    have := Scan.bad (p := p + d) h hx
    rw [show p + d + skipLen l = p + skipLen l + d by omega] at this
    exact this
  | @tok p l t c k ts er h hx hr ih =>
    rw [show p + skipLen l + k.written.length + d = p + d + skipLen l + k.written.length by omega] at ih
    have := Scan.tok (p := p + d) h hx ih
    rw [show p + d + skipLen l = p + skipLen l + d by omega] at this
    exact this
/-- A space ahead. -/
theorem Scan.space {p : Nat} {l : List UInt8} {ts : List (Tok × Nat)} {er : Option Nat} (h : Scan (p + 1) l ts er) : Scan p (32 :: l) ts er := by
  have hs : skipLen (32 :: l) = skipLen l + 1 := by simp [skipLen]
  have hd : ∀ n, (32 :: l).drop (skipLen (32 :: l) + n) = l.drop (skipLen l + n) := fun n => by
    rw [hs, show skipLen l + 1 + n = (skipLen l + n) + 1 by omega, List.drop_succ_cons]
  have hp : p + 1 + skipLen l = p + skipLen (32 :: l) := by omega
  cases h with
  | fin h => exact .fin (by simpa using (hd 0).trans h)
  | bad h hx =>
    rw [hp]
    exact .bad (by simpa using (hd 0).trans h) hx
  | tok h hx hr =>
    rw [hp] at hr ⊢
    refine .tok (by simpa using (hd 0).trans h) hx ?_
    rw [hd]
    exact hr
theorem tw_app_stop (q : UInt8 → Bool) (x : UInt8) (r : List UInt8) (hx : q x = false) : ∀ t : List UInt8, (t ++ x :: r).takeWhile q = t.takeWhile q
  | [] => by simp [hx]
  | c :: t => by
    rw [List.cons_append, List.takeWhile_cons, List.takeWhile_cons, tw_app_stop q x r hx t]
theorem dw_app_stop (q : UInt8 → Bool) (x : UInt8) (r : List UInt8) (hx : q x = false) : ∀ t : List UInt8, (t ++ x :: r).dropWhile q = t.dropWhile q ++ x :: r
  | [] => by simp [hx]
  | c :: t => by
    rw [List.cons_append, List.dropWhile_cons, List.dropWhile_cons, dw_app_stop q x r hx t]
    split <;> rfl
/-- A line feed behind a text: what is skipped, and what is read, stays. -/
theorem skip_feed (b : List UInt8) : ∀ a : List UInt8, skipLen (a ++ 10 :: b) = skipLen a
  | [] => by simp [skipLen]
  | c :: a => by
    rw [List.cons_append]
    unfold skipLen
    rw [skip_feed b a, tw_app_stop _ 10 b (by decide) a]
theorem next_feed (c : UInt8) (t b : List UInt8) : next c (t ++ 10 :: b) = next c t := by
  unfold next
  rw [tw_app_stop isW 10 b (by decide) t, tw_app_stop isQ 10 b (by decide) t, dw_app_stop isQ 10 b (by decide) t]
  have : (t.dropWhile isQ ++ 10 :: b).head? = some 34 ↔ (t.dropWhile isQ).head? = some 34 := by
    cases t.dropWhile isQ <;> simp
  simp only [this]
def feed : Tok := ⟨5, [10], 0⟩
theorem Scan.feed_bad {p : Nat} {a : List UInt8} {ts : List (Tok × Nat)} {q : Nat} (h : Scan p a ts (some q)) (b : List UInt8) : Scan p (a ++ 10 :: b) ts (some q) := by
  generalize he : some q = er at h
  induction h with
  | fin h => cases he
  | @bad p l t c h hx =>
    have hs := skip_feed b l
    rw [← hs]
    refine .bad (t := t ++ 10 :: b) (c := c) ?_ ((next_feed c t b).trans hx)
    rw [hs, List.drop_append_of_le_length (skip_le l), h]
    rfl
  | @tok p l t c k ts er h hx hr ih =>
    have hs := skip_feed b l
    have ih := ih he
    obtain ⟨h1, h2, _⟩ := next_written hx
    have hlen : (l.drop (skipLen l)).length = t.length + 1 := by rw [h]; rfl
    rw [List.length_drop] at hlen
    rw [← hs]
    refine .tok (t := t ++ 10 :: b) (c := c) ?_ ((next_feed c t b).trans hx) ?_
    · rw [hs, List.drop_append_of_le_length (skip_le l), h]
      rfl
    · rw [hs, List.drop_append_of_le_length (by omega)]
      exact ih
theorem Scan.feed_join {p : Nat} {a : List UInt8} {ts : List (Tok × Nat)} (h : Scan p a ts none) {b : List UInt8} {us : List (Tok × Nat)} {er : Option Nat} (hb : Scan (p + a.length + 1) b us er) : Scan p (a ++ 10 :: b) (ts ++ (feed, p + a.length) :: us) er := by
  generalize he : none = er0 at h
  induction h with
  | @fin p l h =>
    have hs := skip_feed b l
    have hl : skipLen l = l.length := by
      have h1 := skip_le l
      have h2 := List.drop_eq_nil_iff.1 h
      omega
    have hn : next 10 b = some feed := rfl
    have := Scan.tok (p := p) (l := l ++ 10 :: b) (t := b) (c := 10) (k := feed) (ts := us) (er := er) (by rw [hs, hl, List.drop_left]) hn (by
      rw [hs, hl]
      have e : (l ++ 10 :: b).drop (l.length + feed.written.length) = b := by
        rw [show feed.written.length = 1 from rfl, List.drop_length_add_append]
        rfl
      rw [e]
      exact hb)
    rw [hs, hl] at this
    exact this
  | @bad p l t c h hx => cases he
  | @tok p l t c k ts er0 h hx hr ih =>
    have hs := skip_feed b l
    obtain ⟨h1, h2, _⟩ := next_written hx
    have hlen : (l.drop (skipLen l)).length = t.length + 1 := by rw [h]; rfl
    rw [List.length_drop] at hlen
    have hl := skip_le l
    have el : p + skipLen l + k.written.length + (l.drop (skipLen l + k.written.length)).length = p + l.length := by rw [List.length_drop]; omega
    have ih := ih (by rw [el]; exact hb) he
    rw [el] at ih
    rw [List.cons_append, ← hs]
    refine .tok (t := t ++ 10 :: b) (c := c) ?_ ((next_feed c t b).trans hx) ?_
    · rw [hs, List.drop_append_of_le_length hl, h]
      rfl
    · rw [hs, List.drop_append_of_le_length (by omega)]
      exact ih
/-- A space and a remark behind a text without errors. -/
theorem tw_no (r : List UInt8) (hr : ∀ x ∈ r, x ≠ 10) : r.takeWhile (· != 10) = r := by
  induction r with
  | nil => rfl
  | cons x r ih => rw [List.takeWhile_cons_of_pos (by simpa using hr x (by simp)), ih (fun y hy => hr y (by simp [hy]))]
theorem skip_remark (r : List UInt8) (hr : ∀ x ∈ r, x ≠ 10) : ∀ a : List UInt8, (a.drop (skipLen a) = [] → skipLen (a ++ 32 :: 35 :: r) = (a ++ 32 :: 35 :: r).length) ∧ (a.drop (skipLen a) ≠ [] → skipLen (a ++ 32 :: 35 :: r) = skipLen a)
  | [] => by
    refine ⟨fun _ => ?_, fun h => absurd rfl h⟩
    simp [skipLen, tw_no r hr]
  | c :: a => by
    obtain ⟨i1, i2⟩ := skip_remark r hr a
    rw [List.cons_append]
    by_cases h1 : c = 32
    · subst h1
      have e1 : ∀ l, skipLen (32 :: l) = skipLen l + 1 := fun l => by simp [skipLen]
      rw [e1, e1, List.drop_succ_cons]
      exact ⟨fun h => by rw [i1 h]; rfl, fun h => by rw [i2 h]⟩
    · by_cases h2 : c = 35
      · subst h2
        have e1 : ∀ l, skipLen (35 :: l) = (l.takeWhile (· != 10)).length + 1 := fun l => by simp [skipLen]
        rw [e1, e1, List.drop_succ_cons]
        have hpre := List.takeWhile_append_dropWhile (p := fun x : UInt8 => x != 10) (l := a)
        have hd : a.drop (a.takeWhile (· != 10)).length = a.dropWhile (· != 10) := by
          conv => lhs; arg 2; rw [← hpre]
          rw [List.drop_left]
        rw [hd]
        have tw2 : ∀ t : List UInt8, (t.dropWhile (· != 10) = [] → (t ++ 32 :: 35 :: r).takeWhile (· != 10) = t ++ 32 :: 35 :: r) ∧ (t.dropWhile (· != 10) ≠ [] → (t ++ 32 :: 35 :: r).takeWhile (· != 10) = t.takeWhile (· != 10)) := by
          intro t
          induction t with
          | nil => exact ⟨fun _ => by simp [tw_no r hr], fun h => absurd rfl h⟩
          | cons x t ih =>
            rw [List.cons_append, List.takeWhile_cons, List.takeWhile_cons, List.dropWhile_cons]
            by_cases hx : (x != 10) = true
            · rw [if_pos hx, if_pos hx, if_pos hx]
              exact ⟨fun h => by rw [ih.1 h], fun h => by rw [ih.2 h]⟩
            · rw [if_neg hx, if_neg hx, if_neg hx]
              exact ⟨(fun h => by cases h), fun _ => rfl⟩
        exact ⟨fun h => by rw [(tw2 a).1 h]; rfl, fun h => by rw [(tw2 a).2 h]⟩
      · have e1 : ∀ l, skipLen (c :: l) = 0 := fun l => by simp [skipLen, h1, h2]
        rw [e1, e1]
        exact ⟨(fun h => by cases h), fun _ => rfl⟩
theorem next_remark {c : UInt8} {t : List UInt8} {k : Tok} (r : List UInt8) (h : next c t = some k) : next c (t ++ 32 :: 35 :: r) = some k := by
  rw [← h]
  unfold next
  rw [tw_app_stop isW 32 _ (by decide) t]
  have h34 : (t.dropWhile isQ).head? = some 34 → ((t ++ 32 :: 35 :: r).dropWhile isQ).head? = some 34 ∧ (t ++ 32 :: 35 :: r).takeWhile isQ = t.takeWhile isQ := by
    clear h
    induction t with
    | nil => intro h; cases h
    | cons x t ih =>
      rw [List.cons_append, List.takeWhile_cons, List.dropWhile_cons, List.takeWhile_cons, List.dropWhile_cons]
      by_cases hx : isQ x = true
      · rw [if_pos hx, if_pos hx, if_pos hx, if_pos hx]
        intro h
        obtain ⟨e1, e2⟩ := ih h
        exact ⟨e1, by rw [e2]⟩
      · rw [if_neg hx, if_neg hx, if_neg hx, if_neg hx]
        intro h
        exact ⟨h, rfl⟩
  split
  · rfl
  · rfl
  · rename_i h7
    unfold next at h
    rw [h7] at h
    simp only at h
    split at h
    · rename_i hh
      obtain ⟨e1, e2⟩ := h34 hh
      rw [if_pos e1, if_pos hh, e2]
    · cases h
  · rfl
  · rfl
  · rfl
  · rfl
theorem Scan.remark {p : Nat} {a : List UInt8} {ts : List (Tok × Nat)} (h : Scan p a ts none) (r : List UInt8) (hr : ∀ x ∈ r, x ≠ 10) : Scan p (a ++ 32 :: 35 :: r) ts none := by
  generalize he : none = er at h
  induction h with
  | @fin p l h =>
    have := (skip_remark r hr l).1 h
    exact .fin (by rw [this, List.drop_length])
  | bad h hx => cases he
  | @tok p l t c k ts er h hx h2 ih =>
    have hs := (skip_remark r hr l).2 (by rw [h]; exact List.cons_ne_nil _ _)
    obtain ⟨h1, h2, _⟩ := next_written hx
    have hlen : (l.drop (skipLen l)).length = t.length + 1 := by rw [h]; rfl
    rw [List.length_drop] at hlen
    rw [← hs]
    refine .tok (t := t ++ 32 :: 35 :: r) (c := c) ?_ (next_remark r hx) ?_
    · rw [hs, List.drop_append_of_le_length (skip_le l), h]
      rfl
    · rw [hs, List.drop_append_of_le_length (by omega)]
      exact ih he
end Go.Proofs.Lx
