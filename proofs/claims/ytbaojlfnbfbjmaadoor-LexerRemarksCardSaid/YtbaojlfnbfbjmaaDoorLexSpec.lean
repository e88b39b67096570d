/- The plain words of the lexer: what tokens a list of bytes has. No Go, no memory. -/
import Derived.Lib.Strings
namespace Go.Proofs.Lx

def isL (c : UInt8) : Bool := (97 ≤ c && c ≤ 122) || (65 ≤ c && c ≤ 90)
def isD (c : UInt8) : Bool := 48 ≤ c && c ≤ 57
def isW (c : UInt8) : Bool := isL c || isD c || c == 95
def marks : List UInt8 := [44, 58, 61, 40, 41, 91, 93, 123, 125, 64, 46, 43, 42, 47]
def isM (c : UInt8) : Bool := marks.contains c
def isQ (c : UInt8) : Bool := c != 34 && 32 ≤ c && c ≤ 126
/-- The class of a byte, as the program's table has it. -/
def cls (c : UInt8) : Nat :=
  if c = 32 then 1 else if c = 35 then 2 else if isL c then 3 else if isD c then 4 else if c = 95 then 5
  else if c = 45 then 6 else if c = 34 then 7 else if isM c then 8 else if c = 10 then 9 else 0

/-- How many bytes are skipped where no token has begun. -/
def skipLen : List UInt8 → Nat
  | [] => 0
  | c :: t => if c = 32 then skipLen t + 1 else if c = 35 then (t.takeWhile (· != 10)).length + 1 else 0

def dec (c : UInt8) : Option Nat := if isD c then some (c.toNat - 48) else none
def hexd (c : UInt8) : Option Nat := if isD c then some (c.toNat - 48) else if 97 ≤ c && c ≤ 102 then some (c.toNat - 87) else none
/-- The value of digits. -/
def digits (d : UInt8 → Option Nat) (b : Nat) : Nat → List UInt8 → Option Nat
  | n, [] => some n
  | n, c :: t => match d c with
    | none => none
    | some x => digits d b (b * n + x) t
/-- The value of digits without needless zeros, at most so many. -/
def canon (d : UInt8 → Option Nat) (b most : Nat) (l : List UInt8) : Option Nat :=
  if l.length < 1 ∨ most < l.length ∨ (1 < l.length ∧ l.head? = some 48) then none else digits d b 0 l
/-- The value of a number. -/
def number (l : List UInt8) : Option Int :=
  match l with
  | 48 :: 120 :: r => (canon hexd 16 15 r).map Int.ofNat
  | 45 :: r => if r.head? = some 48 then none else (canon dec 10 18 r).map fun n => -(n : Int)
  | l => (canon dec 10 18 l).map Int.ofNat

structure Tok where
  kind : Nat
  text : List UInt8
  num : Int
deriving DecidableEq

/-- The bytes of a token as it is written. -/
def Tok.written (t : Tok) : List UInt8 := if t.kind = 3 then 34 :: (t.text ++ [34]) else t.text

/-- The token that begins with c, t behind it. -/
def next (c : UInt8) (t : List UInt8) : Option Tok :=
  match cls c with
  | 9 => some ⟨5, [c], 0⟩
  | 8 => some ⟨4, [c], 0⟩
  | 7 => if (t.dropWhile isQ).head? = some 34 then some ⟨3, t.takeWhile isQ, 0⟩ else none
  | 3 => if (c :: t.takeWhile isW).length ≤ 24 then some ⟨1, c :: t.takeWhile isW, 0⟩ else none
  | 4 => (number (c :: t.takeWhile isW)).map fun n => ⟨2, c :: t.takeWhile isW, n⟩
  | 6 => (number (c :: t.takeWhile isW)).map fun n => ⟨2, c :: t.takeWhile isW, n⟩
  | _ => none

/-- The tokens of l, which begins at place at; n: room for rounds; acc: the tokens ahead of it. A pair: a token and its place. -/
def run : Nat → Nat → List UInt8 → List (Tok × Nat) → List (Tok × Nat) × Nat × Nat
  | 0, _, _, acc => (acc, 0, 0)
  | n + 1, at_, l, acc =>
    match l.drop (skipLen l) with
    | [] => (acc, 0, 0)
    | c :: t =>
      match next c t with
      | none => ([], at_ + skipLen l, 12)
      | some k =>
        if 20000 ≤ acc.length then ([], at_ + skipLen l, 4)
        else run n (at_ + skipLen l + k.written.length) (l.drop (skipLen l + k.written.length)) (acc ++ [(k, at_ + skipLen l)])

/-- The tokens of a text, the place of an error, and the error. -/
def tokens (l : List UInt8) : List (Tok × Nat) × Nat × Nat :=
  if 65536 < l.length then ([], 0, 4) else run (l.length + 1) 0 l []

end Go.Proofs.Lx
