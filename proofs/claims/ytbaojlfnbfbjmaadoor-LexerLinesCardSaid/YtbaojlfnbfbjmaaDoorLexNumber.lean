/- The lexer's reading of numbers: the joined contract. -/
import Derived.Test.YtbaojlfnbfbjmaaDoorLexNumErr
import Derived.Test.YtbaojlfnbfbjmaaDoorLexNumOk
namespace Go.Proofs.YtbaojlfnbfbjmaaDoor
open Go.RowKit Go.Proofs Go.Proofs.YtbaojlfnbfbjmaaDoorW.PrintWords
set_option linter.unusedVariables false
set_option linter.unusedSimpArgs false
namespace Lex
theorem BA_inj {a b : List UInt8} (h : BA a = BA b) : a = b := by
  have := congrArg (fun x : ByteArray => x.data.toList) h
  simpa [BA] using this
theorem BA_size (l : List UInt8) : (BA l).size = l.length := by simp [BA, ByteArray.size]
theorem hasPrefix_one (c d : UInt8) (t : List UInt8) : Lib.hasPrefix (c :: t) [d] = (d == c) := by simp [Lib.hasPrefix, List.isPrefixOf]
/-- A word that is no number begun with 0x. -/
theorem number_plain (c : UInt8) (t : List UInt8) (h0x : Lib.hasPrefix (c :: t) [48, 120] = false) (h45 : c ≠ 45) : Lx.number (c :: t) = (Lx.canon Lx.dec 10 18 (c :: t)).map Int.ofNat := by
  unfold Lx.number
  split
  · rename_i r h
    rw [h] at h0x
    simp [Lib.hasPrefix, List.isPrefixOf] at h0x
  · rename_i r h
    injection h with h1 h2
    exact absurd h1 h45
  · rfl
theorem number_minus (t : List UInt8) : Lx.number (45 :: t) = if t.head? = some 48 then none else (Lx.canon Lx.dec 10 18 t).map fun n => -(n : Int) := by
  unfold Lx.number
  rfl
theorem opt_if (a b : Prop) [Decidable a] [Decidable b] (n : Nat) : (if a ∧ b then some n else none).map Int.ofNat = if (decide a && decide b) = true then some (n : Int) else none := by
  by_cases h1 : a <;> by_cases h2 : b <;> simp [h1, h2]
theorem decDigits_zero : Lib.decDigits 0 = [48] := by rw [Lib.decDigits]; rfl
end Lex
namespace PLex
theorem number_calls (g : Nat) (s : ByteArray) (i : Nat) (w : World) (hs : s.size ≤ 140737488355328) (hi : i < s.size) (h : Lex.Rd w g s i) (hc : Lx.cls s[i] = 4 ∨ Lx.cls s[i] = 6) (hL : Lex.Laid w) (hg5 : 5 < g) :
    Calls Tryd.prog 42 #[.pointer (some ⟨g, 0, none⟩)] w (Lex.ReadTo w g s i (Lx.next s[i] ((Lex.L s).drop (i + 1)))) := by
  have ht : ∀ x ∈ ((Lex.L s).drop (i + 1)).takeWhile Lx.isW, Lx.isW x = true := fun x hx => Lex.tw_mem _ x hx
  obtain ⟨tw, htw⟩ : ∃ tw, tw = ((Lex.L s).drop (i + 1)).takeWhile Lx.isW := ⟨_, rfl⟩
  have hlen : tw.length + 1 ≤ 140737488355328 := by
    rw [htw]
    have h1 := (List.takeWhile_prefix Lx.isW (l := (Lex.L s).drop (i + 1))).length_le
    have e := List.length_drop (i := i + 1) (l := Lex.L s)
    have e2 : (Lex.L s).length = s.size := by simp [Lex.L]
    omega
  have hext : s.extract i (i + 1 + tw.length) = Lex.BA (s[i] :: tw) := by
    rw [Lex.extract_L, Lex.dropL s i hi, show i + 1 + tw.length - i = tw.length + 1 by omega, List.take_succ_cons, htw, Lex.tw_take]
  have hnext : Lx.next s[i] ((Lex.L s).drop (i + 1)) = (Lx.number (s[i] :: tw)).map fun n => ⟨2, s[i] :: tw, n⟩ := by
    unfold Lx.next
    rw [htw]
    rcases hc with hc | hc <;> (rw [hc]; rfl)
  rw [← htw] at ht
  obtain ⟨c, hcc⟩ : ∃ c, c = s[i] := ⟨_, rfl⟩
  rw [hnext, ← hcc]
  rw [← hcc] at hext hc
  have hW : ∀ W, Lex.Rd W g s i → Calls Tryd.prog 54 #[.pointer (some ⟨g, 0, none⟩)] W fun e w' => e = .returned (.string (Lex.BA (c :: tw))) ∧ Lex.Rd w' g s ((i + 1 + tw.length : Nat) : Int) ∧ Lex.Kb g W w' := by
    intro W hR
    refine (word_calls g s i W hs hi hR).mono ?_
    rintro e w' ⟨j, hj, rfl, hR2, hk2⟩
    rw [← htw] at hj
    subst hj
    rw [hext]
    exact ⟨rfl, hR2, hk2⟩
  have hT : ∀ W, Calls Tryd.prog 56 #[.string (Lex.BA (c :: tw)), .string ⟨#[45]⟩] W fun e w' => e = .returned (.string (Lex.BA (Lib.trimPrefix (c :: tw) [45]))) ∧ w' = W := fun W => Tryd.strings_TrimPrefix (Lex.BA (c :: tw)) ⟨#[45]⟩ W
  have hC : ∀ W, Calls Tryd.prog 57 #[.string (Lex.BA (c :: tw)), .string ⟨#[48, 120]⟩] W fun e w' => e = .returned (.tuple #[.string (Lex.BA (Lib.trimPrefix (c :: tw) [48, 120])), .bool (Lib.hasPrefix (c :: tw) [48, 120])]) ∧ w' = W := fun W => Tryd.strings_CutPrefix (Lex.BA (c :: tw)) ⟨#[48, 120]⟩ W
  have hpos : 0 < (Lex.BA (c :: tw)).size := by rw [Lex.BA_size]; simp
  have hix : ∀ W, (Instr.index 9 (.string (Lex.BA (c :: tw))) (.int .i64 0)).run Tryd.prog W = .ok (.int .u8 (c.toNat : Int)) W := fun W => by
    rw [run_index_string W 9 (Lex.BA (c :: tw)) .i64 0 Tryd.underlying9, dif_pos (by omega)]
    rfl
  have hwlen : ∀ n : Int, ((⟨2, c :: tw, n⟩ : Lx.Tok).written.length) = tw.length + 1 := fun n => by simp [Lx.Tok.written]
  have fin_err : Lx.number (c :: tw) = none → (Calls Tryd.prog 42 #[.pointer (some ⟨g, 0, none⟩)] w fun e w' => (∃ n : Int, e = .returned (.tuple #[.agg (Lex.nTok (Lex.BA (c :: tw)) n), .bool false])) ∧ Lex.Rd w' g s ((i + 1 + tw.length : Nat) : Int) ∧ Lex.Kb g w w') →
      Calls Tryd.prog 42 #[.pointer (some ⟨g, 0, none⟩)] w (Lex.ReadTo w g s i ((Lx.number (c :: tw)).map fun n => ⟨2, c :: tw, n⟩)) := by
    intro hn hcl
    rw [hn]
    refine hcl.mono ?_
    rintro e w' ⟨⟨n, rfl⟩, hR, hK⟩
    exact ⟨⟨2, _, n, 0, rfl⟩, ⟨_, hR⟩, hK⟩
  have fin_ok : ∀ (N : Int) (fin : Bool), Lx.number (c :: tw) = (if fin then some N else none) → (Calls Tryd.prog 42 #[.pointer (some ⟨g, 0, none⟩)] w fun e w' => e = .returned (.tuple #[.agg (Lex.nTok (Lex.BA (c :: tw)) N), .bool fin]) ∧ Lex.Rd w' g s ((i + 1 + tw.length : Nat) : Int) ∧ Lex.Kb g w w') →
      Calls Tryd.prog 42 #[.pointer (some ⟨g, 0, none⟩)] w (Lex.ReadTo w g s i ((Lx.number (c :: tw)).map fun n => ⟨2, c :: tw, n⟩)) := by
    intro N fin hn hcl
    rw [hn]
    refine hcl.mono ?_
    rintro e w' ⟨rfl, hR, hK⟩
    cases fin
    · exact ⟨⟨2, _, N, 0, rfl⟩, ⟨_, hR⟩, hK⟩
    · refine ⟨rfl, ?_, hK⟩
      rw [hwlen, show i + (tw.length + 1) = i + 1 + tw.length by omega]
      exact hR
  have hcD : Lx.cls c = 4 → Lx.isD c = true := (Lex.byte_all (P := fun c => Lx.cls c = 4 → Lx.isD c = true) (by decide +kernel)) c
  have hc6 : Lx.cls c = 6 → c = 45 := (Lex.byte_all (P := fun c => Lx.cls c = 6 → c = 45) (by decide +kernel)) c
  have hW43 : ∀ x, Lx.isW x = true → x ≠ 43 ∧ x ≠ 45 := Lex.byte_all (by decide +kernel)
  have htwS : ∀ l : List UInt8, (∀ x ∈ l, Lx.isW x = true) → l.head? ≠ some 43 ∧ l.head? ≠ some 45 := by
    intro l hl
    cases l with
    | nil => exact ⟨by simp, by simp⟩
    | cons a r =>
      have := hW43 a (hl a (by simp))
      exact ⟨by simpa using this.1, by simpa using this.2⟩
  cases hx : Lib.hasPrefix (c :: tw) [48, 120] with
  | true =>
    obtain ⟨r, rfl, rfl⟩ : ∃ r, c = 48 ∧ tw = 120 :: r := by
      cases tw with
      | nil => simp [Lib.hasPrefix, List.isPrefixOf] at hx
      | cons b r =>
        simp only [Lib.hasPrefix, List.isPrefixOf, Bool.and_eq_true, beq_iff_eq] at hx
        exact ⟨r, hx.1.symm, by rw [hx.2.1]⟩
    have hD1 : Lib.trimPrefix (48 :: 120 :: r) [48, 120] = r := by simp [Lib.trimPrefix, Lib.hasPrefix, List.isPrefixOf]
    rw [hx, hD1] at hC
    have hr : ∀ x ∈ r, Lx.isW x = true := fun x hx => ht x (by simp [hx])
    have hrs := htwS r hr
    have hrl : (Lex.BA r).size ≤ 281474976710656 := by rw [Lex.BA_size]; simp at hlen; omega
    have hnum : Lx.number (48 :: 120 :: r) = (Lx.canon Lx.hexd 16 15 r).map Int.ofNat := rfl
    have hP := fun W (hL : Lex.Laid W) => ParseInt16_calls (Lex.BA r) hrl (by simpa [Lex.BA] using hrs.1) (by simpa [Lex.BA] using hrs.2) W hL
    have hbr : (Lex.BA r).data.toList = r := by simp [Lex.BA]
    rw [hbr] at hP
    rcases Lex.hex_law r with ⟨n, hn1, hn2, hn3⟩ | ⟨hn1, hn2⟩
    · rw [hn1] at hP
      refine fin_ok (n : Int) (decide (r.length ≤ 15) && decide (r = Lx.fmtB Lx.dgh 16 n)) ?_ (number_ok g s _ _ _ (Lex.BA r) (Lex.BA (Lx.fmtB Lx.dgh 16 n)) true n n 16 15 (48 : UInt8).toNat _ i _ w h hL hg5 hix (by decide) hW hT hC rfl rfl rfl ?_ (by omega) (by omega) ?_ ?_ ?_)
      · rw [hnum, hn3]
        exact Lex.opt_if _ _ n
      · intro W hLW
        refine (hP W hLW).mono ?_
        rintro e w' ⟨n', er, rfl, _, ⟨ho, rfl⟩ | ⟨ho, _⟩, hb⟩
        · obtain rfl := Option.some.inj ho
          exact ⟨rfl, hb⟩
        · cases ho
      · exact fun W hLW => FormatInt16_calls n hn2 W hLW
      · rfl
      · have e1 : decide (((Lex.BA r).size : Int) ≤ 15) = decide (r.length ≤ 15) := by rw [Lex.BA_size]; simp only [decide_eq_decide]; omega
        have e2 : decide (Lex.BA r = Lex.BA (Lx.fmtB Lx.dgh 16 n)) = decide (r = Lx.fmtB Lx.dgh 16 n) := by
          simp only [decide_eq_decide]
          exact ⟨Lex.BA_inj, fun h => by rw [← h]⟩
        rw [e1, e2]
        simp
    · refine fin_err (by rw [hnum, hn2]; rfl) (number_err g s _ _ _ true i _ w h hL hg5 hpos (by rintro ⟨_, h⟩; exact absurd h (by show ¬ (48 : UInt8).toNat = 45; decide)) hW hT hC ?_)
      intro W hLW
      have := hP W hLW
      rcases hn1 with e | e <;> rw [e] at this <;> exact this
  | false =>
    rw [hx] at hC
    by_cases h45 : c = 45
    · subst h45
      have hD0 : Lib.trimPrefix (45 :: tw) [45] = tw := by simp [Lib.trimPrefix, Lib.hasPrefix, List.isPrefixOf]
      rw [hD0] at hT
      have hrs := htwS tw ht
      have hrl : (Lex.BA tw).size ≤ 281474976710656 := by rw [Lex.BA_size]; omega
      have hP := fun W (hL : Lex.Laid W) => ParseInt10_calls (Lex.BA tw) hrl (by simpa [Lex.BA] using hrs.2) W hL
      have hbr : (Lex.BA tw).data.toList = tw := by simp [Lex.BA]
      rw [hbr] at hP
      have hnum := Lex.number_minus tw
      rcases Lex.dec_law tw hrs.1 hrs.2 with ⟨n, hn1, hn2, hn3⟩ | ⟨hn1, hn2⟩
      · rw [hn1] at hP
        refine fin_ok (-(n : Int)) (decide (tw.length ≤ 18) && decide (tw = Lib.decDigits n) && decide (0 < n)) ?_ (number_ok g s _ _ _ (Lex.BA tw) (Lex.BA (Lib.decDigits n)) false n (-(n : Int)) 10 18 (45 : UInt8).toNat _ i _ w h hL hg5 hix (by decide) hW hT hC rfl rfl rfl ?_ (by omega) (by omega) ?_ ?_ ?_)
        · rw [hnum, hn3]
          by_cases h48 : tw.head? = some 48
          · rw [if_pos h48]
            have : ¬ (tw = Lib.decDigits n ∧ 0 < n) := by
              rintro ⟨e, hn0⟩
              rw [e, Lx.decDigits_fmt] at h48
              exact (Lx.digits_of_fmt (b := 10) (by decide) Lx.dg_dec Lx.dgd_48 n).2.2 (by omega) h48
            by_cases h2 : tw = Lib.decDigits n
            · have hz : ¬ 0 < n := fun hn => this ⟨h2, hn⟩
              simp [hz]
            · simp [h2]
          · rw [if_neg h48]
            by_cases h2 : tw = Lib.decDigits n
            · have hz : 0 < n := by
                rcases Nat.eq_zero_or_pos n with rfl | h
                · rw [Lex.decDigits_zero] at h2
                  rw [h2] at h48
                  exact absurd rfl h48
                · exact h
              by_cases h1 : tw.length ≤ 18 <;> simp [h1, ← h2, hz]
            · simp [h2]
        · intro W hLW
          refine (hP W hLW).mono ?_
          rintro e w' ⟨n', er, rfl, _, ⟨ho, rfl⟩ | ⟨ho, _⟩, hb⟩
          · obtain rfl := Option.some.inj ho
            exact ⟨rfl, hb⟩
          · cases ho
        · intro W hLW
          have := FormatInt10_calls (n : Int) (by omega) (by omega) W hLW
          rw [Lib.itoa_nonneg] at this
          exact this
        · rfl
        · have e1 : decide (((Lex.BA tw).size : Int) ≤ 18) = decide (tw.length ≤ 18) := by rw [Lex.BA_size]; simp only [decide_eq_decide]; omega
          have e2 : decide (Lex.BA tw = Lex.BA (Lib.decDigits n)) = decide (tw = Lib.decDigits n) := by
            simp only [decide_eq_decide]
            exact ⟨Lex.BA_inj, fun h => by rw [← h]⟩
          rw [e1, e2]
          simp
      · refine fin_err (by rw [hnum, hn2]; split <;> rfl) (number_err g s _ _ _ false i _ w h hL hg5 hpos (by simp) hW hT hC ?_)
        intro W hLW
        have := hP W hLW
        rcases hn1 with e | e <;> rw [e] at this <;> exact this
    · have hcD' : Lx.isD c = true := hcD (hc.resolve_right (fun e => h45 (hc6 e)))
      have hD0 : Lib.trimPrefix (c :: tw) [45] = c :: tw := by
        unfold Lib.trimPrefix
        rw [Lex.hasPrefix_one, if_neg (by simpa using fun e : 45 = c => h45 e.symm)]
      rw [hD0] at hT
      have hcW : ∀ x ∈ c :: tw, Lx.isW x = true := by
        intro x hx
        rcases List.mem_cons.1 hx with rfl | hx
        · simp [Lx.isW, hcD']
        · exact ht x hx
      have hrs := htwS (c :: tw) hcW
      have hrl : (Lex.BA (c :: tw)).size ≤ 281474976710656 := by rw [Lex.BA_size]; simp; omega
      have hP := fun W (hL : Lex.Laid W) => ParseInt10_calls (Lex.BA (c :: tw)) hrl (by simpa [Lex.BA] using hrs.2) W hL
      have hbr : (Lex.BA (c :: tw)).data.toList = c :: tw := by simp [Lex.BA]
      rw [hbr] at hP
      have hnum := Lex.number_plain c tw hx h45
      have hc45 : ¬ ((c.toNat : Nat) : Int) = 45 := fun e => h45 (UInt8.toNat_inj.1 (by show c.toNat = 45; omega))
      rcases Lex.dec_law (c :: tw) hrs.1 hrs.2 with ⟨n, hn1, hn2, hn3⟩ | ⟨hn1, hn2⟩
      · rw [hn1] at hP
        refine fin_ok (n : Int) (decide ((c :: tw).length ≤ 18) && decide (c :: tw = Lib.decDigits n)) ?_ (number_ok g s _ _ _ (Lex.BA (c :: tw)) (Lex.BA (Lib.decDigits n)) false n n 10 18 (c.toNat : Int) _ i _ w h hL hg5 hix (by simp) hW hT hC rfl rfl rfl ?_ (by omega) (by omega) ?_ ?_ ?_)
        · rw [hnum, hn3]
          exact Lex.opt_if _ _ n
        · intro W hLW
          refine (hP W hLW).mono ?_
          rintro e w' ⟨n', er, rfl, _, ⟨ho, rfl⟩ | ⟨ho, _⟩, hb⟩
          · obtain rfl := Option.some.inj ho
            exact ⟨rfl, hb⟩
          · cases ho
        · intro W hLW
          have := FormatInt10_calls (n : Int) (by omega) (by omega) W hLW
          rw [Lib.itoa_nonneg] at this
          exact this
        · rw [if_neg hc45]
        · have e1 : decide (((Lex.BA (c :: tw)).size : Int) ≤ 18) = decide ((c :: tw).length ≤ 18) := by rw [Lex.BA_size]; simp only [decide_eq_decide]; omega
          have e2 : decide (Lex.BA (c :: tw) = Lex.BA (Lib.decDigits n)) = decide (c :: tw = Lib.decDigits n) := by
            simp only [decide_eq_decide]
            exact ⟨Lex.BA_inj, fun h => by rw [← h]⟩
          rw [e1, e2, decide_eq_true (show ((c.toNat : Nat) : Int) ≠ 45 from hc45)]
          simp
      · refine fin_err (by rw [hnum, hn2]; rfl) (number_err g s _ _ _ false i _ w h hL hg5 hpos (by simp) hW hT hC ?_)
        intro W hLW
        have := hP W hLW
        rcases hn1 with e | e <;> rw [e] at this <;> exact this
end PLex
end Go.Proofs.YtbaojlfnbfbjmaaDoor
