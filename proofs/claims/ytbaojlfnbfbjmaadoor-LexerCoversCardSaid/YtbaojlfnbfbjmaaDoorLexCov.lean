/- The tokens cover the text: plain words, and what the law's own helpers answer. No memory. -/
import Derived.Test.YtbaojlfnbfbjmaaDoorLexPure
import Derived.Test.YtbaojlfnbfbjmaaDoorPLex8
namespace Go.Proofs.YtbaojlfnbfbjmaaDoor.Pure
open Go.RowKit Go.Proofs.YtbaojlfnbfbjmaaDoor.PLex Go.Proofs.YtbaojlfnbfbjmaaDoorW.PrintWords Go.Proofs.YtbaojlfnbfbjmaaDoorW.PrintLast Go.Proofs.YtbaojlfnbfbjmaaDoor.Lex
/-- Only spaces, and remarks to their ends. -/
def gapB : Bool → List UInt8 → Bool
  | _, [] => true
  | m, c :: t => if c = 10 then false else if m || c == 35 then gapB true t else if c = 32 then gapB false t else false
theorem gap_rem : ∀ l : List UInt8, (∀ x ∈ l, x ≠ 10) → gapB true l = true
  | [], _ => rfl
  | c :: t, h => by
    unfold gapB
    rw [if_neg (h c (by simp)), if_pos (by simp)]
    exact gap_rem t (fun x hx => h x (by simp [hx]))
theorem tw_all (q : UInt8 → Bool) : ∀ l : List UInt8, ∀ x ∈ l.takeWhile q, q x = true
  | [], _, h => by cases h
  | c :: t, x, h => by
    by_cases hc : q c = true
    · rw [List.takeWhile_cons_of_pos hc] at h
      rcases List.mem_cons.1 h with rfl | h
      · exact hc
      · exact tw_all q t x h
    · rw [List.takeWhile_cons_of_neg hc] at h
      cases h
theorem tw_take' (q : UInt8 → Bool) (l : List UInt8) : l.take (l.takeWhile q).length = l.takeWhile q := (List.prefix_iff_eq_take.1 (List.takeWhile_prefix q)).symm
theorem gap_skip : ∀ l : List UInt8, gapB false (l.take (Lx.skipLen l)) = true
  | [] => rfl
  | c :: t => by
    by_cases h1 : c = 32
    · subst h1
      rw [Lex.skipLen_space, List.take_succ_cons]
      unfold gapB
      rw [if_neg (by decide), if_neg (by decide), if_pos rfl]
      exact gap_skip t
    · by_cases h2 : c = 35
      · subst h2
        have e : Lx.skipLen (35 :: t) = (t.takeWhile (· != 10)).length + 1 := by simp [Lx.skipLen]
        rw [e, List.take_succ_cons, tw_take']
        unfold gapB
        rw [if_neg (by decide), if_pos (by decide)]
        exact gap_rem _ (fun x hx => by simpa using tw_all _ t x hx)
      · rw [Lex.skipLen_other t h1 h2]
        rfl
/-- Where each token's part of the text ends, and what lies between. -/
theorem scan_cov (full : List UInt8) {p : Nat} {l : List UInt8} {ts : List (Lx.Tok × Nat)} {er : Option Nat} (h : Lx.Scan p l ts er) (he : er = none) (hf : full.drop p = l) (hp : p ≤ full.length) :
    ∃ E : Nat → Nat, E 0 = p ∧ (∀ i (hi : i < ts.length), E i ≤ ts[i].2 ∧ ts[i].2 + ts[i].1.written.length ≤ full.length ∧ 1 ≤ ts[i].1.written.length ∧ (full.drop ts[i].2).take ts[i].1.written.length = ts[i].1.written ∧ gapB false ((full.drop (E i)).take (ts[i].2 - E i)) = true ∧ E (i + 1) = ts[i].2 + ts[i].1.written.length) ∧ E ts.length ≤ full.length ∧ gapB false (full.drop (E ts.length)) = true := by
  induction h with
  | @fin p l h =>
    refine ⟨fun _ => p, rfl, fun i hi => absurd hi (by simp), hp, ?_⟩
    show gapB false (full.drop p) = true
    have hl : Lx.skipLen l = l.length := by
      have h1 := Lx.skip_le l
      have h2 := List.drop_eq_nil_iff.1 h
      omega
    have := gap_skip l
    rw [hl, List.take_length] at this
    rw [hf]
    exact this
  | bad h hx => cases he
  | @tok p l t c k ts er h hx hr ih =>
    obtain ⟨h1, h2, h3⟩ := Lx.next_written hx
    have hs := Lx.skip_le l
    have hlen : (l.drop (Lx.skipLen l)).length = t.length + 1 := by rw [h]; rfl
    rw [List.length_drop] at hlen
    have hll : l.length = full.length - p := by rw [← hf, List.length_drop]
    obtain ⟨E, e0, hE, hn, hg⟩ := ih he (by rw [← hf, List.drop_drop]; congr 1; omega) (by omega)
    refine ⟨fun i => match i with | 0 => p | i + 1 => E i, rfl, ?_, hn, hg⟩
    intro i hi
    match i with
    | 0 =>
      refine ⟨by simp, by simp; omega, h1, ?_, ?_, e0⟩
      · show (full.drop (p + Lx.skipLen l)).take k.written.length = k.written
        rw [← List.drop_drop, hf, h]
        exact h3
      · show gapB false ((full.drop p).take (p + Lx.skipLen l - p)) = true
        rw [hf, Nat.add_sub_cancel_left]
        exact gap_skip l
    | i + 1 =>
      have := hE i (by simpa using hi)
      simpa using this
theorem bI2 (c d : UInt8) (n : Int) (h : (d.toNat : Int) = n) : ((c.toNat : Nat) : Int) = n ↔ c = d := by
  subst h
  constructor
  · intro e
    exact UInt8.toNat_inj.1 (by omega)
  · rintro rfl
    rfl
theorem gap_l0 (s : ByteArray) (hs : s.size < 1000000) : ∀ (d i : Nat), i + d = s.size → ∀ (m : Bool), gapB m ((L s).drop i) = true → ∀ k, d + 1 ≤ k → retargetlaw07_gap.l0 k s m (i : Int) = some true := by
  intro d
  induction d with
  | zero =>
    intro i hi m hg k hk
    match k, hk with
    | k + 1, _ =>
      simp only [retargetlaw07_gap.l0]
      rw [if_neg (by omega)]
  | succ d ih =>
    intro i hi m hg k hk
    match k, hk with
    | k + 1, hk =>
      have hi' : i < s.size := by omega
      rw [Lex.dropL s i hi'] at hg
      unfold gapB at hg
      by_cases h10 : s[i] = 10
      · rw [if_pos h10] at hg
        cases hg
      rw [if_neg h10] at hg
      have n10 : ¬ ((s[i].toNat : Nat) : Int) = 10 := fun e => h10 ((bI2 _ 10 10 rfl).1 e)
      simp only [retargetlaw07_gap.l0]
      rw [if_pos (by omega), bt_nat s i hi', w64n i (by omega)]
      cases m with
      | true =>
        rw [if_pos rfl, if_pos (by omega), if_neg n10]
        rw [if_pos (by simp)] at hg
        exact ih (i + 1) (by omega) true hg k (by omega)
      | false =>
        rw [if_neg (by decide), if_pos (by omega), if_neg n10]
        by_cases h35 : s[i] = 35
        · have e35 := (bI2 s[i] 35 35 rfl).2 h35
          rw [if_pos (by simp [h35])] at hg
          rw [if_pos e35, show (((s[i].toNat : Nat) : Int) == 35) = true from beq_iff_eq.2 e35]
          exact ih (i + 1) (by omega) true hg k (by omega)
        · have e35 : ¬ ((s[i].toNat : Nat) : Int) = 35 := fun e => h35 ((bI2 _ 35 35 rfl).1 e)
          rw [if_neg (by simp [h35])] at hg
          rw [if_neg e35, show (((s[i].toNat : Nat) : Int) == 35) = false from beq_eq_false_iff_ne.2 e35]
          by_cases h32 : s[i] = 32
          · rw [if_pos h32] at hg
            rw [if_pos ((bI2 _ 32 32 rfl).2 h32)]
            exact ih (i + 1) (by omega) false hg k (by omega)
          · rw [if_neg h32] at hg
            cases hg
theorem gap_ref (s : ByteArray) (hs : s.size < 1000000) (hg : gapB false (L s) = true) : retargetlaw07_gap.f (s.size + 1) s = some true :=
  gap_l0 s hs s.size 0 (by omega) false hg _ (by omega)
theorem extract_tk (s : ByteArray) (i n : Nat) : s.extract i (i + n) = BA (((L s).drop i).take n) := by
  apply ByteArray.ext
  apply Array.toList_inj.1
  simp [L, BA, List.take_drop]
theorem written_ref (t : Lx.Tok) (q : Int) (hl : t.text.length ≤ 1000000) : retargetlaw07_written.f (t.kind : Int) (BA t.text) t.num q = some (BA t.written) := by
  unfold retargetlaw07_written.f
  have hsz : (BA t.text).size = t.text.length := rfl
  have e1 : ((⟨#[34]⟩ : ByteArray) ++ BA t.text).size = 1 + (BA t.text).size := by rw [ByteArray.size_append]; rfl
  by_cases h : t.kind = 3
  · rw [if_pos (by omega), if_pos (by omega), if_pos (by omega)]
    congr 1
    apply ByteArray.ext
    apply Array.toList_inj.1
    simp [BA, Lx.Tok.written, h]
  · rw [if_neg (by omega), Lx.Tok.written, if_neg h]
end Go.Proofs.YtbaojlfnbfbjmaaDoor.Pure
