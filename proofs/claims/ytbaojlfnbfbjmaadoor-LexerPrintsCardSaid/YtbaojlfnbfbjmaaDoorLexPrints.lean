/- What Print and Lines answer is what the reference answers. Plain: no memory. The law of texts and lines of tokens, walked. -/
import Derived.Test.YtbaojlfnbfbjmaaDoorLexText
import Derived.Test.YtbaojlfnbfbjmaaDoorLexGreat
import Derived.Test.YtbaojlfnbfbjmaaDoorLexSkip
import Derived.Test.YtbaojlfnbfbjmaaDoorLexLines
import Derived.Test.YtbaojlfnbfbjmaaDoorPLex7
import Derived.Test.YtbaojlfnbfbjmaaDoorPLex7
import Derived.Test.YtbaojlfnbfbjmaaDoorLexPrint
import Derived.Test.YtbaojlfnbfbjmaaDoorPLex1
import Derived.Test.YtbaojlfnbfbjmaaDoorPLex2
import Derived.IntWalk
import Derived.RegionTactic
import Derived.BigRegion
namespace Go.Proofs.YtbaojlfnbfbjmaaDoor.Pure
open Go.RowKit Go.Proofs.YtbaojlfnbfbjmaaDoor.PLex Go.Proofs.YtbaojlfnbfbjmaaDoorW.PrintWords Go.Proofs.YtbaojlfnbfbjmaaDoorW.PrintLast Go.Proofs.YtbaojlfnbfbjmaaDoor.Lex
/-! lines -/
theorem ref_lines_l0 (l : List S33) (hn : l.length ≤ 100000) : ∀ (d i : Nat), i + d = l.length → ∀ k, d + 1 ≤ k →
    retargetref07_Lines.l0 k l ((cutSt l i).1.map (Lex.part l)) (Lex.part l ((cutSt l i).2, i)) (i : Int) = some ((cutAll l).map (Lex.part l)) := by
  intro d
  induction d with
  | zero =>
    intro i hi k hk
    have hi : i = l.length := by omega
    subst hi
    have hle := cutSt_le l l.length
    match k, hk with
    | k + 1, _ =>
      simp only [retargetref07_Lines.l0]
      rw [if_neg (by omega), List.length_map, if_pos (by omega)]
      simp [cutAll]
  | succ d ih =>
    intro i hi k hk
    have hlt : i < l.length := by omega
    have hle := cutSt_le l i
    have hpl : (Lex.part l ((cutSt l i).2, i)).length = i - (cutSt l i).2 := part_len l _ i (by omega)
    match k, hk with
    | k + 1, hk =>
      have ih := ih (i + 1) (by omega) k (by omega)
      simp only [retargetref07_Lines.l0]
      rw [if_pos (by omega), if_pos (by omega), rd_nat l i hlt, w64n i (by omega), List.length_map, hpl]
      rw [cutSt] at ih
      have hg : (l.getD i ⟨0, ⟨#[]⟩, 0, 0⟩).f0 = l[i].f0 := by simp [hlt]
      rw [hg] at ih
      by_cases h5 : l[i].f0 = 5
      · rw [if_pos h5] at ih
        rw [if_pos h5, if_pos (by omega)]
        have e : Lex.part l (i + 1, i + 1) = [] := by simp [Lex.part]
        simp only [List.map_append, List.map_cons, List.map_nil, e] at ih
        exact ih
      · rw [if_neg h5] at ih
        rw [if_neg h5, if_pos (by omega)]
        have e : Lex.part l ((cutSt l i).2, i + 1) = Lex.part l ((cutSt l i).2, i) ++ [l[i]] := by
          unfold Lex.part
          rw [show i + 1 - (cutSt l i).2 = (i - (cutSt l i).2) + 1 by omega, List.take_succ_eq_append_getElem (by rw [List.length_drop]; omega)]
          congr 2
          rw [List.getElem_drop]
          congr 1
          omega
        rw [e] at ih
        exact ih
theorem ref_lines (l : List S33) (hn : l.length ≤ 100000) (k : Nat) (hk : l.length + 1 ≤ k) : retargetref07_Lines.f k l = some ((cutAll l).map (Lex.part l)) :=
  ref_lines_l0 l hn l.length 0 (by omega) k hk
/-! texts -/
theorem written_f (t : S33) (h : t.f1.size ≤ 140737488355328) : retargetref07_Written.f t.f0 t.f1 t.f2 t.f3 = some (wrS t) := by
  have e34 : strOfNums [34] = (⟨#[34]⟩ : ByteArray) := rfl
  unfold retargetref07_Written.f wrS
  by_cases h3 : t.f0 = 3
  · rw [if_pos h3, if_pos h3]
    simp only [Option.bind_some, e34]
    have e1 : (⟨#[34]⟩ : ByteArray).size = 1 := rfl
    rw [if_pos (by rw [e1]; omega), if_pos (by rw [ByteArray.size_append, e1]; omega)]
  · rw [if_neg h3, if_neg h3]
theorem wr_size (t : S33) : (wrS t).size ≤ t.f1.size + 2 ∧ t.f1.size ≤ (wrS t).size := by
  have e1 : (⟨#[34]⟩ : ByteArray).size = 1 := rfl
  unfold wrS
  split
  · rw [ByteArray.size_append, ByteArray.size_append, e1]
    omega
  · omega
theorem BA_inj {a b : List UInt8} (h : BA a = BA b) : a = b := by
  have := congrArg L h
  exact this
theorem BA_toList (s : ByteArray) : s.toList = L s := by rw [ByteArray.toList_eq]
theorem real_of (t : S33) (k : Lx.Tok) (c : UInt8) (r : List UInt8) (hsz : (wrS t).size ≤ 65536) (hL : L (wrS t) = c :: r) (hn : Lx.next c r = some k) (hw : k.written.length = (c :: r).length) (h0 : (k.kind : Int) = t.f0) (h1 : BA k.text = t.f1) (h2 : k.num = t.f2) : realS t = true := by
  obtain ⟨n1, n2, r', hwr, hnx⟩ := Lx.next_self hn
  have htk := (Lx.next_written hn).2.2
  rw [hw, List.take_length] at htk
  have hlen : (L (wrS t)).length = (wrS t).size := by simp [L]
  have hs : Lx.Scan 0 k.written [(k, 0)] none := by
    have hs0 : Lx.skipLen k.written = 0 := by rw [hwr]; simp [Lx.skipLen, n1, n2]
    have := Lx.Scan.tok (p := 0) (l := k.written) (t := r') (c := c) (k := k) (ts := []) (er := none) (by rw [hs0, List.drop_zero, hwr]) hnx (by
      rw [hs0, Nat.zero_add, List.drop_length]
      exact .fin rfl)
    rw [hs0] at this
    exact this
  have := real_tS (k, 0) (by show k.written.length ≤ 65536; rw [hw, ← hL, hlen]; exact hsz) hs
  have e : wrS (tS (k, 0)) = wrS t := by
    unfold wrS tS
    dsimp only
    rw [h0, h1]
  unfold realS at this ⊢
  rw [e] at this
  have e2 : (⟨(tS (k, 0)).f0, (tS (k, 0)).f1, (tS (k, 0)).f2, 0⟩ : S33) = ⟨t.f0, t.f1, t.f2, 0⟩ := by
    unfold tS
    dsimp only
    rw [h0, h1, h2]
  rw [e2] at this
  exact this
theorem real_f (t : S33) (h : t.f1.size ≤ 70000) (k : Nat) (hk : 70100 ≤ k) : retargetref07_Real.f k t.f0 t.f1 t.f2 t.f3 = some (realS t) := by
  have hws := wr_size t
  have hlen : (L (wrS t)).length = (wrS t).size := by simp [L]
  unfold retargetref07_Real.f
  rw [written_f t (by omega)]
  simp only [Option.bind_some]
  have no : (¬ ∃ (k : Lx.Tok) (c : UInt8) (r : List UInt8), (k.kind : Int) = t.f0 ∧ BA k.text = t.f1 ∧ k.num = t.f2 ∧ L (wrS t) = c :: r ∧ Lx.next c r = some k ∧ c ≠ 32 ∧ c ≠ 35 ∧ k.written = c :: r) → realS t = false := fun hne => by
    cases hr : realS t with
    | false => rfl
    | true => exact absurd (real_scan t hr) hne
  by_cases h1 : ((wrS t).size : Int) < 1
  · rw [if_pos h1, no]
    rintro ⟨_, c, r, _, _, _, hL, _⟩
    rw [hL] at hlen
    simp at hlen
    omega
  rw [if_neg h1]
  by_cases h2 : ((wrS t).size : Int) > 65536
  · rw [if_pos h2]
    unfold realS
    rw [decide_eq_false (by omega)]
    rfl
  rw [if_neg h2, show (0 : Int) = ((0 : Nat) : Int) from rfl, skip_ref (wrS t) (by omega) 0 (by omega) k (by omega)]
  simp only [Option.bind_some, List.drop_zero, Nat.zero_add]
  by_cases h3 : Lx.skipLen (L (wrS t)) = 0
  · rw [if_pos (by rw [h3])]
    have hn := next_ref (wrS t) (by omega) 0 (by omega)
    rw [hn]
    simp only [Option.bind_some]
    have hL : L (wrS t) = (wrS t)[0]'(by omega) :: (L (wrS t)).drop 1 := by
      have := Lex.dropL (wrS t) 0 (by omega)
      rwa [List.drop_zero] at this
    cases hx : Lx.next ((wrS t)[0]'(by omega)) ((L (wrS t)).drop (0 + 1)) with
    | none =>
      rw [show ans6 0 none = bad6 from rfl]
      rw [if_neg (by decide), no]
      rintro ⟨_, c, r, _, _, _, hL2, hn2, _⟩
      rw [hL] at hL2
      obtain ⟨rfl, rfl⟩ := List.cons.inj hL2
      rw [Nat.zero_add] at hx
      rw [hx] at hn2
      cases hn2
    | some u =>
      rw [Nat.zero_add] at hx
      have hneq : ∀ (q : Prop), ¬ q → (∀ (k : Lx.Tok) (c : UInt8) (r : List UInt8), (k.kind : Int) = t.f0 → BA k.text = t.f1 → k.num = t.f2 → L (wrS t) = c :: r → Lx.next c r = some k → k.written = c :: r → k = u → q) → realS t = false := fun q hq hi => no (by
        rintro ⟨k, c, r, e0, e1, e2, hL2, hn2, _, _, hw⟩
        have hL3 := hL2
        rw [hL] at hL2
        obtain ⟨rfl, rfl⟩ := List.cons.inj hL2
        rw [hx] at hn2
        cases hn2
        exact hq (hi _ _ _ e0 e1 e2 hL3 hx hw rfl))
      show (if true = true then (if ((0 + u.written.length : Nat) : Int) = ((wrS t).size : Int) then (if (u.kind : Int) = t.f0 then (if (BA u.text).toList = t.f1.toList then some (u.num == t.f2) else some false) else some false) else some false) else some false) = _
      rw [if_pos rfl, Nat.zero_add]
      by_cases c1 : ((u.written.length : Nat) : Int) = ((wrS t).size : Int)
      · rw [if_pos c1]
        by_cases c2 : (u.kind : Int) = t.f0
        · rw [if_pos c2]
          by_cases c3 : (BA u.text).toList = t.f1.toList
          · rw [if_pos c3]
            have c3' : BA u.text = t.f1 := by
              rw [BA_toList, BA_toList] at c3
              exact ByteArray.ext (Array.toList_inj.1 c3)
            by_cases c4 : u.num = t.f2
            · rw [real_of t u _ _ (by omega) hL hx (by rw [← hL]; omega) c2 c3' c4, c4]
              simp
            · rw [hneq (u.num = t.f2) c4 (fun k c r _ _ e2 _ _ _ e => e ▸ e2), beq_eq_false_iff_ne.2 c4]
          · rw [if_neg c3, hneq _ c3 (fun k c r _ e1 _ _ _ _ e => by rw [← e, e1])]
        · rw [if_neg c2, hneq _ c2 (fun k c r e0 _ _ _ _ _ e => e ▸ e0)]
      · rw [if_neg c1, hneq _ c1 (fun k c r _ _ _ hL2 _ hw e => by rw [← e, hw, ← hL2]; omega)]
  · rw [if_neg (by omega), no]
    rintro ⟨k, c, r, _, _, _, hL, _, n1, n2, _⟩
    apply h3
    rw [hL]
    exact Lex.skipLen_other r n1 n2
def toI (l : List UInt8) : List Int := l.map fun b => (b.toNat : Int)
theorem str_toI (l : List UInt8) : strOfNums (toI l) = BA l := by
  unfold strOfNums toI BA
  apply ByteArray.ext
  apply Array.toList_inj.1
  have e : ((fun n : Int => UInt8.ofNat n.toNat) ∘ fun b : UInt8 => (b.toNat : Int)) = id := by
    funext b
    simp
  rw [List.map_map, e, List.map_id]
theorem bytesOf_toI (s : ByteArray) : bytesOf s = toI (L s) := rfl
theorem ref_print_l1 (l : List S33) (hn : l.length ≤ 20000) (hsz : ∀ t ∈ l, t.f1.size ≤ 70000) : ∀ (d i : Nat), i + d = l.length → (txt l i).length ≤ 70003 * i → ∀ k, d + 1 ≤ k →
    retargetref07_Print.l1 k l (toI (txt l i)) (i : Int) = some (if 65536 < (txt l l.length).length then (⟨#[]⟩, 4) else (BA (txt l l.length), 0)) := by
  intro d
  induction d with
  | zero =>
    intro i hi hb k hk
    have hi : i = l.length := by omega
    subst hi
    match k, hk with
    | k + 1, _ =>
      simp only [retargetref07_Print.l1]
      rw [if_neg (by omega), show (toI (txt l l.length)).length = (txt l l.length).length by simp [toI]]
      by_cases h : 65536 < (txt l l.length).length
      · rw [if_pos h, if_pos (by omega)]
      · rw [if_neg h, if_neg (by omega), str_toI]
  | succ d ih =>
    intro i hi hb k hk
    have hlt : i < l.length := by omega
    have hsi := hsz l[i] (List.getElem_mem hlt)
    have hws := wr_size l[i]
    have hLl : (L (wrS l[i])).length = (wrS l[i]).size := by simp [L]
    have hgi : l.getD i zS = l[i] := by simp [hlt]
    have hto : (toI (txt l i)).length = (txt l i).length := by simp [toI]
    match k, hk with
    | k + 1, hk =>
      have hstep : (txt l (i + 1)).length ≤ 70003 * (i + 1) := by
        rw [txt, hgi, List.length_append, List.length_append]
        have : (if 0 < i ∧ l[i].f0 ≠ 5 ∧ (l.getD (i - 1) zS).f0 ≠ 5 then [32] else ([] : List UInt8)).length ≤ 1 := by split <;> simp
        omega
      have ih := ih (i + 1) (by omega) hstep k (by omega)
      have app : ∀ (x : List UInt8), toI (txt l i) ++ toI x = toI (txt l i ++ x) := fun x => by simp [toI]
      have plain : ¬ (0 < i ∧ l[i].f0 ≠ 5 ∧ (l.getD (i - 1) zS).f0 ≠ 5) → toI (txt l i) ++ bytesOf (wrS l[i]) = toI (txt l (i + 1)) := fun h => by
        rw [bytesOf_toI, app, txt, hgi, if_neg h, List.nil_append]
      simp only [retargetref07_Print.l1]
      rw [if_pos (by omega), rd_nat l i hlt, w64n i (by omega), written_f l[i] (by omega)]
      simp only [Option.bind_some]
      rw [hto]
      by_cases h0 : 0 < i
      · have hwi : wrap64 ((i : Int) - 1) = ((i - 1 : Nat) : Int) := by rw [w64 (by omega) (by omega)]; omega
        rw [if_pos (by omega), if_pos (by omega)]
        by_cases h5 : l[i].f0 = 5
        · rw [if_pos h5, if_pos (by omega), plain (fun h => h.2.1 h5)]
          exact ih
        · rw [if_neg h5, hwi, if_pos (by omega), if_pos (by omega), rd_nat l (i - 1) (by omega)]
          have hgp : l.getD (i - 1) zS = l[i - 1] := by simp [show i - 1 < l.length by omega]
          by_cases hp : l[i - 1].f0 = 5
          · rw [if_pos hp, if_pos (by omega), plain (fun h => h.2.2 (by rw [hgp]; exact hp))]
            exact ih
          · rw [if_neg hp, if_pos (by omega), if_pos (by rw [List.length_append, hto]; simp; omega)]
            have e : toI (txt l i) ++ [32] ++ bytesOf (wrS l[i]) = toI (txt l (i + 1)) := by
              rw [bytesOf_toI, txt, hgi, if_pos ⟨h0, h5, by rw [hgp]; exact hp⟩]
              simp [toI]
            rw [e]
            exact ih
      · rw [if_neg (by omega), if_pos (by omega), if_pos (by omega), plain (fun h => h0 h.1)]
        exact ih
def cnt (l : List S33) : Nat → Nat
  | 0 => 0
  | i + 1 => cnt l i + ((wrS (l.getD i zS)).size + 1)
theorem cnt_txt (l : List S33) : ∀ i, cnt l i ≤ (txt l i).length + i
  | 0 => Nat.le_refl _
  | i + 1 => by
    have := cnt_txt l i
    have hLl : (L (wrS (l.getD i zS))).length = (wrS (l.getD i zS)).size := by simp [L]
    rw [cnt, txt, List.length_append, List.length_append]
    omega
theorem ref_print_l0 (l : List S33) (hn : l.length ≤ 20000) (hsz : ∀ t ∈ l, t.f1.size ≤ 70000) : ∀ (d i : Nat), i + d = l.length → cnt l i ≤ 70003 * i → (∀ j (h : j < l.length), j < i → realS l[j] = true) → ∀ k, d + 100000 ≤ k →
    retargetref07_Print.l0 k l (cnt l i : Int) (i : Int) = some (prR l) := by
  intro d
  induction d with
  | zero =>
    intro i hi hb hall k hk
    have hi : i = l.length := by omega
    subst hi
    match k, hk with
    | k + 1, hk =>
      simp only [retargetref07_Print.l0]
      rw [if_neg (by omega), prR_ok l (fun j hj => hall j hj hj)]
      have hct := cnt_txt l l.length
      by_cases h : (cnt l l.length : Int) > 171072
      · rw [if_pos h, if_pos (by omega)]
      · rw [if_neg h]
        exact ref_print_l1 l hn hsz l.length 0 (by omega) (by simp [txt]) k (by omega)
  | succ d ih =>
    intro i hi hb hall k hk
    have hlt : i < l.length := by omega
    have hsi := hsz l[i] (List.getElem_mem hlt)
    have hws := wr_size l[i]
    have hgi : l.getD i zS = l[i] := by simp [hlt]
    match k, hk with
    | k + 1, hk =>
      simp only [retargetref07_Print.l0]
      rw [if_pos (by omega), if_pos (by omega), rd_nat l i hlt, real_f l[i] hsi k (by omega), written_f l[i] (by omega)]
      simp only [Option.bind_some]
      cases hr : realS l[i] with
      | false =>
        rw [if_neg (by decide), prR_bad l i hlt hr]
      | true =>
        rw [if_pos rfl, w64n i (by omega), w64 (i := (cnt l i : Int) + ((wrS l[i]).size : Int)) (by omega) (by omega), w64 (by omega) (by omega)]
        have e : (cnt l i : Int) + ((wrS l[i]).size : Int) + 1 = (cnt l (i + 1) : Int) := by
          rw [cnt, hgi]
          omega
        rw [e]
        refine ih (i + 1) (by omega) ?_ ?_ k (by omega)
        · rw [cnt, hgi]
          omega
        · intro j hj hji
          by_cases h : j < i
          · exact hall j hj h
          · obtain rfl : j = i := by omega
            exact hr
theorem ref_print (l : List S33) (hsz : ∀ t ∈ l, t.f1.size ≤ 70000) (k : Nat) (hk : 130000 ≤ k) : retargetref07_Print.f k l = some (if 20000 < l.length then (⟨#[]⟩, 4) else prR l) := by
  unfold retargetref07_Print.f
  by_cases h : 20000 < l.length
  · rw [if_pos h, if_pos (by omega)]
  · rw [if_neg h, if_neg (by omega)]
    exact ref_print_l0 l (by omega) hsz l.length 0 (by omega) (by simp [cnt]) (fun j _ hj => absurd hj (by omega)) k (by omega)
theorem LexerPrints : True := trivial
end Go.Proofs.YtbaojlfnbfbjmaaDoor.Pure
namespace Go.Proofs.YtbaojlfnbfbjmaaDoor
open Go.RowKit Go.Proofs Go.Proofs.YtbaojlfnbfbjmaaDoorW.PrintWords Go.Proofs.YtbaojlfnbfbjmaaDoorW.PrintWords.Kd Go.Proofs.YtbaojlfnbfbjmaaDoorW.PrintLast Go.Proofs.YtbaojlfnbfbjmaaDoorW.PrintMore
set_option linter.unusedVariables false
set_option linter.unusedSimpArgs false
attribute [-go_sem] Builtin.append_
namespace Lex
open PLex
theorem add_zero' (a : Addr) : a.add 0 = a := by unfold Addr.add; split <;> simp_all
/-- A copy of a whole row, as a run. -/
theorem copy_run (W : World) (n₀ : Nat) (hn : n₀ ≤ W.heap.size) (A0 : Option Addr) (c0 : Nat) (l0 : List S33) (hC : Kd.C k33 W A0 l0.length l0) (hc0 : l0.length ≤ c0) (hlen : l0.length ≤ 1000000) :
    ∃ B m q w1, (Builtin.append_ #[22, 22] 22 #[.slice (some ⟨W.heap.size, 0, none⟩) 0 0, .slice A0 l0.length c0]).run Tryd.prog (W.alloc (.cells #[] 33)) = .ok (.slice B m q) w1 ∧ Kd.R k33 33 w1 n₀ (fun k => W.heap.size ≤ k) (.slice B m q) l0 ∧ W.grownBy w1 none := by
  obtain ⟨v1, w1, hrun, hM, hg⟩ := part_run W n₀ hn A0 c0 l0 hC hc0 hlen 0 l0.length (Nat.zero_le _) (Nat.le_refl _)
  have hp : part l0 (0, l0.length) = l0 := by simp [part]
  have hs : subS A0 c0 0 l0.length = .slice A0 l0.length c0 := by
    unfold subS
    cases A0 <;> simp [add_zero']
  rw [hs] at hrun
  rw [hp] at hM
  obtain ⟨v', e, hR⟩ := hM
  cases e
  obtain ⟨A, c, rfl⟩ := Kd.R_slice hR
  exact ⟨A, _, c, w1, hrun, hR, hg⟩
/-- Between two stores: the rows c and d, what is below, the arguments. -/
structure PrSt (w wr : World) (Bc Bd : Nat) (vc vd : Value) (from_ : Nat) (r rs : List (List S33)) : Prop where
  c : Kd.S (Kd.slice 33 k33) 22 wr Bc (fun k => k < Bd) vc rs
  d : Kd.S (Kd.slice 33 k33) 22 wr Bd (fun k => Bd ≤ k) vd r
  bel : Below Bc w wr
  le : Bc ≤ Bd
  len : rs.length = r.length
  lens : ∀ j (h : j < rs.length) (h' : j < r.length), rs[j].length = r[j].length
  same : ∀ j (h : j < rs.length) (h' : j < r.length), from_ ≤ j → rs[j] = r[j]
theorem PrSt.drewN {w wr : World} {Bc Bd : Nat} {vc vd : Value} {f : Nat} {r rs : List (List S33)} (h : PrSt w wr Bc Bd vc vd f r rs) (n : Nat) : PrSt w (wr.drewN n) Bc Bd vc vd f r rs :=
  ⟨S_drewN h.c n, S_drewN h.d n, pw_below_drewN h.bel n, h.le, h.len, h.lens, h.same⟩
theorem PrSt.up {w wr : World} {Bc Bd : Nat} {vc vd : Value} {f f' : Nat} {r rs : List (List S33)} (h : PrSt w wr Bc Bd vc vd f r rs) (hf : f ≤ f') : PrSt w wr Bc Bd vc vd f' r rs :=
  ⟨h.c, h.d, h.bel, h.le, h.len, h.lens, fun j h1 h2 hj => h.same j h1 h2 (Nat.le_trans hf hj)⟩
/-- One store. -/
theorem PrSt.store {w wr : World} {Bc Bd m cap : Nat} {ad : Addr} {vd : Value} {i j : Nat} {x y : Int} {r rs : List (List S33)} (h : PrSt w wr Bc Bd (.slice (some ad) m cap) vd (i + 1) r rs) (hx : x = (i : Int)) (hy : y = (j : Int)) (hi : i < r.length) (hj : j < r[i].length) :
    ∃ adi ci z, wr.cell? (ad.add x.toNat) = some (.slice (some adi) r[i].length ci) ∧ wr.frozen? (adi.add (y.toNat * 4)) = false ∧ wr.cell? (adi.add (y.toNat * 4)) = some (.int .u8 z) ∧
      ∃ rs', PrSt w (wr.setCell (adi.add (y.toNat * 4)) (.int .u8 77)) Bc Bd (.slice (some ad) m cap) vd (i + 1) r rs' := by
  subst hx
  subst hy
  have hi' : i < rs.length := by rw [h.len]; exact hi
  have hjl : j < rs[i].length := by rw [h.lens i hi' hi]; exact hj
  have hm := (S_reads' h.c).1
  obtain ⟨g, rfl⟩ := Kd.R_head (S_R h.c)
  have hiI : ((i : Int)) < ((m : Nat) : Int) := by omega
  obtain ⟨oki, c, hcl, hM, hcc, hoki, hback⟩ := S_borrow h.c [] (i : Int) (by omega) hiI
  have hgd : rs.getD (i : Int).toNat [] = rs[i] := by simp [hi']
  rw [hgd] at hM
  obtain ⟨v', rfl, hR⟩ := hM
  have hjpos : 0 < rs[i].length := by omega
  obtain ⟨gi, ci, rfl, hgi1, hgi2, _⟩ := R_form hR hjpos
  have hok := hoki gi (hR.1 gi (by simp [Value.ownBlock]))
  have hjI : ((j : Int)) < ((rs[i].length : Nat) : Int) := by omega
  obtain ⟨cs, hcsl, hMj, hcsc, hfz⟩ := R_elem hR ⟨0, ⟨#[]⟩, 0, 0⟩ (j : Int) (by omega) hjI
  have hcs := k33_openM hMj
  have hR2g := R_seg hR (j : Int) (by omega) hjI (c := cs) (seg := [.int .u8 77]) (j := 0) hcsl hcsc (by decide)
    (x' := ⟨77, (rs[i].getD (j : Int).toNat ⟨0, ⟨#[]⟩, 0, 0⟩).f1, (rs[i].getD (j : Int).toNat ⟨0, ⟨#[]⟩, 0, 0⟩).f2, (rs[i].getD (j : Int).toNat ⟨0, ⟨#[]⟩, 0, 0⟩).f3⟩) (okp := fun _ => False)
    (by rw [hcs]; exact k33_mkM _ _ _ _) (fun _ hk => hk.elim)
  have hsz : k33.sz = 4 := rfl
  have had : (⟨gi, 0, none⟩ : Addr).add ((j : Int).toNat * 4) = ⟨gi, (j : Int).toNat * 4, none⟩ := add_plain _ _
  have hset : wr.setCells gi ((j : Int).toNat * k33.sz + 0) [.int .u8 77] = wr.setCell ((⟨gi, 0, none⟩ : Addr).add ((j : Int).toNat * 4)) (.int .u8 77) := by
    rw [hsz, had]
    rfl
  rw [hset] at hR2g
  obtain ⟨hR2, hgr⟩ := hR2g
  have hcell := hcc 0 (.slice (some ⟨gi, 0, none⟩) rs[i].length ci) rfl
  have hcell2 := hcsc 0 (.int .u8 (rs[i].getD (j : Int).toNat ⟨0, ⟨#[]⟩, 0, 0⟩).f0) (by rw [hcs]; rfl)
  have hfz0 := hfz 0
  have hlen := h.lens i hi' hi
  refine ⟨⟨gi, 0, none⟩, ci, (rs[i].getD (j : Int).toNat ⟨0, ⟨#[]⟩, 0, 0⟩).f0, ?_, ?_, ?_, rs.set (i : Int).toNat _, ⟨hback hgr ?_ ⟨_, rfl, hR2⟩, ?_, ?_, h.le, ?_, ?_, ?_⟩⟩
  · rw [← hlen]
    rw [show (Kd.slice 33 k33).sz = 1 from rfl, Nat.mul_one, Nat.add_zero] at hcell
    exact hcell
  · rw [had]
    rw [hsz, Nat.add_zero] at hfz0
    exact hfz0
  · rw [had]
    rw [hsz, Nat.add_zero] at hcell2
    exact hcell2
  · intro k hk
    cases hk
    exact hR.1 _ (by simp [Value.ownBlock])
  · rw [had]
    exact S_far h.d (fun k hk e => by have := hok.1; dsimp only at e; omega) _
  · rw [had]
    exact h.bel.setCell hgi1 _
  · simp [h.len]
  · intro m h1 h2
    rw [List.getElem_set]
    split
    · rename_i e
      have e' : m = i := by omega
      subst e'
      rw [List.length_set]
      exact h.lens m hi' h2
    · exact h.lens m (by simpa using h1) h2
  · intro m h1 h2 hm
    rw [List.getElem_set, if_neg (by omega)]
    exact h.same m (by simpa using h1) h2 hm
end Lex
namespace PLex
def rd_R4 (xs : List (List S33)) (i : Int) : (List S33) := xs.getD i.toNat ([] : List S33)
theorem at_R4 {w : World} {A : Option Addr} {n : Nat} {xs : List (List S33)} (h : Kd.C (Kd.slice 33 k33) w A n xs) (i : Int) (h0 : 0 ≤ i) (h1 : i < n) : ∃ ad A0 c0, A = some ad ∧ w.cell? (ad.add i.toNat) = some (.slice A0 (rd_R4 xs i).length c0) ∧ (rd_R4 xs i).length ≤ c0 ∧ k33.C w A0 (rd_R4 xs i).length (rd_R4 xs i) := by
  obtain ⟨ad, c, e, _, hK, hc0⟩ := Kd.C_get h ([] : List S33) i h0 h1
  have hc : ∀ j u, c[j]? = some u → w.cell? (ad.add (i.toNat * 1 + j)) = some u := hc0
  obtain ⟨A0, c0, rfl, l0, g0⟩ := hK
  exact ⟨ad, A0, c0, e, by have hq := hc 0 _ rfl; rwa [Nat.mul_one, Nat.add_zero] at hq, l0, g0⟩
set_option maxHeartbeats 8000000 in
set_option maxRecDepth 100000 in
theorem prints_few (A0 : Option Addr) (c0 : Nat) (l0 : List S33) (w : World) (hL : Lex.Laid w) (hr0 : Kd.C k33 w A0 l0.length l0) (hc0 : l0.length ≤ c0) (hlen : l0.length ≤ 20100)
    (KG KP KL : Nat) (a : ByteArray) (er : Int) (r : List (List S33)) (hG : retargetref07_Great.f KG l0 = some false) (hP : lexer_Print.f l0 = some (a, er)) (hP' : retargetref07_Print.f KP l0 = some (a, er))
    (hLn : lexer_Lines.f l0 = some r) (hL' : retargetref07_Lines.f KL l0 = some r) (hrp : 0 < r.length) (hrl : r.length ≤ 20101) (hS : ∀ i (h : i < r.length), r[i].length ≤ 20100 ∧ retargetref07_Same.f 30000 r[i] r[i] true = some true) (hSl : retargetref07_Same.f 30000 l0 l0 true = some true) :
    Calls Tryd.prog 10 #[.slice A0 l0.length c0] w fun e w' => e = .returned (.bool true) ∧ Below w.heap.size w w' := by
  have HL := Aside0.mk hL
  have HR0 := Aside0.mk hr0
  have HC0 := Aside0.mk hc0
  have HLEN := Aside0.mk hlen
  have HG := Aside0.mk hG
  have HP := Aside0.mk hP
  have HP' := Aside0.mk hP'
  have HLN := Aside0.mk hLn
  have HL' := Aside0.mk hL'
  have HRP := Aside0.mk hrp
  have HRL := Aside0.mk hrl
  have HS := Aside0.mk hS
  have HSL := Aside0.mk hSl
  have hne1 : (a.toList != a.toList) = false := by simp
  have hne2 : (er != er) = false := by simp
  have hne3 : ((r.length : Int) != (r.length : Int)) = false := by simp
  clear hL hr0 hc0 hlen hG hP hP' hLn hL' hrp hrl hS hSl
  go_enter Tryd.func10, Tryd.ntmps10
  go_wp2_with (first
    | (go_at_call 17; refine (retargetref07_Great.calls KG A0 c0 l0 false _ HR0.out HC0.out HG.out).mono ?_; rintro e w1 ⟨rfl, hb⟩; obtain ⟨B, m, q, w2, r1, hRw, hg⟩ := Lex.copy_run w1 w.heap.size hb.size A0 c0 l0 (Kd.C_below HR0.out hb) HC0.out (by have := HLEN.out; omega); have HRW := Aside0.mk hRw; have HB2 := Aside0.mk (hb.grown hg hb.size (fun k e => by cases e)); clear hb hg hRw)
    | (go_at_call 19; refine (lexer_Print.calls A0 c0 l0 a er _ (HL.out.below HB2.out) (Kd.C_below HR0.out HB2.out) HC0.out HP.out).mono ?_; rintro e w3 ⟨rfl, hb⟩; have HB3 := Aside0.mk (below_step HB2.out hb); have HRW3 := Aside0.mk (Kd.R_below HRW.out hb); clear hb)
    | (go_at_call 26; refine (retargetref07_Print.calls KP A0 c0 l0 a er _ (Kd.C_below HR0.out HB3.out) HC0.out HP'.out).mono ?_; rintro e w4 ⟨rfl, hb⟩; have HB4 := Aside0.mk (below_step HB3.out hb); have HRW4 := Aside0.mk (Kd.R_below HRW3.out hb); clear hb)
    | (go_at_call 18; refine (lexer_Lines.calls A0 c0 l0 r _ (Kd.C_below HR0.out HB4.out) HC0.out HLN.out).mono ?_; rintro e w5 ⟨vc, rfl, hs, hb⟩; have HSC := Aside0.mk hs; have HK5 := Aside0.mk hb; have HB5 := Aside0.mk (below_step HB4.out hb); clear hb hs)
    | (go_at_call 27; refine (retargetref07_Lines.calls KL A0 c0 l0 r _ (Kd.C_below HR0.out HB5.out) HC0.out HL'.out).mono ?_; rintro e w6 ⟨vd, rfl, hs, hb⟩; have HSD := Aside0.mk hs; have HK6 := Aside0.mk hb; obtain ⟨gc, cc, rfl, _, _, _⟩ := S_form HSC.out HRP.out; obtain ⟨gd, cd, rfl, _, _, _⟩ := S_form HSD.out HRP.out; clear hb hs))
  obtain ⟨adc, hadc⟩ : ∃ ad, ad = (⟨gc, 0, none⟩ : Addr) := ⟨_, rfl⟩
  obtain ⟨add, hadd⟩ : ∃ ad, ad = (⟨gd, 0, none⟩ : Addr) := ⟨_, rfl⟩
  rw [← hadc] at HSC ⊢
  rw [← hadd] at HSD ⊢
  clear hadc hadd
  have HST : Aside0 (Lex.PrSt w4 w6 w4.heap.size w5.heap.size (.slice (some adc) r.length cc) (.slice (some add) r.length cd) 0 r r) :=
    ⟨⟨S_mono (S_old HSC.out HK6.out) (fun k hk => hk.2), S_mono (S_bound HSD.out) (fun k hk => hk.2.1), HK5.out.trans (HK6.out.mono HK5.out.size), HK5.out.size, rfl, fun _ _ _ => rfl, fun _ _ _ _ => rfl⟩⟩
  clear HSC HSD
  go_loopg [10] (r.length) (fun k v10 wr => ∃ (i : Nat) (x : Int) (rs : List (List S33)), v10 = .int .i64 x ∧ Aside0 (x = (i : Int) ∧ i ≤ r.length ∧ k = r.length - i) ∧ Aside0 (Lex.PrSt w4 wr w4.heap.size w5.heap.size (.slice (some adc) r.length cc) (.slice (some add) r.length cd) i r rs))
  case atStart => exact ⟨0, 0, r, rfl, ⟨rfl, by omega, by omega⟩, HST⟩
  case round =>
    clear HST
    obtain ⟨i, x, rs, rfl, HI, HST⟩ := hrel
    by_cases hlt : i < r.length
    · have hi := HI.out
      have p1 : 0 ≤ x := by omega
      have q1 : x < (r.length : Int) := by omega
      have hi' : i < rs.length := by rw [HST.out.len]; exact hlt
      obtain ⟨ad1, A1, c1, e1, hx1, hl1, hC1⟩ := at_R4 (S_reads' HST.out.c).2.2 x p1 (by rw [HST.out.len]; exact q1)
      cases e1
      obtain ⟨ad2, A2, c2, e2, hx2, hl2, hC2⟩ := at_R4 (S_reads' HST.out.d).2.2 x p1 q1
      cases e2
      have hr1 : rd_R4 rs x = r[i] := by
        rw [hi.1]
        simp only [rd_R4, Int.toNat_natCast]
        rw [List.getD_eq_getElem?_getD, List.getElem?_eq_getElem hi']
        exact HST.out.same i hi' hlt (Nat.le_refl _)
      have hr2 : rd_R4 r x = r[i] := by rw [hi.1]; simp [rd_R4, hlt]
      rw [hr1] at hx1 hl1 hC1
      rw [hr2] at hx2 hl2 hC2
      obtain ⟨ri, hri⟩ : ∃ z, z = r[i] := ⟨_, rfl⟩
      rw [← hri] at hx1 hl1 hC1 hx2 hl2 hC2
      have HRI := Aside0.mk hri
      have hsm := (HS.out i hlt).2
      have hrlen := (HS.out i hlt).1
      rw [← hri] at hsm hrlen
      have HSM := Aside0.mk hsm
      have HRN := Aside0.mk hrlen
      have HC1 := Aside0.mk hC1
      have HC2 := Aside0.mk hC2
      have HL1 := Aside0.mk hl1
      have HL2 := Aside0.mk hl2
      have HST1 := Aside0.mk (HST.out.up (Nat.le_succ i))
      replace p1 := eq_true p1
      replace q1 := eq_true q1
      clear hi hr1 hr2 hri hsm hrlen hC1 hC2 hl1 hl2 hi' HST
      go_wp2
      go_quiet (first
        | (go_at_call 13; exact Calls.quiet_of ((retargetref07_Same.calls 30000 A1 c1 ri A2 c2 ri true true _ (Kd.C_drewN HC1.out _) HL1.out (Kd.C_drewN HC2.out _) HL2.out HSM.out).mono fun _ _ h => ⟨h.1, h.2.out⟩)))
      go_wp2
      go_loopg [11] (r[i].length) (fun k v11 wr => ∃ (j : Nat) (y : Int) (rs : List (List S33)), v11 = .int .i64 y ∧ Aside0 (y = (j : Int) ∧ j ≤ r[i].length ∧ k = r[i].length - j) ∧ Aside0 (Lex.PrSt w4 wr w4.heap.size w5.heap.size (.slice (some adc) r.length cc) (.slice (some add) r.length cd) (i + 1) r rs))
      case atStart => exact ⟨0, 0, rs, rfl, ⟨rfl, by omega, by omega⟩, ⟨HST1.out.drewN _⟩⟩
      case round =>
        clear HST1 HC1 HC2
        obtain ⟨j, y, rs1, rfl, HJ, HST⟩ := hrel
        have hi := HI.out
        have hi1 : i < rs1.length := by rw [HST.out.len]; exact hlt
        obtain ⟨ad3, A3, c3, e3, hx3, hl3, hC3⟩ := at_R4 (S_reads' HST.out.c).2.2 x (by omega) (by rw [HST.out.len]; omega)
        cases e3
        have hr3 : (rd_R4 rs1 x).length = r[i].length := by
          rw [hi.1]
          simp only [rd_R4, Int.toNat_natCast]
          rw [List.getD_eq_getElem?_getD, List.getElem?_eq_getElem hi1]
          exact HST.out.lens i hi1 hlt
        rw [hr3] at hx3
        obtain ⟨NI, hNI⟩ : ∃ n, n = r[i].length := ⟨_, rfl⟩
        rw [← hNI] at hx3
        have HNI := Aside0.mk hNI
        have hj := HJ.out
        rw [← hNI] at hj
        by_cases hjl : j < NI
        · have p2 : 0 ≤ y := by omega
          have q2 : y < (NI : Int) := by omega
          obtain ⟨adi, ci, z, f1, f2, f3, rs2, HS2⟩ := HST.out.store hi.1 HJ.out.1 hlt (by omega)
          rw [← hNI] at f1
          have HS2 := Aside0.mk HS2
          replace p2 := eq_true p2
          replace q2 := eq_true q2
          have p1 : (0 ≤ x) = True := eq_true (by omega)
          have q1 : (x < (r.length : Int)) = True := eq_true (by omega)
          clear hi hr3 hNI hj hx3 hl3 hC3 hi1 HST
          go_wp2
          go_roundg (NI - (j + 1))
          case measure => have h1 := HNI.out; have h2 := HJ.out; omega
          case rel =>
            refine ⟨j + 1, _, rs2, rfl, ⟨?_, by have h1 := HNI.out; omega, by have h1 := HNI.out; omega⟩, HS2⟩
            have h1 := HJ.out.1
            have h2 := HRN.out
            have h3 := HRI.out
            rw [h1, Pure.w64n j (by have := HNI.out; rw [h3] at h2; omega)]
        · have hge : (y < (NI : Int)) = False := eq_false (by omega)
          have p1 : (0 ≤ x) = True := eq_true (by omega)
          have q1 : (x < (r.length : Int)) = True := eq_true (by omega)
          clear hi hr3 hNI hj hl3 hC3 hi1
          go_wp2
          go_roundg (r.length - (i + 1))
          case measure => have := HI.out; omega
          case rel =>
            refine ⟨i + 1, _, rs1, rfl, ⟨?_, by omega, by omega⟩, HST⟩
            rw [HI.out.1, Pure.w64n i (by have := HRL.out; omega)]
    · have hi := HI.out
      have hge : (x < (r.length : Int)) = False := eq_false (by omega)
      have hb := HB4.out.trans (HST.out.bel.mono HB4.out.size)
      have HB := Aside0.mk hb
      have HCL := Aside0.mk (Kd.C_below HR0.out hb)
      have hRW := R_step HRW4.out (fun k hk hlt => HST.out.bel.block k hlt)
      have HCW := Aside0.mk (Kd.R_reads' hRW).2.2
      have HWL := Aside0.mk (Kd.R_reads' hRW).2.1
      have hmq := (Kd.R_reads' hRW).1
      have HMQ := Aside0.mk hmq
      subst hmq
      clear hi hb hRW
      go_wp2_with (first
        | (go_at_call 13; refine (retargetref07_Same.calls 30000 A0 c0 l0 B q l0 true true _ HCL.out HC0.out HCW.out HWL.out HSL.out).mono ?_; rintro e w9 ⟨rfl, ⟨n9, rfl⟩⟩))
      go_ret
      exact ⟨rfl, pw_below_drewN HB.out _⟩
set_option maxHeartbeats 4000000 in
set_option maxRecDepth 100000 in
theorem prints_great (A0 : Option Addr) (c0 : Nat) (l0 : List S33) (w : World) (hr0 : Kd.C k33 w A0 l0.length l0) (hc0 : l0.length ≤ c0) (KG : Nat) (hG : retargetref07_Great.f KG l0 = some true) :
    Calls Tryd.prog 10 #[.slice A0 l0.length c0] w fun e w' => e = .returned (.bool true) ∧ Below w.heap.size w w' := by
  have HR0 := Aside0.mk hr0
  have HC0 := Aside0.mk hc0
  have HG := Aside0.mk hG
  clear hr0 hc0 hG
  go_enter Tryd.func10, Tryd.ntmps10
  go_wp2_with (first
    | (go_at_call 17; refine (retargetref07_Great.calls KG A0 c0 l0 true _ HR0.out HC0.out HG.out).mono ?_; rintro e w1 ⟨rfl, hb⟩; have HB1 := Aside0.mk hb; clear hb))
  go_ret
  exact ⟨rfl, HB1.out⟩
theorem retargetlaw07_LexerPrints.walk (P : True) (A0 : Option Addr) (c0 : Nat) (l0 : List S33) (w : World) (ok0 : XOk33 l0) (hr0 : Kd.C k33 w A0 l0.length l0) (hc0 : l0.length ≤ c0) (hL : Lex.Laid w) :
    Calls Tryd.prog 10 #[.slice A0 l0.length c0] w fun e w' => e = .returned (.bool true) ∧ Below w.heap.size w w' := by
  rcases Gr.great_f l0 20200 (Nat.le_refl _) with hg | ⟨hg, hlen, hsz⟩
  · exact prints_great A0 c0 l0 w hr0 hc0 20200 hg
  · have hpf := Pure.print_f l0 (fun t ht => Nat.le_trans (hsz t ht) (by omega))
    have hrf := Pure.ref_print l0 hsz 130000 (Nat.le_refl _)
    obtain ⟨ae, hae⟩ : ∃ ae, ae = (if 20000 < l0.length then ((⟨#[]⟩ : ByteArray), (4 : Int)) else Lex.prR l0) := ⟨_, rfl⟩
    rw [← hae] at hpf hrf
    obtain ⟨a, er⟩ := ae
    have hlf : lexer_Lines.f l0 = some ((Lex.cutAll l0).map (Lex.part l0)) := by
      unfold lexer_Lines.f
      rw [if_pos (by omega)]
    have hrl := Pure.ref_lines l0 (by omega) 30000 (by omega)
    have hcl := (Lex.cutSt_le l0 l0.length).2
    have hsame : ∀ l : List S33, l.length ≤ 20100 → retargetref07_Same.f 30000 l l true = some true := fun l hl =>
      Pure.same_true l l true rfl (by omega) (fun i h0 h1 => ⟨rfl, rfl, rfl, fun _ => rfl⟩) 30000 (by omega)
    have hpl : ∀ x : Nat × Nat, (Lex.part l0 x).length ≤ 20100 := fun x => by
      have : (Lex.part l0 x).length ≤ l0.length := by
        unfold Lex.part
        rw [List.length_take, List.length_drop]
        omega
      omega
    refine prints_few A0 c0 l0 w hL hr0 hc0 hlen 20200 130000 30000 a er _ hg hpf hrf hlf hrl (by simp [Lex.cutAll]) (by simp [Lex.cutAll]; omega) ?_ (hsame l0 hlen)
    intro i h
    rw [List.getElem_map]
    exact ⟨hpl _, hsame _ (hpl _)⟩
end PLex
end Go.Proofs.YtbaojlfnbfbjmaaDoor
