/- Texts and tokens: what Print answers, and Tokens of it. Plain: no memory. -/
import Derived.Test.YtbaojlfnbfbjmaaDoorLexPure
import Derived.Test.YtbaojlfnbfbjmaaDoorLexPrint
namespace Go.Proofs.Lx
/-- What a token is, is told by its own bytes. -/
theorem next_self {c : UInt8} {t : List UInt8} {k : Tok} (h : next c t = some k) : c ≠ 32 ∧ c ≠ 35 ∧ ∃ r, k.written = c :: r ∧ next c r = some k := by
  have hc : c ≠ 32 ∧ c ≠ 35 := by
    constructor <;> (rintro rfl; cases h)
  refine ⟨hc.1, hc.2, ?_⟩
  have twself : ∀ q : UInt8 → Bool, (t.takeWhile q).takeWhile q = t.takeWhile q := fun q => by
    induction t with
    | nil => rfl
    | cons x t ih =>
      by_cases hx : q x = true
      · rw [List.takeWhile_cons_of_pos hx, List.takeWhile_cons_of_pos hx]
        congr 1
        have aux : ∀ l : List UInt8, (l.takeWhile q).takeWhile q = l.takeWhile q := by
          intro l
          induction l with
          | nil => rfl
          | cons y l ih2 =>
            by_cases hy : q y = true
            · rw [List.takeWhile_cons_of_pos hy, List.takeWhile_cons_of_pos hy, ih2]
            · rw [List.takeWhile_cons_of_neg hy]
              rfl
        exact aux t
      · rw [List.takeWhile_cons_of_neg hx]
        rfl
  have h0 := h
  unfold next at h
  split at h
  · rename_i h9
    cases h
    exact ⟨[], by simp [Tok.written], by unfold next; rw [h9]; rfl⟩
  · rename_i h8
    cases h
    exact ⟨[], by simp [Tok.written], by unfold next; rw [h8]; rfl⟩
  · rename_i h7
    split at h
    · rename_i h34
      cases h
      have hc34 : c = 34 := by
        have : ∀ n : Fin 256, cls (UInt8.ofNat n.val) = 7 → UInt8.ofNat n.val = 34 := by decide +kernel
        have h2 := this ⟨c.toNat, c.toNat_lt⟩
        rw [show UInt8.ofNat (⟨c.toNat, c.toNat_lt⟩ : Fin 256).val = c from UInt8.ofNat_toNat] at h2
        exact h2 h7
      refine ⟨t.takeWhile isQ ++ [34], by simp [Tok.written, hc34], ?_⟩
      unfold next
      rw [h7]
      simp only
      rw [tw_app_stop isQ 34 [] (by decide) _, twself]
      have : ((t.takeWhile isQ ++ [34]).dropWhile isQ).head? = some 34 := by
        rw [dw_app_stop isQ 34 [] (by decide)]
        have e : (t.takeWhile isQ).dropWhile isQ = [] := by
          have := List.takeWhile_append_dropWhile (p := isQ) (l := t.takeWhile isQ)
          rw [twself] at this
          exact List.append_cancel_left (this.trans (List.append_nil _).symm)
        rw [e]
        rfl
      rw [if_pos this]
    · cases h
  · rename_i h3
    split at h
    · rename_i hl
      cases h
      refine ⟨t.takeWhile isW, by simp [Tok.written], ?_⟩
      unfold next
      rw [h3]
      simp only
      rw [twself, if_pos hl]
    · cases h
  · rename_i h4
    obtain ⟨n, hn, rfl⟩ := Option.map_eq_some_iff.1 h
    refine ⟨t.takeWhile isW, by simp [Tok.written], ?_⟩
    unfold next
    rw [h4]
    simp only
    rw [twself, hn]
    rfl
  · rename_i h6
    obtain ⟨n, hn, rfl⟩ := Option.map_eq_some_iff.1 h
    refine ⟨t.takeWhile isW, by simp [Tok.written], ?_⟩
    unfold next
    rw [h6]
    simp only
    rw [twself, hn]
    rfl
  · cases h
/-- Behind a token: nothing, or a byte of no word. -/
theorem next_stop {c : UInt8} {t : List UInt8} {k : Tok} (h : next c t = some k) (x : List UInt8) (hx : x = [] ∨ ∃ y r, x = y :: r ∧ isW y = false) : next c (t ++ x) = some k := by
  rcases hx with rfl | ⟨y, r, rfl, hy⟩
  · rw [List.append_nil]
    exact h
  · rw [← h]
    have h34 : (t.dropWhile isQ).head? = some 34 → ((t ++ y :: r).dropWhile isQ).head? = some 34 ∧ (t ++ y :: r).takeWhile isQ = t.takeWhile isQ := by
      clear h
      induction t with
      | nil => intro h; cases h
      | cons z t ih =>
        rw [List.cons_append, List.takeWhile_cons, List.dropWhile_cons, List.takeWhile_cons, List.dropWhile_cons]
        by_cases hz : isQ z = true
        · rw [if_pos hz, if_pos hz, if_pos hz, if_pos hz]
          intro h
          obtain ⟨e1, e2⟩ := ih h
          exact ⟨e1, by rw [e2]⟩
        · rw [if_neg hz, if_neg hz, if_neg hz, if_neg hz]
          intro h
          exact ⟨h, rfl⟩
    unfold next
    rw [tw_app_stop isW y r hy t]
    split
    · rfl
    · rfl
    · rename_i h7
      unfold next at h
      rw [h7] at h
      simp only at h
      split at h
      · rename_i hh
        obtain ⟨e1, e2⟩ := h34 hh
        rw [if_pos e1, if_pos hh, e2]
      · cases h
    · rfl
    · rfl
    · rfl
    · rfl
/-- The end of a line is told by its first byte. -/
theorem next_line {c : UInt8} {t : List UInt8} {k : Tok} (h : next c t = some k) (h5 : k.kind = 5) : c = 10 ∧ ∀ x, next c x = some k := by
  have h9 : cls c = 9 := by
    unfold next at h
    split at h
    · assumption
    · cases h; cases h5
    · split at h
      · cases h; cases h5
      · cases h
    · split at h
      · cases h; cases h5
      · cases h
    · obtain ⟨n, hn, rfl⟩ := Option.map_eq_some_iff.1 h
      cases h5
    · obtain ⟨n, hn, rfl⟩ := Option.map_eq_some_iff.1 h
      cases h5
    · cases h
  have hc : c = 10 := by
    have : ∀ n : Fin 256, cls (UInt8.ofNat n.val) = 9 → UInt8.ofNat n.val = 10 := by decide +kernel
    have h2 := this ⟨c.toNat, c.toNat_lt⟩
    rw [show UInt8.ofNat (⟨c.toNat, c.toNat_lt⟩ : Fin 256).val = c from UInt8.ofNat_toNat] at h2
    exact h2 h9
  refine ⟨hc, fun x => ?_⟩
  unfold next at h ⊢
  rw [h9] at h ⊢
  exact h
theorem Scan.total {p : Nat} {l : List UInt8} {ts : List (Tok × Nat)} {er : Option Nat} (h : Scan p l ts er) : (ts.map fun x => x.1.written.length).sum ≤ l.length := by
  induction h with
  | fin h => simp
  | bad h hx => simp
  | @tok p l t c k ts er h hx hr ih =>
    obtain ⟨h1, h2, _⟩ := next_written hx
    have hlen : (l.drop (skipLen l)).length = t.length + 1 := by rw [h]; rfl
    rw [List.length_drop] at hlen ih
    simp only [List.map_cons, List.sum_cons]
    omega
/-- Each token that is read is one of some text: of its own bytes. -/
theorem Scan.each {p : Nat} {l : List UInt8} {ts : List (Tok × Nat)} {er : Option Nat} (h : Scan p l ts er) : ∀ x ∈ ts, x.1.written.length ≤ l.length ∧ Scan 0 x.1.written [(x.1, 0)] none := by
  induction h with
  | fin h => intro x hx; cases hx
  | bad h hx => intro x hx; cases hx
  | @tok p l t c k ts er h hn hr ih =>
    intro x hx
    rcases List.mem_cons.1 hx with rfl | hx
    · obtain ⟨h1, h2, _⟩ := next_written hn
      have hlen : (l.drop (skipLen l)).length = t.length + 1 := by rw [h]; rfl
      rw [List.length_drop] at hlen
      obtain ⟨n1, n2, r, hw, hs⟩ := next_self hn
      have hs0 : skipLen k.written = 0 := by rw [hw]; simp [skipLen, n1, n2]
      refine ⟨by show k.written.length ≤ l.length; omega, ?_⟩
      have := Scan.tok (p := 0) (l := k.written) (t := r) (c := c) (k := k) (ts := []) (er := none) (by rw [hs0, List.drop_zero, hw]) hs (by
        rw [hs0, Nat.zero_add, List.drop_length]
        exact .fin rfl)
      rw [hs0] at this
      exact this
    · obtain ⟨e1, e2⟩ := ih x hx
      rw [List.length_drop] at e1
      exact ⟨by omega, e2⟩
end Go.Proofs.Lx
namespace Go.Proofs.YtbaojlfnbfbjmaaDoor.Pure
open Go.RowKit Go.Proofs.YtbaojlfnbfbjmaaDoor.PLex Go.Proofs.YtbaojlfnbfbjmaaDoorW.PrintWords Go.Proofs.YtbaojlfnbfbjmaaDoorW.PrintLast Go.Proofs.YtbaojlfnbfbjmaaDoor.Lex
def sepP (p : Option Int) (t : S33) : List UInt8 := match p with | some k => if t.f0 ≠ 5 ∧ k ≠ 5 then [32] else [] | none => []
/-- The text of tokens, from the front. -/
def J : Option Int → List S33 → List UInt8
  | _, [] => []
  | p, t :: r => sepP p t ++ (L (wrS t) ++ J (some t.f0) r)
def prevAt (l : List S33) (i : Nat) : Option Int := if i = 0 then none else some (l.getD (i - 1) zS).f0
theorem txt_J (l : List S33) : ∀ i, i ≤ l.length → txt l i ++ J (prevAt l i) (l.drop i) = J none l
  | 0, _ => rfl
  | i + 1, h => by
    have ih := txt_J l i (by omega)
    have hi : i < l.length := by omega
    rw [List.drop_eq_getElem_cons hi, J] at ih
    rw [← ih, txt, List.append_assoc, List.append_assoc]
    have hg : l.getD i zS = l[i] := by simp [hi]
    have hp : prevAt l (i + 1) = some l[i].f0 := by simp [prevAt, hi]
    rw [hg, hp]
    congr 2
    unfold prevAt
    by_cases h0 : i = 0
    · subst h0
      simp [sepP]
    · rw [if_neg h0]
      simp only [sepP]
      by_cases hc : l[i].f0 ≠ 5 ∧ (l.getD (i - 1) zS).f0 ≠ 5
      · rw [if_pos hc, if_pos ⟨by omega, hc.1, hc.2⟩]
      · rw [if_neg hc, if_neg (fun h => hc ⟨h.2.1, h.2.2⟩)]
theorem txt_all (l : List S33) : txt l l.length = J none l := by
  have := txt_J l l.length (Nat.le_refl _)
  rwa [List.drop_length, show J (prevAt l l.length) [] = [] by unfold J; rfl, List.append_nil] at this
theorem wr_written (k : Lx.Tok) (q : Int) : wrS ⟨k.kind, BA k.text, k.num, q⟩ = BA k.written := by
  unfold wrS Lx.Tok.written
  by_cases h : k.kind = 3
  · rw [if_pos (by show (k.kind : Int) = 3; omega), if_pos h]
    apply ByteArray.ext
    apply Array.toList_inj.1
    simp [BA]
  · rw [if_neg (by show ¬ (k.kind : Int) = 3; omega), if_neg h]
theorem real_scan (t : S33) (h : realS t = true) : ∃ (k : Lx.Tok) (c : UInt8) (r : List UInt8), (k.kind : Int) = t.f0 ∧ BA k.text = t.f1 ∧ k.num = t.f2 ∧ L (wrS t) = c :: r ∧ Lx.next c r = some k ∧ c ≠ 32 ∧ c ≠ 35 ∧ k.written = c :: r := by
  unfold realS at h
  simp only [Bool.and_eq_true, decide_eq_true_eq, beq_iff_eq] at h
  obtain ⟨hsz, h0, h1⟩ := h
  have hl : (L (wrS t)).length = (wrS t).size := by simp [L]
  obtain ⟨ts, er, hs⟩ := Lx.scan_all 0 (L (wrS t))
  rw [Lx.tokens_scan hs (by omega)] at h0 h1
  unfold Lx.lim at h0 h1
  split at h0
  · rename_i hle
    rw [if_pos hle] at h1
    cases er with
    | some q => cases h0
    | none =>
      simp only [List.nil_append] at h1
      match ts, h1, hs with
      | [x], h1, hs =>
        simp only [List.map_cons, List.map_nil, oneS, eqS, Bool.and_eq_true, beq_iff_eq] at h1
        obtain ⟨e0, e1, e2, e3⟩ := h1
        have e1' : BA x.1.text = t.f1 := by
          rw [ByteArray.toList_eq, ByteArray.toList_eq] at e1
          exact ByteArray.ext (Array.toList_inj.1 e1)
        cases hs with
        | @tok _ _ r c k _ _ hd hn hr =>
          have hz : Lx.skipLen (L (wrS t)) = 0 := by
            have : ((0 + Lx.skipLen (L (wrS t)) : Nat) : Int) = 0 := e3
            omega
          rw [hz, List.drop_zero] at hd
          obtain ⟨n1, n2, r', hw, _⟩ := Lx.next_self hn
          have hwr : L (wrS t) = k.written := by
            have ht : t = ⟨k.kind, BA k.text, k.num, t.f3⟩ := by
              cases t
              simp only [S33.mk.injEq] at e0 e1' e2 ⊢
              exact ⟨e0.symm, e1'.symm, e2.symm, trivial⟩
            rw [ht, wr_written]
            rfl
          exact ⟨k, c, r, e0, e1', e2, hd, hn, n1, n2, by rw [← hwr, hd]⟩
  · cases h0
theorem scan_J : ∀ (r : List S33), (∀ t ∈ r, realS t = true) → ∀ (p : Option Int) (pos : Nat), ∃ ts, Lx.Scan pos (J p r) ts none ∧ ts.map (fun x => ((x.1.kind : Int), BA x.1.text, x.1.num)) = r.map (fun t => (t.f0, t.f1, t.f2))
  | [], _, _, _ => ⟨[], .fin rfl, rfl⟩
  | t :: r, hr, p, pos => by
    have ih := scan_J r (fun x hx => hr x (by simp [hx]))
    obtain ⟨k, c, r1, e0, e1, e2, hL, hn, n1, n2, hw⟩ := real_scan t (hr t (by simp))
    have hX : t.f0 ≠ 5 → J (some t.f0) r = [] ∨ ∃ y q, J (some t.f0) r = y :: q ∧ Lx.isW y = false := by
      intro h5
      match r, hr with
      | [], _ => exact .inl (by unfold J; rfl)
      | t2 :: r2, hr =>
        right
        obtain ⟨k2, c2, r3, f0, _, _, hL2, hn2, _, _, _⟩ := real_scan t2 (hr t2 (by simp))
        rw [show J (some t.f0) (t2 :: r2) = (if t2.f0 ≠ 5 ∧ t.f0 ≠ 5 then [32] else []) ++ (L (wrS t2) ++ J (some t2.f0) r2) by rw [J]; rfl]
        by_cases h52 : t2.f0 = 5
        · rw [if_neg (fun h => h.1 h52), hL2]
          have := (Lx.next_line hn2 (by omega)).1
          subst this
          exact ⟨10, _, rfl, rfl⟩
        · rw [if_pos ⟨h52, h5⟩]
          exact ⟨32, _, rfl, rfl⟩
    have hnx : Lx.next c (r1 ++ J (some t.f0) r) = some k := by
      by_cases h5 : t.f0 = 5
      · exact (Lx.next_line hn (by omega)).2 _
      · exact Lx.next_stop hn _ (hX h5)
    have core : ∀ pos, ∃ ts, Lx.Scan pos (L (wrS t) ++ J (some t.f0) r) ts none ∧ ts.map (fun x => ((x.1.kind : Int), BA x.1.text, x.1.num)) = (t :: r).map (fun t => (t.f0, t.f1, t.f2)) := by
      intro pos
      have hz : Lx.skipLen (L (wrS t) ++ J (some t.f0) r) = 0 := by
        rw [hL, List.cons_append, Lex.skipLen_other _ n1 n2]
      obtain ⟨ts, hs, he⟩ := ih (some t.f0) (pos + Lx.skipLen (L (wrS t) ++ J (some t.f0) r) + k.written.length)
      refine ⟨_, .tok (t := r1 ++ J (some t.f0) r) (c := c) (k := k) (ts := ts) (er := none) ?_ hnx ?_, ?_⟩
      · rw [hz, List.drop_zero, hL]
        rfl
      · rw [hz, Nat.zero_add, hw, ← hL, List.drop_left]
        rw [hz, hw, ← hL] at hs
        exact hs
      · rw [List.map_cons, List.map_cons, he, e0, e1, e2]
    unfold J
    match p with
    | none => exact core pos
    | some q =>
      simp only [sepP]
      split
      · obtain ⟨ts, hs, he⟩ := core (pos + 1)
        exact ⟨ts, hs.space, he⟩
      · exact core pos
theorem same_of_map (ts : List (Lx.Tok × Nat)) (l : List S33) (h : ts.map (fun x => ((x.1.kind : Int), BA x.1.text, x.1.num)) = l.map (fun t => (t.f0, t.f1, t.f2))) (hl : l.length ≤ 20000) (k : Nat) (hk : 20002 ≤ k) : retargetref07_Same.f k (ts.map tS) l false = some true := by
  have hlen : ts.length = l.length := by have := congrArg List.length h; simpa using this
  refine same_true _ _ false (by simpa using hlen) (by simp; omega) ?_ k (by simp; omega)
  intro i h0 h1
  have h2 : i < ts.length := by simpa using h0
  have := congrArg (fun z => z[i]?) h
  simp only [List.getElem?_map, List.getElem?_eq_getElem h2, List.getElem?_eq_getElem h1, Option.map_some, Option.some.injEq, Prod.mk.injEq] at this
  obtain ⟨a0, a1, a2⟩ := this
  rw [List.getElem_map]
  exact ⟨a0, a1, a2, by simp⟩
/-- The text of real tokens has these tokens. -/
theorem print_back (l : List S33) (hr : ∀ t ∈ l, realS t = true) (hn : l.length ≤ 20000) (ht : (txt l l.length).length ≤ 65536) : ∃ ts : List (Lx.Tok × Nat), lexer_Tokens.f (BA (txt l l.length)) = some (ts.map tS, 0, 0) ∧ ∀ k, 20002 ≤ k → retargetref07_Same.f k (ts.map tS) l false = some true := by
  obtain ⟨ts, hs, he⟩ := scan_J l hr none 0
  have hlen : ts.length = l.length := by have := congrArg List.length he; simpa using this
  rw [← txt_all] at hs
  exact ⟨ts, tokens_ok (BA (txt l l.length)) hs ht (by omega), fun k hk => same_of_map ts l he hn k hk⟩
theorem J_len : ∀ (r : List S33) (p : Option Int), (J p r).length ≤ (r.map fun t => (wrS t).size).sum + r.length
  | [], _ => by simp [J]
  | t :: r, p => by
    have ih := J_len r (some t.f0)
    have hs : (sepP p t).length ≤ 1 := by
      unfold sepP
      split
      · split <;> simp
      · simp
    have hl : (L (wrS t)).length = (wrS t).size := by simp [L]
    unfold J
    rw [List.length_append, List.length_append, List.map_cons, List.sum_cons, List.length_cons]
    omega
/-- Tokens of a text are real. -/
theorem real_tS (x : Lx.Tok × Nat) (hl : x.1.written.length ≤ 65536) (h : Lx.Scan 0 x.1.written [(x.1, 0)] none) : realS (tS x) = true := by
  have hw : wrS (tS x) = BA x.1.written := wr_written x.1 _
  unfold realS
  rw [hw, show L (BA x.1.written) = x.1.written from rfl, Lx.tokens_scan h (by omega), decide_eq_true (show (BA x.1.written).size ≤ 65536 from hl)]
  simp [Lx.lim, oneS, eqS, tS]
theorem print_f (l : List S33) (hsz : ∀ t ∈ l, t.f1.size ≤ 140737488355328) : lexer_Print.f l = some (if 20000 < l.length then (⟨#[]⟩, 4) else prR l) := by
  unfold lexer_Print.f
  rw [if_pos (List.all_eq_true.2 fun t ht => decide_eq_true (hsz t ht))]
  rfl
theorem all_of_ok (l : List S33) (h : (prR l).2 = 0) : (∀ t ∈ l, realS t = true) ∧ (txt l l.length).length ≤ 65536 ∧ prR l = (BA (txt l l.length), 0) := by
  unfold prR at h ⊢
  by_cases ha : l.all realS = false
  · rw [if_pos ha] at h
    cases h
  · rw [if_neg ha] at h ⊢
    by_cases hb : 65536 < (txt l l.length).length
    · rw [if_pos hb] at h
      cases h
    · rw [if_neg hb]
      exact ⟨fun t ht => List.all_eq_true.1 (by simpa using ha) t ht, by omega, rfl⟩
end Go.Proofs.YtbaojlfnbfbjmaaDoor.Pure
