/- What the lexer's loop reads, as a relation; and how it behaves under joining texts. Plain: no Go, no memory. -/
import Derived.Test.YtbaojlfnbfbjmaaDoorLexSpec
namespace Go.Proofs.Lx
/-- From place p on, the text l has the tokens ts (with their places), and then ends, or has no token at a place. -/
inductive Scan : Nat → List UInt8 → List (Tok × Nat) → Option Nat → Prop
  | fin {p : Nat} {l : List UInt8} (h : l.drop (skipLen l) = []) : Scan p l [] none
  | bad {p : Nat} {l t : List UInt8} {c : UInt8} (h : l.drop (skipLen l) = c :: t) (hn : next c t = none) : Scan p l [] (some (p + skipLen l))
  | tok {p : Nat} {l t : List UInt8} {c : UInt8} {k : Tok} {ts : List (Tok × Nat)} {er : Option Nat} (h : l.drop (skipLen l) = c :: t) (hn : next c t = some k) (hr : Scan (p + skipLen l + k.written.length) (l.drop (skipLen l + k.written.length)) ts er) : Scan p l ((k, p + skipLen l) :: ts) er

theorem tw_len (q : UInt8 → Bool) (l : List UInt8) : (l.takeWhile q).length ≤ l.length := (List.takeWhile_prefix q).length_le
theorem skip_le : ∀ l : List UInt8, skipLen l ≤ l.length
  | [] => Nat.le_refl _
  | c :: t => by
    have h1 := skip_le t
    have h2 := tw_len (· != 10) t
    unfold skipLen
    split
    · simp; omega
    · split
      · simp; omega
      · simp
theorem quoted_len {t : List UInt8} (h : (t.dropWhile isQ).head? = some 34) : (t.takeWhile isQ).length + 1 ≤ t.length := by
  have e : (t.takeWhile isQ).length + (t.dropWhile isQ).length = t.length := by rw [← List.length_append, List.takeWhile_append_dropWhile]
  cases hd : t.dropWhile isQ with
  | nil => rw [hd] at h; cases h
  | cons a r => rw [hd] at e; simp at e; omega
/-- The token is what stands there, unless it has none. -/
theorem next_written {c : UInt8} {t : List UInt8} {k : Tok} (h : next c t = some k) : 1 ≤ k.written.length ∧ k.written.length ≤ t.length + 1 ∧ (c :: t).take k.written.length = k.written := by
  have hw := tw_len isW t
  have htk : ∀ q : UInt8 → Bool, t.take (t.takeWhile q).length = t.takeWhile q := fun q => (List.prefix_iff_eq_take.1 (List.takeWhile_prefix q)).symm
  unfold next at h
  split at h
  · cases h; simp [Tok.written]
  · cases h; simp [Tok.written]
  · rename_i h7
    split at h
    · rename_i h34
      have hq := quoted_len h34
      cases h
      have hc : c = 34 := by
        have : ∀ n : Fin 256, cls (UInt8.ofNat n.val) = 7 → UInt8.ofNat n.val = 34 := by decide +kernel
        have h2 := this ⟨c.toNat, c.toNat_lt⟩
        rw [show UInt8.ofNat (⟨c.toNat, c.toNat_lt⟩ : Fin 256).val = c from UInt8.ofNat_toNat] at h2
        exact h2 h7
      subst hc
      have e : t.take ((t.takeWhile isQ).length + 1) = t.takeWhile isQ ++ [34] := by
        conv => lhs; rw [← List.takeWhile_append_dropWhile (p := isQ) (l := t)]
        rw [List.take_append, List.take_of_length_le (by rw [List.takeWhile_append_dropWhile]; omega)]
        rw [List.takeWhile_append_dropWhile]
        cases hd : t.dropWhile isQ with
        | nil => rw [hd] at h34; cases h34
        | cons a r =>
          rw [hd] at h34
          cases h34
          rw [Nat.add_sub_cancel_left]
          rfl
      refine ⟨by simp [Tok.written], by simp [Tok.written]; omega, ?_⟩
      simp only [Tok.written, if_true, List.length_cons, List.length_append, List.length_nil]
      rw [List.take_succ_cons, e]
    · cases h
  · split at h
    · cases h
      refine ⟨by simp [Tok.written], by simp [Tok.written]; omega, ?_⟩
      simp [Tok.written, htk]
    · cases h
  · obtain ⟨n, _, rfl⟩ := Option.map_eq_some_iff.1 h
    refine ⟨by simp [Tok.written], by simp [Tok.written]; omega, ?_⟩
    simp [Tok.written, htk]
  · obtain ⟨n, _, rfl⟩ := Option.map_eq_some_iff.1 h
    refine ⟨by simp [Tok.written], by simp [Tok.written]; omega, ?_⟩
    simp [Tok.written, htk]
  · cases h
theorem scan_ex : ∀ (n : Nat) (l : List UInt8), l.length ≤ n → ∀ p, ∃ ts er, Scan p l ts er
  | n, l, hl, p => by
    cases h : l.drop (skipLen l) with
    | nil => exact ⟨_, _, .fin h⟩
    | cons c t =>
      have hlen : (l.drop (skipLen l)).length = t.length + 1 := by rw [h]; rfl
      rw [List.length_drop] at hlen
      cases hn : next c t with
      | none => exact ⟨_, _, .bad h hn⟩
      | some k =>
        obtain ⟨h1, h2, _⟩ := next_written hn
        have hd : (l.drop (skipLen l + k.written.length)).length < l.length := by rw [List.length_drop]; omega
        match n, hl with
        | 0, hl => omega
        | m + 1, hl =>
          obtain ⟨ts, er, hr⟩ := scan_ex m (l.drop (skipLen l + k.written.length)) (by omega) (p + skipLen l + k.written.length)
          exact ⟨_, _, .tok h hn hr⟩
theorem scan_all (p : Nat) (l : List UInt8) : ∃ ts er, Scan p l ts er := scan_ex _ l (Nat.le_refl _) p
/-- With the limit of tokens. -/
def lim (acc ts : List (Tok × Nat)) (er : Option Nat) : List (Tok × Nat) × Nat × Nat :=
  if acc.length + ts.length ≤ 20000 then (match er with | none => (acc ++ ts, 0, 0) | some q => ([], q, 12)) else ([], ((ts.drop (20000 - acc.length)).head?.map (·.2)).getD 0, 4)
theorem run_scan {p : Nat} {l : List UInt8} {ts : List (Tok × Nat)} {er : Option Nat} (h : Scan p l ts er) : ∀ (n : Nat) (acc : List (Tok × Nat)), l.length < n → acc.length ≤ 20000 → run n p l acc = lim acc ts er := by
  induction h with
  | fin h =>
    intro n acc hn ha
    cases n with
    | zero => omega
    | succ n =>
      unfold run
      rw [h]
      simp [lim, ha]
  | bad h hx =>
    intro n acc hn ha
    cases n with
    | zero => omega
    | succ n =>
      unfold run
      rw [h]
      simp [lim, ha, hx]
  | @tok p l t c k ts er h hx hr ih =>
    intro n acc hn ha
    cases n with
    | zero => omega
    | succ n =>
      obtain ⟨h1, h2, _⟩ := next_written hx
      have hlen : (l.drop (skipLen l)).length = t.length + 1 := by rw [h]; rfl
      rw [List.length_drop] at hlen
      unfold run
      rw [h]
      simp only [hx]
      by_cases hc : 20000 ≤ acc.length
      · have e : acc.length = 20000 := by omega
        have h2 : ¬ acc.length + ((k, p + skipLen l) :: ts).length ≤ 20000 := by rw [List.length_cons]; omega
        unfold lim
        rw [if_pos hc, if_neg h2, e]
        rfl
      · rw [if_neg hc, ih n (acc ++ [(k, p + skipLen l)]) (by rw [List.length_drop]; omega) (by simp; omega)]
        unfold lim
        simp only [List.length_append, List.length_cons, List.length_nil, Nat.zero_add, List.append_assoc, List.singleton_append]
        by_cases h3 : acc.length + (ts.length + 1) ≤ 20000
        · rw [if_pos (by omega), if_pos h3]
        · rw [if_neg (by omega), if_neg h3, show 20000 - acc.length = (20000 - (acc.length + 1)) + 1 by omega, List.drop_succ_cons]
theorem tokens_scan {l : List UInt8} {ts : List (Tok × Nat)} {er : Option Nat} (h : Scan 0 l ts er) (hl : l.length ≤ 65536) : tokens l = lim [] ts er := by
  rw [tokens, if_neg (by omega)]
  exact run_scan h _ _ (by omega) (by simp)
/-- There are no more tokens than bytes. -/
theorem Scan.count {p : Nat} {l : List UInt8} {ts : List (Tok × Nat)} {er : Option Nat} (h : Scan p l ts er) : ts.length ≤ l.length := by
  induction h with
  | fin h => simp
  | bad h hx => simp
  | @tok p l t c k ts er h hx hr ih =>
    obtain ⟨h1, h2, _⟩ := next_written hx
    have hlen : (l.drop (skipLen l)).length = t.length + 1 := by rw [h]; rfl
    rw [List.length_drop] at hlen ih
    rw [List.length_cons]
    omega
/-- The places lie in the text. -/
theorem Scan.places {p : Nat} {l : List UInt8} {ts : List (Tok × Nat)} {er : Option Nat} (h : Scan p l ts er) : (∀ x ∈ ts, p ≤ x.2 ∧ x.2 ≤ p + l.length) ∧ (∀ q, er = some q → p ≤ q ∧ q ≤ p + l.length) := by
  induction h with
  | fin h => simp
  | bad h hx =>
    refine ⟨by simp, ?_⟩
    rintro q ⟨rfl⟩
    have := skip_le ‹List UInt8›
    rename_i l t c
    have := skip_le l
    omega
  | @tok p l t c k ts er h hx hr ih =>
    obtain ⟨h1, h2, _⟩ := next_written hx
    have hlen : (l.drop (skipLen l)).length = t.length + 1 := by rw [h]; rfl
    have hs := skip_le l
    rw [List.length_drop] at hlen ih
    refine ⟨?_, ?_⟩
    · intro x hxm
      rcases List.mem_cons.1 hxm with rfl | hm
      · simp; omega
      · have := ih.1 x hm
        omega
    · intro q hq
      have := ih.2 q hq
      omega
/-- Tokens moved. -/
def shift (d : Nat) (ts : List (Tok × Nat)) : List (Tok × Nat) := ts.map fun x => (x.1, x.2 + d)
theorem Scan.move {p : Nat} {l : List UInt8} {ts : List (Tok × Nat)} {er : Option Nat} (h : Scan p l ts er) (d : Nat) : Scan (p + d) l (shift d ts) (er.map (· + d)) := by
  induction h with
  | fin h => exact .fin h
  | @bad p l t c h hx =>
    have := Scan.bad (p := p + d) h hx
    rw [show p + d + skipLen l = p + skipLen l + d by omega] at this
    exact this
  | @tok p l t c k ts er h hx hr ih =>
    rw [show p + skipLen l + k.written.length + d = p + d + skipLen l + k.written.length by omega] at ih
    have := Scan.tok (p := p + d) h hx ih
    rw [show p + d + skipLen l = p + skipLen l + d by omega] at this
    exact this
/-- A space ahead. -/
theorem Scan.space {p : Nat} {l : List UInt8} {ts : List (Tok × Nat)} {er : Option Nat} (h : Scan (p + 1) l ts er) : Scan p (32 :: l) ts er := by
  have hs : skipLen (32 :: l) = skipLen l + 1 := by simp [skipLen]
  have hd : ∀ n, (32 :: l).drop (skipLen (32 :: l) + n) = l.drop (skipLen l + n) := fun n => by
    rw [hs, show skipLen l + 1 + n = (skipLen l + n) + 1 by omega, List.drop_succ_cons]
  have hp : p + 1 + skipLen l = p + skipLen (32 :: l) := by omega
  cases h with
  | fin h => exact .fin (by simpa using (hd 0).trans h)
  | bad h hx =>
    rw [hp]
    exact .bad (by simpa using (hd 0).trans h) hx
  | tok h hx hr =>
    rw [hp] at hr ⊢
    refine .tok (by simpa using (hd 0).trans h) hx ?_
    rw [hd]
    exact hr
theorem tw_app_stop (q : UInt8 → Bool) (x : UInt8) (r : List UInt8) (hx : q x = false) : ∀ t : List UInt8, (t ++ x :: r).takeWhile q = t.takeWhile q
  | [] => by simp [hx]
  | c :: t => by
    rw [List.cons_append, List.takeWhile_cons, List.takeWhile_cons, tw_app_stop q x r hx t]
theorem dw_app_stop (q : UInt8 → Bool) (x : UInt8) (r : List UInt8) (hx : q x = false) : ∀ t : List UInt8, (t ++ x :: r).dropWhile q = t.dropWhile q ++ x :: r
  | [] => by simp [hx]
  | c :: t => by
    rw [List.cons_append, List.dropWhile_cons, List.dropWhile_cons, dw_app_stop q x r hx t]
    split <;> rfl
/-- A line feed behind a text: what is skipped, and what is read, stays. -/
theorem skip_feed (b : List UInt8) : ∀ a : List UInt8, skipLen (a ++ 10 :: b) = skipLen a
  | [] => by simp [skipLen]
  | c :: a => by
    rw [List.cons_append]
    unfold skipLen
    rw [skip_feed b a, tw_app_stop _ 10 b (by decide) a]
theorem next_feed (c : UInt8) (t b : List UInt8) : next c (t ++ 10 :: b) = next c t := by
  unfold next
  rw [tw_app_stop isW 10 b (by decide) t, tw_app_stop isQ 10 b (by decide) t, dw_app_stop isQ 10 b (by decide) t]
  have : (t.dropWhile isQ ++ 10 :: b).head? = some 34 ↔ (t.dropWhile isQ).head? = some 34 := by
    cases t.dropWhile isQ <;> simp
  simp only [this]
def feed : Tok := ⟨5, [10], 0⟩
theorem Scan.feed_bad {p : Nat} {a : List UInt8} {ts : List (Tok × Nat)} {q : Nat} (h : Scan p a ts (some q)) (b : List UInt8) : Scan p (a ++ 10 :: b) ts (some q) := by
  generalize he : some q = er at h
  induction h with
  | fin h => cases he
  | @bad p l t c h hx =>
    have hs := skip_feed b l
    rw [← hs]
    refine .bad (t := t ++ 10 :: b) (c := c) ?_ ((next_feed c t b).trans hx)
    rw [hs, List.drop_append_of_le_length (skip_le l), h]
    rfl
  | @tok p l t c k ts er h hx hr ih =>
    have hs := skip_feed b l
    have ih := ih he
    obtain ⟨h1, h2, _⟩ := next_written hx
    have hlen : (l.drop (skipLen l)).length = t.length + 1 := by rw [h]; rfl
    rw [List.length_drop] at hlen
    rw [← hs]
    refine .tok (t := t ++ 10 :: b) (c := c) ?_ ((next_feed c t b).trans hx) ?_
    · rw [hs, List.drop_append_of_le_length (skip_le l), h]
      rfl
    · rw [hs, List.drop_append_of_le_length (by omega)]
      exact ih
theorem Scan.feed_join {p : Nat} {a : List UInt8} {ts : List (Tok × Nat)} (h : Scan p a ts none) {b : List UInt8} {us : List (Tok × Nat)} {er : Option Nat} (hb : Scan (p + a.length + 1) b us er) : Scan p (a ++ 10 :: b) (ts ++ (feed, p + a.length) :: us) er := by
  generalize he : none = er0 at h
  induction h with
  | @fin p l h =>
    have hs := skip_feed b l
    have hl : skipLen l = l.length := by
      have h1 := skip_le l
      have h2 := List.drop_eq_nil_iff.1 h
      omega
    have hn : next 10 b = some feed := rfl
    have := Scan.tok (p := p) (l := l ++ 10 :: b) (t := b) (c := 10) (k := feed) (ts := us) (er := er) (by rw [hs, hl, List.drop_left]) hn (by
      rw [hs, hl]
      have e : (l ++ 10 :: b).drop (l.length + feed.written.length) = b := by
        rw [show feed.written.length = 1 from rfl, List.drop_length_add_append]
        rfl
      rw [e]
      exact hb)
    rw [hs, hl] at this
    exact this
  | @bad p l t c h hx => cases he
  | @tok p l t c k ts er0 h hx hr ih =>
    have hs := skip_feed b l
    obtain ⟨h1, h2, _⟩ := next_written hx
    have hlen : (l.drop (skipLen l)).length = t.length + 1 := by rw [h]; rfl
    rw [List.length_drop] at hlen
    have hl := skip_le l
    have el : p + skipLen l + k.written.length + (l.drop (skipLen l + k.written.length)).length = p + l.length := by rw [List.length_drop]; omega
    have ih := ih (by rw [el]; exact hb) he
    rw [el] at ih
    rw [List.cons_append, ← hs]
    refine .tok (t := t ++ 10 :: b) (c := c) ?_ ((next_feed c t b).trans hx) ?_
    · rw [hs, List.drop_append_of_le_length hl, h]
      rfl
    · rw [hs, List.drop_append_of_le_length (by omega)]
      exact ih
/-- A space and a remark behind a text without errors. -/
theorem tw_no (r : List UInt8) (hr : ∀ x ∈ r, x ≠ 10) : r.takeWhile (· != 10) = r := by
  induction r with
  | nil => rfl
  | cons x r ih => rw [List.takeWhile_cons_of_pos (by simpa using hr x (by simp)), ih (fun y hy => hr y (by simp [hy]))]
theorem skip_remark (r : List UInt8) (hr : ∀ x ∈ r, x ≠ 10) : ∀ a : List UInt8, (a.drop (skipLen a) = [] → skipLen (a ++ 32 :: 35 :: r) = (a ++ 32 :: 35 :: r).length) ∧ (a.drop (skipLen a) ≠ [] → skipLen (a ++ 32 :: 35 :: r) = skipLen a)
  | [] => by
    refine ⟨fun _ => ?_, fun h => absurd rfl h⟩
    simp [skipLen, tw_no r hr]
  | c :: a => by
    obtain ⟨i1, i2⟩ := skip_remark r hr a
    rw [List.cons_append]
    by_cases h1 : c = 32
    · subst h1
      have e1 : ∀ l, skipLen (32 :: l) = skipLen l + 1 := fun l => by simp [skipLen]
      rw [e1, e1, List.drop_succ_cons]
      exact ⟨fun h => by rw [i1 h]; rfl, fun h => by rw [i2 h]⟩
    · by_cases h2 : c = 35
      · subst h2
        have e1 : ∀ l, skipLen (35 :: l) = (l.takeWhile (· != 10)).length + 1 := fun l => by simp [skipLen]
        rw [e1, e1, List.drop_succ_cons]
        have hpre := List.takeWhile_append_dropWhile (p := fun x : UInt8 => x != 10) (l := a)
        have hd : a.drop (a.takeWhile (· != 10)).length = a.dropWhile (· != 10) := by
          conv => lhs; arg 2; rw [← hpre]
          rw [List.drop_left]
        rw [hd]
        have tw2 : ∀ t : List UInt8, (t.dropWhile (· != 10) = [] → (t ++ 32 :: 35 :: r).takeWhile (· != 10) = t ++ 32 :: 35 :: r) ∧ (t.dropWhile (· != 10) ≠ [] → (t ++ 32 :: 35 :: r).takeWhile (· != 10) = t.takeWhile (· != 10)) := by
          intro t
          induction t with
          | nil => exact ⟨fun _ => by simp [tw_no r hr], fun h => absurd rfl h⟩
          | cons x t ih =>
            rw [List.cons_append, List.takeWhile_cons, List.takeWhile_cons, List.dropWhile_cons]
            by_cases hx : (x != 10) = true
            · rw [if_pos hx, if_pos hx, if_pos hx]
              exact ⟨fun h => by rw [ih.1 h], fun h => by rw [ih.2 h]⟩
            · rw [if_neg hx, if_neg hx, if_neg hx]
              exact ⟨(fun h => by cases h), fun _ => rfl⟩
        exact ⟨fun h => by rw [(tw2 a).1 h]; rfl, fun h => by rw [(tw2 a).2 h]⟩
      · have e1 : ∀ l, skipLen (c :: l) = 0 := fun l => by simp [skipLen, h1, h2]
        rw [e1, e1]
        exact ⟨(fun h => by cases h), fun _ => rfl⟩
theorem next_remark {c : UInt8} {t : List UInt8} {k : Tok} (r : List UInt8) (h : next c t = some k) : next c (t ++ 32 :: 35 :: r) = some k := by
  rw [← h]
  unfold next
  rw [tw_app_stop isW 32 _ (by decide) t]
  have h34 : (t.dropWhile isQ).head? = some 34 → ((t ++ 32 :: 35 :: r).dropWhile isQ).head? = some 34 ∧ (t ++ 32 :: 35 :: r).takeWhile isQ = t.takeWhile isQ := by
    clear h
    induction t with
    | nil => intro h; cases h
    | cons x t ih =>
      rw [List.cons_append, List.takeWhile_cons, List.dropWhile_cons, List.takeWhile_cons, List.dropWhile_cons]
      by_cases hx : isQ x = true
      · rw [if_pos hx, if_pos hx, if_pos hx, if_pos hx]
        intro h
        obtain ⟨e1, e2⟩ := ih h
        exact ⟨e1, by rw [e2]⟩
      · rw [if_neg hx, if_neg hx, if_neg hx, if_neg hx]
        intro h
        exact ⟨h, rfl⟩
  split
  · rfl
  · rfl
  · rename_i h7
    unfold next at h
    rw [h7] at h
    simp only at h
    split at h
    · rename_i hh
      obtain ⟨e1, e2⟩ := h34 hh
      rw [if_pos e1, if_pos hh, e2]
    · cases h
  · rfl
  · rfl
  · rfl
  · rfl
theorem Scan.remark {p : Nat} {a : List UInt8} {ts : List (Tok × Nat)} (h : Scan p a ts none) (r : List UInt8) (hr : ∀ x ∈ r, x ≠ 10) : Scan p (a ++ 32 :: 35 :: r) ts none := by
  generalize he : none = er at h
  induction h with
  | @fin p l h =>
    have := (skip_remark r hr l).1 h
    exact .fin (by rw [this, List.drop_length])
  | bad h hx => cases he
  | @tok p l t c k ts er h hx h2 ih =>
    have hs := (skip_remark r hr l).2 (by rw [h]; exact List.cons_ne_nil _ _)
    obtain ⟨h1, h2, _⟩ := next_written hx
    have hlen : (l.drop (skipLen l)).length = t.length + 1 := by rw [h]; rfl
    rw [List.length_drop] at hlen
    rw [← hs]
    refine .tok (t := t ++ 32 :: 35 :: r) (c := c) ?_ (next_remark r hx) ?_
    · rw [hs, List.drop_append_of_le_length (skip_le l), h]
      rfl
    · rw [hs, List.drop_append_of_le_length (by omega)]
      exact ih he
end Go.Proofs.Lx
