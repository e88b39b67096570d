/- The law of joined texts, of what Tokens answers. Plain: no memory. -/
import Derived.Test.YtbaojlfnbfbjmaaDoorLexPure
import Derived.Test.YtbaojlfnbfbjmaaDoorPLex5
namespace Go.Proofs.YtbaojlfnbfbjmaaDoor.Pure
open Go.RowKit Go.Proofs.YtbaojlfnbfbjmaaDoor.PLex Go.Proofs.YtbaojlfnbfbjmaaDoorW.PrintWords Go.Proofs.YtbaojlfnbfbjmaaDoorW.PrintLast Go.Proofs.YtbaojlfnbfbjmaaDoor.Lex
/-- What the law's loop has gathered. -/
def wantJ (a0 : ByteArray) (ts us : List (Lx.Tok × Nat)) (i : Nat) : List S33 := ((ts ++ (Lx.feed, a0.size) :: Lx.shift (a0.size + 1) us).take (ts.length + 1 + i)).map tS
theorem wantJ_zero (a0 : ByteArray) (ts us : List (Lx.Tok × Nat)) : wantJ a0 ts us 0 = ts.map tS ++ [⟨5, ⟨#[10]⟩, 0, (a0.size : Int)⟩] := by
  unfold wantJ
  rw [Nat.add_zero, List.take_append, List.take_of_length_le (by omega), Nat.add_sub_cancel_left]
  simp [tS, Lx.feed, BA]
theorem wantJ_succ (a0 : ByteArray) (ts us : List (Lx.Tok × Nat)) (i : Nat) (h : i < us.length) : wantJ a0 ts us (i + 1) = wantJ a0 ts us i ++ [tS (us[i].1, us[i].2 + (a0.size + 1))] := by
  unfold wantJ
  have hl : ts.length + 1 + i < (ts ++ (Lx.feed, a0.size) :: Lx.shift (a0.size + 1) us).length := by simp [Lx.shift]; omega
  rw [show ts.length + 1 + (i + 1) = (ts.length + 1 + i) + 1 by omega, List.take_succ_eq_append_getElem hl, List.map_append, List.map_singleton]
  congr 3
  rw [List.getElem_append_right (by omega)]
  simp [Lx.shift, show ts.length + 1 + i - ts.length = i + 1 by omega]
theorem wantJ_all (a0 : ByteArray) (ts us : List (Lx.Tok × Nat)) : wantJ a0 ts us us.length = (ts ++ (Lx.feed, a0.size) :: Lx.shift (a0.size + 1) us).map tS := by
  unfold wantJ
  rw [List.take_of_length_le (by simp [Lx.shift]; omega)]
theorem wantJ_len (a0 : ByteArray) (ts us : List (Lx.Tok × Nat)) (i : Nat) : (wantJ a0 ts us i).length ≤ ts.length + 1 + i := by
  unfold wantJ
  rw [List.length_map]
  exact List.length_take_le _ _
theorem joins_loop (a0 : ByteArray) {ts us : List (Lx.Tok × Nat)} (h0 : a0.size ≤ 15000) (hp : ∀ x ∈ us, x.2 ≤ 15000) (hn : ts.length + us.length + 1 ≤ 20000) :
    ∀ (d i : Nat), i + d = us.length → ∀ k, d + ts.length + us.length + 4 ≤ k →
      retargetlaw07_LexerJoins.l0 k a0 true (us.map tS) 0 ((ts ++ (Lx.feed, a0.size) :: Lx.shift (a0.size + 1) us).map tS) 0 (wantJ a0 ts us i) (i : Int) = some true := by
  intro d
  induction d with
  | zero =>
    intro i hi k hk
    obtain rfl : i = us.length := by omega
    match k, hk with
    | k + 1, hk =>
      unfold retargetlaw07_LexerJoins.l0
      rw [if_neg (by simp), if_pos rfl, if_pos rfl, if_pos rfl, wantJ_all, same_true _ _ true rfl (by simp [Lx.shift]; omega) (fun i _ _ => ⟨rfl, rfl, rfl, fun _ => rfl⟩) k (by simp [Lx.shift]; omega)]
      rfl
  | succ d ih =>
    intro i hi k hk
    match k, hk with
    | k + 1, hk =>
      have hiu : i < us.length := by omega
      have hlen := wantJ_len a0 ts us i
      have hpl := hp us[i] (List.getElem_mem hiu)
      have him : i < (us.map tS).length := by simpa using hiu
      unfold retargetlaw07_LexerJoins.l0
      rw [if_pos (by simp; omega), if_pos (by omega), if_pos (by omega), rd_nat _ i him, w64n i (by omega)]
      have e : (⟨((us.map tS)[i]).f0, ((us.map tS)[i]).f1, ((us.map tS)[i]).f2, wrap64 ((wrap64 (((us.map tS)[i]).f3 + (a0.size : Int))) + 1)⟩ : S33) = tS (us[i].1, us[i].2 + (a0.size + 1)) := by
        rw [List.getElem_map]
        show (⟨_, _, _, wrap64 (wrap64 ((us[i].2 : Int) + (a0.size : Int)) + 1)⟩ : S33) = ⟨_, _, _, ((us[i].2 + (a0.size + 1) : Nat) : Int)⟩
        rw [w64 (i := (us[i].2 : Int) + (a0.size : Int)) (by omega) (by omega), w64 (by omega) (by omega)]
        congr 1
      rw [e, ← wantJ_succ a0 ts us i hiu]
      exact ih (i + 1) (by omega) k (by omega)
theorem LexerJoins : retargetlaw07_LexerJoins.Pure := by
  intro a0 a1 _ _
  obtain ⟨ts, er, h⟩ := Lx.scan_all 0 (L a0)
  obtain ⟨us, er', h'⟩ := Lx.scan_all 0 (L a1)
  obtain ⟨m, hm⟩ : ∃ m, m = 14 + ts.length + us.length + us.length := ⟨_, rfl⟩
  refine ⟨m + 1, ?_⟩
  unfold retargetlaw07_LexerJoins.f
  rw [alive_true _ (by omega)]
  simp only [Option.bind_some]
  have stop : retargetlaw07_LexerJoins.j0 (m + 1) a0 a1 true true = some true := by simp only [retargetlaw07_LexerJoins.j0, if_true]
  by_cases h0 : (a0.size : Int) > 15000
  · rw [if_pos h0]
    exact stop
  rw [if_neg h0]
  by_cases h1 : (a1.size : Int) > 15000
  · rw [if_pos h1]
    exact stop
  rw [if_neg h1]
  simp only [retargetlaw07_LexerJoins.j0, Bool.not_true, Bool.false_eq_true, if_false]
  have l0 : (L a0).length = a0.size := by simp [L]
  have l1 : (L a1).length = a1.size := by simp [L]
  have c0 := h.count
  have c1 := h'.count
  have e1 : (a0 ++ (⟨#[10]⟩ : ByteArray)).size = a0.size + 1 := by rw [ByteArray.size_append]; rfl
  have e2 : ((a0 ++ (⟨#[10]⟩ : ByteArray)) ++ a1).size = a0.size + 1 + a1.size := by rw [ByteArray.size_append, e1]
  have hL : L ((a0 ++ (⟨#[10]⟩ : ByteArray)) ++ a1) = L a0 ++ 10 :: L a1 := by
    rw [L_append, L_append]
    show (L a0 ++ [10]) ++ L a1 = _
    simp
  have i1 : a0.size + 1 ≤ 9223372036854775807 := by omega
  have i2 : (a0 ++ (⟨#[10]⟩ : ByteArray)).size + a1.size ≤ 9223372036854775807 := by omega
  cases er with
  | some q =>
    have hb := h.feed_bad (L a1)
    rw [← hL] at hb
    rw [tokens_bad a0 h (by omega) (by omega), tokens_bad _ hb (by omega) (by omega)]
    cases er' with
    | some q' =>
      rw [tokens_bad a1 h' (by omega) (by omega)]
      simp [i1, i2, -ByteArray.size_append]
    | none =>
      rw [tokens_ok a1 h' (by omega) (by omega)]
      simp [i1, i2, -ByteArray.size_append]
  | none =>
    have hb := h.feed_join (b := L a1) (h'.move (a0.size + 1) |> fun x => by rw [l0]; simpa [Nat.add_assoc] using x)
    rw [← hL, l0, Nat.zero_add] at hb
    have hpl := h'.places
    rw [tokens_ok a0 h (by omega) (by omega)]
    have hlen : (ts ++ (Lx.feed, a0.size) :: Lx.shift (a0.size + 1) us).length = ts.length + us.length + 1 := by simp [Lx.shift]; omega
    cases er' with
    | some q' =>
      rw [tokens_bad a1 h' (by omega) (by omega)]
      by_cases hn : ts.length + us.length + 1 ≤ 20000
      · rw [tokens_bad _ hb (by omega) (by omega)]
        have hq := (hpl.2 q' rfl).2
        have : wrap64 (wrap64 ((a0.size : Int) + 1) + (q' : Int)) = ((q' + (a0.size + 1) : Nat) : Int) := by
          rw [w64 (i := (a0.size : Int) + 1) (by omega) (by omega), w64 (by omega) (by omega)]
          omega
        simp [this, i1, i2, -ByteArray.size_append]
      · obtain ⟨p, hp⟩ := tokens_many _ hb (by omega) (by omega)
        rw [hp]
        simp [i1, i2, -ByteArray.size_append]
    | none =>
      rw [tokens_ok a1 h' (by omega) (by omega)]
      by_cases hn : ts.length + us.length + 1 ≤ 20000
      · rw [tokens_ok _ hb (by omega) (by omega)]
        have := joins_loop a0 (ts := ts) (us := us) (by omega) (fun x hx => by have := (hpl.1 x hx).2; omega) hn us.length 0 (by omega) m (by omega)
        rw [wantJ_zero] at this
        simp only [Option.bind_some, if_true, List.length_nil, List.length_map, List.nil_append, Nat.zero_add, if_pos i1, if_pos i2]
        rw [if_neg (by decide), if_neg (by decide), if_pos (by omega), if_pos (by omega)]
        exact this
      · obtain ⟨p, hp⟩ := tokens_many _ hb (by omega) (by omega)
        rw [hp]
        simp only [Option.bind_some, if_true, List.length_map, if_pos i1, if_pos i2]
        rw [if_neg (by decide), w64 (i := (ts.length : Int) + (us.length : Int)) (by omega) (by omega), w64 (by omega) (by omega)]
        congr 1
        exact decide_eq_true (by omega)
end Go.Proofs.YtbaojlfnbfbjmaaDoor.Pure
