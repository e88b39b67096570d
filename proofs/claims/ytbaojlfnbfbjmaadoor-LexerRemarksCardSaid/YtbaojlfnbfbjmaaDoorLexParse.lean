/- strconv.ParseInt and FormatInt, at base 10 and 16, as the lexer asks for them. -/
import Derived.Test.YtbaojlfnbfbjmaaDoorLexHexU
import Derived.Test.YtbaojlfnbfbjmaaDoorLexFmt
import Derived.Lib.ParseIntBMem
import Derived.Lib.ParseIntBTie
import Derived.Lib.IfaceNeq
namespace Go.Proofs.YtbaojlfnbfbjmaaDoor
open Go.RowKit Go.Proofs Go.Proofs.YtbaojlfnbfbjmaaDoorW.PrintWords
set_option linter.unusedVariables false
set_option linter.unusedSimpArgs false
namespace Lex
/-- How ParseInt ends: a number and no error, or a number and an error. -/
def Parsed (w : World) (o : Option Int) (e : Ending) (w' : World) : Prop :=
  ∃ (n : Int) (er : Value), e = .returned (.tuple #[.int .i64 n, er]) ∧ (-9223372036854775808 ≤ n ∧ n ≤ 9223372036854775807) ∧ ((o = some n ∧ er = .nilIface) ∨ (o = none ∧ 0 ≤ n ∧ ∃ p, er = .iface 98 (.pointer (some p)))) ∧ Below w.heap.size w w'
/-- How ParseInt ends at base 16, no sign ahead. -/
def hexI (l : List UInt8) : Lib.NumEnd Int := if l = [] then .syntax else match hexU 0 l with
  | .ok u => if 9223372036854775808 ≤ u then .range else .ok u
  | .syntax => .syntax
  | .range => .range
theorem below_grow (w : World) (q : Nat) (os : Array Obj) : Below w.heap.size w (Sort.grow (w.drewN q) os) :=
  ⟨rfl, rfl, rfl, by simp [Sort.grow, World.drewN], fun k hk => by simp [Sort.grow, World.drewN, Array.getElem?_append, hk]⟩
theorem hexU_lt : ∀ (l : List UInt8) (acc u : Nat), acc < 18446744073709551616 → hexU acc l = .ok u → u < 18446744073709551616
  | [], acc, u, ha, h => by
    simp only [hexU] at h
    injection h with h
    omega
  | c :: r, acc, u, ha, h => by
    simp only [hexU] at h
    cases hd : hx c with
    | none => rw [hd] at h; cases h
    | some d =>
      rw [hd] at h
      have hd16 : d < 16 := by
        unfold hx at hd
        split at hd
        · injection hd; omega
        · split at hd
          · injection hd; omega
          · split at hd
            · injection hd; omega
            · cases hd
      by_cases hc : 1152921504606846976 ≤ acc
      · simp [hc] at h
      · simp only [hc, if_false] at h
        exact hexU_lt r _ u (by omega) h
end Lex
namespace PLex
set_option maxHeartbeats 32000000 in
set_option maxRecDepth 100000 in
theorem parseInt16_calls (s : ByteArray) (hmax : s.size ≤ 9223372036854775806) (h43 : s.data.toList.head? ≠ some 43) (h45 : s.data.toList.head? ≠ some 45) (w : World) :
    Calls Tryd.prog 68 #[.string s, .int .i64 16, .int .i64 64] w fun e w' => e = .returned (Lib.intTuple 93 9223372036854775807 (Lex.hexI s.data.toList)) ∧ Below w.heap.size w w' := by
  have hq2 : ∀ W, (binOp .neq 67 (.iface 93 (.int .i64 2)) (.iface 93 (.int .i64 1))).run Tryd.prog W = .ok (.bool true) W := fun W => Lib.run_neq_iface_int W 2 1 Tryd.underlying67 (by kernel_rfl) Tryd.underlying93
  have hq1 : ∀ W, (binOp .neq 67 (.iface 93 (.int .i64 1)) (.iface 93 (.int .i64 1))).run Tryd.prog W = .ok (.bool false) W := fun W => Lib.run_neq_iface_int W 1 1 Tryd.underlying67 (by kernel_rfl) Tryd.underlying93
  by_cases hz : s.size = 0
  · have hs : s = ByteArray.empty := by
      apply ByteArray.ext
      exact Array.eq_empty_of_size_eq_zero hz
    subst hs
    have he : Lib.intTuple 93 9223372036854775807 (Lex.hexI ByteArray.empty.data.toList) = .tuple #[.int .i64 0, .iface 93 (.int .i64 2)] := rfl
    rw [he]
    clear h43 h45 hmax hz he
    go_enter Tryd.func68, Tryd.ntmps68
    go_wp2
    go_ret2
    exact ⟨rfl, Below.refl _ _⟩
  · have hne : s.size ≠ 0 := hz
    have hemp : s.toList.isEmpty = false := by
      rw [← decide_eq_emptyBytes]
      exact decide_eq_false (fun h => hne (by rw [h]; rfl))
    have hpos : 0 < s.size := by omega
    obtain ⟨c0, r, hL⟩ : ∃ c0 r, s.data.toList = c0 :: r := by
      cases h : s.data.toList with
      | nil => exact absurd (by rw [Lib.size_eq, h]; rfl) hne
      | cons c0 r => exact ⟨c0, r, rfl⟩
    have hsz : s.size = r.length + 1 := by rw [Lib.size_eq, hL]; rfl
    have hs0 : s[0]'hpos = c0 := by have := Lib.getD_at s 0 hpos; rw [hL] at this; exact this
    have hU := parseUint16_calls s hne hmax w
    rw [hL] at hU h43 h45 ⊢
    have n43 : ¬ (c0.toNat : Int) = 43 := fun h => h43 (by rw [show c0 = 43 from UInt8.toNat_inj.1 (by show c0.toNat = 43; omega)]; rfl)
    have n45 : ¬ (c0.toNat : Int) = 45 := fun h => h45 (by rw [show c0 = 45 from UInt8.toNat_inj.1 (by show c0.toNat = 45; omega)]; rfl)
    clear h43 h45 hz hL
    cases hE : Lex.hexU 0 (c0 :: r) with
    | «syntax» =>
      have hres : Lib.intTuple 93 9223372036854775807 (Lex.hexI (c0 :: r)) = .tuple #[.int .i64 0, .iface 93 (.int .i64 2)] := by unfold Lex.hexI; rw [hE]; rfl
      rw [hres]
      rw [hE] at hU
      have hU : Calls Tryd.prog 74 #[.string s, .int .i64 16, .int .i64 64] w fun e w' => e = .returned (.tuple #[.int .u64 0, .iface 93 (.int .i64 2)]) ∧ w' = Lib.bytesWorld w 5 s := hU
      go_enter Tryd.func68, Tryd.ntmps68
      go_wp2_with (go_at_call 74; refine hU.mono ?_; rintro e w1 ⟨rfl, hw1⟩; clear hU)
      go_wp2
      go_ret2
      exact ⟨rfl, by first | exact Lib.bytesWorld_below _ _ _ | (rw [hw1]; exact Lib.bytesWorld_below _ _ _)⟩
    | range =>
      have hres : Lib.intTuple 93 9223372036854775807 (Lex.hexI (c0 :: r)) = .tuple #[.int .i64 9223372036854775807, .iface 93 (.int .i64 1)] := by unfold Lex.hexI; rw [hE]; rfl
      rw [hres]
      rw [hE] at hU
      have hU : Calls Tryd.prog 74 #[.string s, .int .i64 16, .int .i64 64] w fun e w' => e = .returned (.tuple #[.int .u64 18446744073709551615, .iface 93 (.int .i64 1)]) ∧ w' = Lib.bytesWorld w 5 s := hU
      go_enter Tryd.func68, Tryd.ntmps68
      go_wp2_with (go_at_call 74; refine hU.mono ?_; rintro e w1 ⟨rfl, hw1⟩; clear hU)
      go_wp2
      go_ret2
      exact ⟨rfl, by first | exact Lib.bytesWorld_below _ _ _ | (rw [hw1]; exact Lib.bytesWorld_below _ _ _)⟩
    | ok u =>
      have hu64 := Lex.hexU_lt _ _ _ (by decide) hE
      obtain ⟨a, ha⟩ : ∃ a : Int, a = (u : Int) := ⟨_, rfl⟩
      rw [hE] at hU
      have hU : Calls Tryd.prog 74 #[.string s, .int .i64 16, .int .i64 64] w fun e w' => e = .returned (.tuple #[.int .u64 a, .nilIface]) ∧ w' = Lib.bytesWorld w 5 s := by rw [ha]; exact hU
      have a0 : 0 ≤ a := by omega
      have a1 : a ≤ 18446744073709551615 := by omega
      by_cases hout : 9223372036854775808 ≤ u
      · have hres : Lib.intTuple 93 9223372036854775807 (Lex.hexI (c0 :: r)) = .tuple #[.int .i64 9223372036854775807, .iface 93 (.int .i64 1)] := by unfold Lex.hexI; rw [hE]; simp [hout, Lib.intTuple]
        rw [hres]
        have iout : 9223372036854775808 ≤ a := by omega
        clear hres hout hu64 ha hE
        go_enter Tryd.func68, Tryd.ntmps68
        go_wp2_with (go_at_call 74; refine hU.mono ?_; rintro e w1 ⟨rfl, hw1⟩; clear hU)
        go_wp2
        go_ret2
        exact ⟨rfl, by first | exact Lib.bytesWorld_below _ _ _ | (rw [hw1]; exact Lib.bytesWorld_below _ _ _)⟩
      · have hres : Lib.intTuple 93 9223372036854775807 (Lex.hexI (c0 :: r)) = .tuple #[.int .i64 a, .nilIface] := by unfold Lex.hexI; rw [hE]; simp [hout, Lib.intTuple, ha]
        rw [hres]
        have iin : a < 9223372036854775808 := by omega
        clear hres hout hu64 ha hE
        go_enter Tryd.func68, Tryd.ntmps68
        go_wp2_with (go_at_call 74; refine hU.mono ?_; rintro e w1 ⟨rfl, hw1⟩; clear hU)
        go_wp2
        go_ret2
        exact ⟨rfl, by first | exact Lib.bytesWorld_below _ _ _ | (rw [hw1]; exact Lib.bytesWorld_below _ _ _)⟩
set_option maxHeartbeats 4000000 in
set_option maxRecDepth 100000 in
/-- strconv.ParseInt at base 16, no sign ahead. -/
theorem ParseInt16_calls (s : ByteArray) (hlim : s.size ≤ 281474976710656) (h43 : s.data.toList.head? ≠ some 43) (h45 : s.data.toList.head? ≠ some 45) (w : World) (hL : Lex.Laid w) :
    Calls Tryd.prog 58 #[.string s, .int .i64 16, .int .i64 64] w (Lex.Parsed w (match Lex.hexI s.data.toList with | .ok n => some n | _ => none)) := by
  have hI := parseInt16_calls s (by omega) h43 h45 w
  clear h43 h45
  have hn : ∀ n, Lex.hexI s.data.toList = .ok n → 0 ≤ n ∧ n ≤ 9223372036854775807 := by
    intro n h
    unfold Lex.hexI at h
    split at h
    · cases h
    · split at h
      · split at h
        · cases h
        · injection h; omega
      · cases h
      · cases h
  cases hE : Lex.hexI s.data.toList with
  | ok n =>
    obtain ⟨n0, n1⟩ := hn n hE
    rw [hE] at hI
    have hI : Calls Tryd.prog 68 #[.string s, .int .i64 16, .int .i64 64] w fun e w' => e = .returned (.tuple #[.int .i64 n, .nilIface]) ∧ Below w.heap.size w w' := hI
    clear hE hn
    go_enter Tryd.func58, Tryd.ntmps58
    go_wp2_with (go_at_call 68; refine hI.mono ?_; rintro e W1 ⟨rfl, hW⟩)
    go_wp2
    go_ret2
    exact ⟨n, .nilIface, rfl, ⟨by omega, n1⟩, .inl ⟨rfl, rfl⟩, hW⟩
  | «syntax» =>
    obtain ⟨ev, hv, hev⟩ := hL.syn
    have hG : 1 < w.heap.size := Lib.lt_of_cell hv
    rw [hE] at hI
    have hI : Calls Tryd.prog 68 #[.string s, .int .i64 16, .int .i64 64] w fun e w' => e = .returned (.tuple #[.int .i64 0, .iface 93 (.int .i64 2)]) ∧ Below w.heap.size w w' := hI
    clear hE hn
    go_enter Tryd.func58, Tryd.ntmps58
    go_wp2_with (first
      | (go_at_call 68; refine hI.mono ?_; rintro e W1 ⟨rfl, hW⟩; have hv1 := pw_cell_below hW hv; have HW := Aside0.mk hW; clear hW)
      | (go_at_call 69; refine (Tryd.strconv_toError_syntax ⟨#[80, 97, 114, 115, 101, 73, 110, 116]⟩ s 16 64 ev _ hlim (by assumption) hev).mono ?_; rintro e W2 ⟨N, rfl, h1, h2, h3⟩; have H3 := Aside0.mk h3; clear h1 h2 h3))
    go_wp2
    go_ret2
    exact ⟨0, _, rfl, by decide, .inr ⟨rfl, by decide, _, rfl⟩, below_step HW.out H3.out⟩
  | range =>
    obtain ⟨ev, hv, hev⟩ := hL.rng
    rw [hE] at hI
    have hI : Calls Tryd.prog 68 #[.string s, .int .i64 16, .int .i64 64] w fun e w' => e = .returned (.tuple #[.int .i64 9223372036854775807, .iface 93 (.int .i64 1)]) ∧ Below w.heap.size w w' := hI
    clear hE hn
    go_enter Tryd.func58, Tryd.ntmps58
    go_wp2_with (first
      | (go_at_call 68; refine hI.mono ?_; rintro e W1 ⟨rfl, hW⟩; have hv1 := pw_cell_below hW hv; have HW := Aside0.mk hW; clear hW)
      | (go_at_call 69; refine (Tryd.strconv_toError_range ⟨#[80, 97, 114, 115, 101, 73, 110, 116]⟩ s 16 64 ev _ hlim (by assumption) hev).mono ?_; rintro e W2 ⟨N, rfl, h1, h2, h3⟩; have H3 := Aside0.mk h3; clear h1 h2 h3))
    go_wp2
    go_ret2
    exact ⟨9223372036854775807, _, rfl, by decide, .inr ⟨rfl, by decide, _, rfl⟩, below_step HW.out H3.out⟩
/-- strconv.ParseInt at base 10. -/
theorem ParseInt10_calls (s : ByteArray) (hlim : s.size ≤ 281474976710656) (h45 : s.data.toList.head? ≠ some 45) (w : World) (hL : Lex.Laid w) :
    Calls Tryd.prog 58 #[.string s, .int .i64 10, .int .i64 64] w (Lex.Parsed w (match Lib.parseIntB 64 s.data.toList with | .ok n => some n | _ => none)) := by
  cases hE : Lib.parseIntB 64 s.data.toList with
  | ok n =>
    refine (Tryd.strconv_ParseInt_10_at64_ok s (by omega) n hE w).mono ?_
    rintro e w' ⟨rfl, hw⟩
    refine ⟨n, _, rfl, ?_, .inl ⟨rfl, rfl⟩, ?_⟩
    · have h := Lib.parseIntB_bounds hE
      have e1 : (2 : Nat) ^ (64 - 1) = 9223372036854775808 := by decide
      rw [e1] at h
      omega
    · rcases hw with rfl | ⟨t, rfl⟩
      · exact Below.refl _ _
      · exact Lib.bytesWorld_below _ _ _
  | «syntax» =>
    obtain ⟨ev, hv, hev⟩ := hL.syn
    refine (Tryd.strconv_ParseInt_10_at64_syntax s hlim hE ev w hv hev).mono ?_
    rintro e w' ⟨N, rfl, _, _, hb⟩
    exact ⟨_, _, rfl, by decide, .inr ⟨rfl, by decide, _, rfl⟩, hb⟩
  | range =>
    obtain ⟨ev, hv, hev⟩ := hL.rng
    refine (Tryd.strconv_ParseInt_10_at64_range s hlim hE ev w hv hev).mono ?_
    rintro e w' ⟨N, rfl, _, _, hb⟩
    have hs : Lib.intSat 64 s.data.toList = 9223372036854775807 := by
      unfold Lib.intSat
      rw [if_neg]
      · decide
      · intro h
        apply h45
        cases hl : s.data.toList with
        | nil => rw [hl] at h; cases h
        | cons a t =>
          rw [hl] at h
          simp only [List.head?_cons, Option.map_some, Option.some.injEq] at h ⊢
          exact UInt8.toNat_inj.1 h
    rw [hs]
    exact ⟨_, _, rfl, by decide, .inr ⟨rfl, by decide, _, rfl⟩, hb⟩
set_option maxHeartbeats 4000000 in
set_option maxRecDepth 100000 in
theorem formatInt16_calls (u : Nat) (hu : u < 9223372036854775808) (w : World) (hL : Lex.Laid w) :
    Calls Tryd.prog 70 #[.int .i64 u, .int .i64 16] w fun e w' => e = .returned (.string ⟨(Lx.fmtB Lx.dgh 16 u).toArray⟩) ∧ Below w.heap.size w w' := by
  have hF := formatBits16_calls u hu w hL.four
  go_enter Tryd.func70, Tryd.ntmps70
  go_wp2_with (go_at_call 82; refine hF.mono ?_; rintro e W1 ⟨v, rfl, hW⟩)
  go_wp2
  go_ret
  exact ⟨rfl, hW⟩
set_option maxHeartbeats 4000000 in
set_option maxRecDepth 100000 in
/-- strconv.FormatInt at base 16. -/
theorem FormatInt16_calls (u : Nat) (hu : u < 9223372036854775808) (w : World) (hL : Lex.Laid w) :
    Calls Tryd.prog 59 #[.int .i64 u, .int .i64 16] w fun e w' => e = .returned (.string ⟨(Lx.fmtB Lx.dgh 16 u).toArray⟩) ∧ Below w.heap.size w w' := by
  have hF := formatInt16_calls u hu w hL
  go_enter Tryd.func59, Tryd.ntmps59
  go_wp2_with (go_at_call 70; refine hF.mono ?_; rintro e W1 ⟨rfl, hW⟩)
  go_wp2
  go_ret
  exact ⟨rfl, hW⟩
/-- strconv.FormatInt at base 10. -/
theorem FormatInt10_calls (n : Int) (h0 : -9223372036854775808 ≤ n) (h1 : n ≤ 9223372036854775807) (w : World) (hL : Lex.Laid w) :
    Calls Tryd.prog 59 #[.int .i64 n, .int .i64 10] w fun e w' => e = .returned (.string ⟨(Lib.itoa n).toArray⟩) ∧ Below w.heap.size w w' :=
  (Tryd.strconv_FormatInt_10 n h0 h1 w hL.pow).mono fun e w' ⟨he, hw⟩ => ⟨he, by obtain ⟨k, os, rfl⟩ := hw; exact Lex.below_grow _ _ _⟩
end PLex
end Go.Proofs.YtbaojlfnbfbjmaaDoor
