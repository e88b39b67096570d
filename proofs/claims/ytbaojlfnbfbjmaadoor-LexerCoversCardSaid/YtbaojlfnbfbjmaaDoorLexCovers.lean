/- The law of covering, walked. -/
import Derived.Test.YtbaojlfnbfbjmaaDoorLexCov
import Derived.IntWalk
import Derived.RegionTactic
import Derived.BigRegion
import Derived.StillTactics
import Derived.StillTailTactics
namespace Go.Proofs.YtbaojlfnbfbjmaaDoor
open Go.RowKit Go.Proofs Go.Proofs.YtbaojlfnbfbjmaaDoorW.PrintWords Go.Proofs.YtbaojlfnbfbjmaaDoorW.PrintLast Go.Proofs.YtbaojlfnbfbjmaaDoorW.PrintMore
set_option linter.unusedVariables false
set_option linter.unusedSimpArgs false
namespace Lex
/-- What stands at the head of the law's loop. -/
structure CovSt (w wr : World) (B : Nat) (v : Value) (xs : List PLex.S33) : Prop where
  row : Kd.R PLex.k33 33 wr B (fun _ => True) v xs
  bel : Below w.heap.size w wr
end Lex
namespace PLex
set_option maxHeartbeats 8000000 in
set_option maxRecDepth 100000 in
theorem covers_ok (s : ByteArray) (w : World) (hs : s.size ≤ 65536) (hL : Lex.Laid w) (ts : List (Lx.Tok × Nat)) (h : Lx.Scan 0 (Lex.L s) ts none) (hn : ts.length ≤ 20000) :
    Calls Tryd.prog 4 #[.string s] w fun e w' => e = .returned (.bool true) ∧ Below w.heap.size w w' := by
  obtain ⟨E, hE0, hE, hEn, hgn⟩ := Pure.scan_cov (Lex.L s) h rfl rfl (Nat.zero_le _)
  have hLs : (Lex.L s).length = s.size := by simp [Lex.L]
  have HAL := Aside0.mk Pure.alive_ten
  have HTK := Aside0.mk (Pure.tokens_ok s h hs hn)
  have HLA := Aside0.mk hL
  obtain ⟨xs, hxs⟩ : ∃ xs, xs = ts.map Lex.tS := ⟨_, rfl⟩
  rw [← hxs] at HTK
  have HXS := Aside0.mk hxs
  have HXL : Aside0 (xs.length = ts.length) := ⟨by rw [hxs, List.length_map]⟩
  have HEE := Aside0.mk hE
  have HE0 := Aside0.mk hE0
  have HEN := Aside0.mk hEn
  have HGN := Aside0.mk hgn
  have HN := Aside0.mk hn
  have HSC := Aside0.mk h
  have hsI : (s.size : Int) ≤ 65536 := by omega
  have hno : ¬ (70000 : Int) < (s.size : Int) := by omega
  clear hE0 hE hEn hgn hn h hL hxs
  go_enter Tryd.func4, Tryd.ntmps4
  go_wp2_with (first
    | (go_at_call 14; refine (retargetlaw07_alive.calls 10 true _ HLA.out HAL.out).mono ?_; rintro e w1 ⟨rfl, hb⟩; have HB1 := Aside0.mk hb; clear hb)
    | (go_at_call 11; refine (lexer_Tokens.calls s xs 0 0 _ (HLA.out.below HB1.out) HTK.out).mono ?_; rintro e w2 ⟨v0, rfl, hr, hb⟩; have HR := Aside0.mk hr; have HB2 := Aside0.mk (below_step HB1.out hb); clear hr hb))
  obtain ⟨Ao, co, rfl⟩ := Kd.R_slice HR.out
  go_loopg [7, 8] (xs.length) (fun k v7 v8 wr => ∃ (i : Nat) (x a : Int), v7 = .int .i64 a ∧ v8 = .int .i64 x ∧ Aside0 (x = (i : Int) ∧ a = (E i : Int) ∧ i ≤ xs.length ∧ k = xs.length - i) ∧ Aside0 (Lex.CovSt w wr w1.heap.size (.slice Ao xs.length co) xs))
  case atStart =>
    refine ⟨0, 0, 0, rfl, rfl, ⟨rfl, by rw [HE0.out]; rfl, by omega, by omega⟩, ⟨HR.out, HB2.out⟩⟩
  case round =>
    obtain ⟨i, x, a, rfl, rfl, HI, HST⟩ := hrel
    by_cases hlt : i < xs.length
    · have hiT : i < ts.length := by have := HXL.out; omega
      obtain ⟨hE1, hE2, hE3, hE4, hE5, hE6⟩ := HEE.out i hiT
      have hi := HI.out
      have p1 : 0 ≤ x := by omega
      have q1 : x < (xs.length : Int) := by omega
      obtain ⟨ad, e, hx0, hx1, hx2, hx3⟩ := at_T33 (Kd.R_reads' HST.out.row).2.2 x p1 q1
      cases e
      have hrd : rd_T33 xs x = Lex.tS ts[i] := by
        rw [hi.1, Pure.rd_nat xs i hlt]
        simp [HXS.out]
      obtain ⟨qI, hq⟩ : ∃ qI : Int, qI = (ts[i].2 : Int) := ⟨_, rfl⟩
      obtain ⟨W, hW⟩ : ∃ W, W = Lex.BA ts[i].1.written := ⟨_, rfl⟩
      have hWs : W.size = ts[i].1.written.length := by rw [hW]; rfl
      obtain ⟨b, hb⟩ : ∃ b : Int, b = (E (i + 1) : Int) := ⟨_, rfl⟩
      obtain ⟨r, hr⟩ : ∃ r : Int, r = (s.size : Int) - qI := ⟨_, rfl⟩
      have htl : ts[i].1.text.length ≤ 1000000 := by
        have h1 : ts[i].1.text.length ≤ ts[i].1.written.length := by
          unfold Lx.Tok.written
          split
          · simp; omega
          · exact Nat.le_refl _
        omega
      have hwr := Pure.written_ref ts[i].1 qI htl
      rw [← hW] at hwr
      rw [hrd] at hx0 hx1 hx2 hx3
      have hx3' : wr.cell? ⟨(ad.add (x.toNat * 4)).block, (ad.add (x.toNat * 4)).off + 3, none⟩ = some (.int .i64 qI) := by rw [hq]; exact hx3
      obtain ⟨kd, hkd⟩ : ∃ kd : Int, kd = (ts[i].1.kind : Int) := ⟨_, rfl⟩
      obtain ⟨tx, htx⟩ : ∃ tx, tx = Lex.BA ts[i].1.text := ⟨_, rfl⟩
      obtain ⟨nm, hnm⟩ : ∃ nm, nm = ts[i].1.num := ⟨_, rfl⟩
      have hx0' : wr.cell? (ad.add (x.toNat * 4)) = some (.int .u8 kd) := by rw [hkd]; exact hx0
      have hx1' : wr.cell? ⟨(ad.add (x.toNat * 4)).block, (ad.add (x.toNat * 4)).off + 1, none⟩ = some (.string tx) := by rw [htx]; exact hx1
      have hx2' : wr.cell? ⟨(ad.add (x.toNat * 4)).block, (ad.add (x.toNat * 4)).off + 2, none⟩ = some (.int .i64 nm) := by rw [hnm]; exact hx2
      rw [← hkd, ← htx, ← hnm] at hwr
      have HWR := Aside0.mk hwr
      have hLs : (Lex.L s).length = s.size := by simp [Lex.L]
      have c1 : (qI < a) = False := eq_false (by omega)
      have c2 : ((s.size : Int) < qI) = False := eq_false (by omega)
      have hsub : wrap64 ((s.size : Int) - qI) = r := by rw [Pure.w64 (by omega) (by omega), hr]
      have c3 : (r < (W.size : Int)) = False := eq_false (by omega)
      have c4 : ((W.size : Int) < 1) = False := eq_false (by omega)
      have hadd : wrap64 (qI + (W.size : Int)) = b := by rw [Pure.w64 (by omega) (by omega)]; omega
      have hsub' : IntKind.i64.wrap ((s.size : Int) - qI) = r := by rw [IntWalk.i64_in _ (by omega), hr]
      have hadd' : IntKind.i64.wrap (qI + (W.size : Int)) = b := by rw [IntWalk.i64_in _ (by omega)]; omega
      have h0q : 0 ≤ qI := by omega
      have hqb : qI ≤ b := by omega
      have hbs : b ≤ (s.size : Int) := by omega
      have h0a : 0 ≤ a := by omega
      have haq : a ≤ qI := by omega
      have hqs : qI ≤ (s.size : Int) := by omega
      have h0b : 0 ≤ b := by omega
      have hex : s.extract qI.toNat b.toNat = W := by
        rw [show qI.toNat = ts[i].2 by omega, show b.toNat = ts[i].2 + ts[i].1.written.length by omega, hW]
        rw [Pure.extract_tk, hE4]
      obtain ⟨G, hG⟩ : ∃ G, s.extract a.toNat qI.toNat = G := ⟨_, rfl⟩
      have hgap : retargetlaw07_gap.f (G.size + 1) G = some true := by
        have hGL : Lex.L G = ((Lex.L s).drop (E i)).take (ts[i].2 - E i) := by
          rw [← hG, show a.toNat = E i by omega, show qI.toNat = E i + (ts[i].2 - E i) by omega, Pure.extract_tk]
          rfl
        refine Pure.gap_ref G ?_ (by rw [hGL]; exact hE5)
        have := congrArg List.length hGL
        simp only [List.length_take, List.length_drop] at this
        have h2 : (Lex.L G).length = G.size := by simp [Lex.L]
        omega
      have HGAP := Aside0.mk hgap
      have HQ := Aside0.mk (And.intro hq (And.intro hWs (And.intro hb hE6)))
      replace p1 := eq_true p1
      replace q1 := eq_true q1
      clear hE1 hE2 hE3 hE4 hE5 hE6 hi hrd hW hWs hb hr htl hwr hx0 hx1 hx2 hx3 hkd htx hnm hgap hq
      go_wp2_with (first
        | (go_at_call 15; refine (retargetlaw07_written.calls _ _ _ _ W _ HWR.out).mono ?_; rintro e w3 ⟨rfl, hb⟩; have hy3 := pw_cell_below hb hx3'; have HB3 := Aside0.mk hb; clear hb hx0' hx1' hx2' hx3'))
      simp only [List.append]
      go_quiet (first
        | (go_at_call 16; exact Calls.quiet_of ((retargetlaw07_gap.calls _ _ true _ HGAP.out).mono fun _ _ h => ⟨h.1, h.2.out⟩)))
      go_wp2
      go_roundg (xs.length - (i + 1))
      case measure => have := HI.out; omega
      case rel =>
        have hi := HI.out
        obtain ⟨hq, hWs, hb, hE6⟩ := HQ.out
        refine ⟨i + 1, _, _, rfl, rfl, ⟨?_, ?_, by omega, by omega⟩, ⟨?_, ?_⟩⟩
        · rw [hi.1, Pure.w64n i (by have := HXL.out; have := HN.out; omega)]
        · omega
        · exact Kd.R_drewN (Kd.R_below HST.out.row HB3.out) _
        · exact pw_below_drewN (below_step HST.out.bel HB3.out) _
    · have hi := HI.out
      have hge : ¬ x < (xs.length : Int) := by omega
      have hin : i = ts.length := by have := HXL.out; omega
      have hLs : (Lex.L s).length = s.size := by simp [Lex.L]
      have hen := HEN.out
      have h0a : 0 ≤ a := by omega
      have has : a ≤ (s.size : Int) := by rw [hi.2.1, hin]; omega
      obtain ⟨G, hG⟩ : ∃ G, s.extract a.toNat s.size = G := ⟨_, rfl⟩
      have hgap : retargetlaw07_gap.f (G.size + 1) G = some true := by
        have hGL : Lex.L G = (Lex.L s).drop (E ts.length) := by
          rw [← hG, show a.toNat = E ts.length by rw [hi.2.1, hin]; simp]
          exact Lib.extract_to_end s _
        refine Pure.gap_ref G ?_ (by rw [hGL]; exact HGN.out)
        have := congrArg List.length hGL
        simp only [List.length_drop] at this
        have h2 : (Lex.L G).length = G.size := by simp [Lex.L]
        omega
      have HGAP := Aside0.mk hgap
      clear hgap hi hin hen hLs
      go_wp2_with (first
        | (go_at_call 16; refine (retargetlaw07_gap.calls _ _ true _ HGAP.out).mono ?_; rintro e w4 ⟨rfl, ⟨nd, rfl⟩⟩))
      go_ret
      exact ⟨rfl, pw_below_drewN HST.out.bel _⟩
set_option maxHeartbeats 4000000 in
set_option maxRecDepth 100000 in
theorem covers_big (s : ByteArray) (w : World) (hs : 70000 < s.size) (hL : Lex.Laid w) :
    Calls Tryd.prog 4 #[.string s] w fun e w' => e = .returned (.bool true) ∧ Below w.heap.size w w' := by
  have HAL := Aside0.mk Pure.alive_ten
  have HLA := Aside0.mk hL
  have hbig : (70000 : Int) < (s.size : Int) := by omega
  clear hL
  go_enter Tryd.func4, Tryd.ntmps4
  go_wp2_with (first
    | (go_at_call 14; refine (retargetlaw07_alive.calls 10 true _ HLA.out HAL.out).mono ?_; rintro e w1 ⟨rfl, hb⟩; have HB1 := Aside0.mk hb; clear hb))
  go_ret
  exact ⟨rfl, HB1.out⟩
set_option maxHeartbeats 4000000 in
set_option maxRecDepth 100000 in
theorem covers_err (s : ByteArray) (w : World) (hs : s.size ≤ 70000) (hL : Lex.Laid w) (q e' : Int) (he : e' ≠ 0) (hf : lexer_Tokens.f s = some ([], q, e')) :
    Calls Tryd.prog 4 #[.string s] w fun e w' => e = .returned (.bool true) ∧ Below w.heap.size w w' := by
  have HAL := Aside0.mk Pure.alive_ten
  have HTK := Aside0.mk hf
  have HLA := Aside0.mk hL
  have hno : ¬ (70000 : Int) < (s.size : Int) := by omega
  have hne : (e' != 0) = true := bne_iff_ne.2 he
  clear hf hL he
  go_enter Tryd.func4, Tryd.ntmps4
  go_wp2_with (first
    | (go_at_call 14; refine (retargetlaw07_alive.calls 10 true _ HLA.out HAL.out).mono ?_; rintro e w1 ⟨rfl, hb⟩; have HB1 := Aside0.mk hb; clear hb)
    | (go_at_call 11; refine (lexer_Tokens.calls s [] q e' _ (HLA.out.below HB1.out) HTK.out).mono ?_; rintro e w2 ⟨v0, rfl, hr, hb⟩; have HB2 := Aside0.mk (below_step HB1.out hb); obtain ⟨Ao, co, rfl⟩ := Kd.R_slice hr; clear hr hb))
  go_ret
  exact ⟨rfl, HB2.out⟩
theorem retargetlaw07_LexerCovers.walk (P : True) (a0 : ByteArray) (w : World) (w0 : a0.size ≤ 140737488351232) (hL : Lex.Laid w) :
    Calls Tryd.prog 4 #[.string a0] w fun e w' => e = .returned (.bool true) ∧ Below w.heap.size w w' := by
  by_cases h1 : 70000 < a0.size
  · exact covers_big a0 w h1 hL
  by_cases h2 : 65536 < a0.size
  · refine covers_err a0 w (by omega) hL 0 4 (by decide) ?_
    unfold lexer_Tokens.f
    rw [Lx.tokens, if_pos (by simpa [Lex.L] using h2)]
    rfl
  · obtain ⟨ts, er, h⟩ := Lx.scan_all 0 (Lex.L a0)
    by_cases hn : ts.length ≤ 20000
    · cases er with
      | none => exact covers_ok a0 w (by omega) hL ts h hn
      | some q => exact covers_err a0 w (by omega) hL q 12 (by decide) (Pure.tokens_bad a0 h (by omega) hn)
    · obtain ⟨q, e⟩ := Pure.tokens_many a0 h (by omega) (by omega)
      exact covers_err a0 w (by omega) hL q 4 (by decide) e
end PLex
namespace Pure
theorem LexerCovers : True := trivial
end Pure
end Go.Proofs.YtbaojlfnbfbjmaaDoor
