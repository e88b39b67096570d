/- The lexer's Tokens. -/
import Derived.Test.YtbaojlfnbfbjmaaDoorLexTokA
import Derived.IntWalk
import Derived.RegionTactic
import Derived.BigRegion
import Derived.StillTactics
import Derived.StillTailTactics
namespace Go.Proofs.YtbaojlfnbfbjmaaDoor
open Go.RowKit Go.Proofs Go.Proofs.YtbaojlfnbfbjmaaDoorW.PrintWords Go.Proofs.YtbaojlfnbfbjmaaDoorW.PrintLast Go.Proofs.YtbaojlfnbfbjmaaDoorW.PrintMore
set_option linter.unusedVariables false
set_option linter.unusedSimpArgs false
namespace PLex
set_option maxHeartbeats 4000000 in
set_option maxRecDepth 100000 in
theorem tokens_long (s : ByteArray) (w : World) (hs : 65536 < s.size) :
    Calls Tryd.prog 11 #[.string s] w fun e w' => e = .returned (.tuple #[.slice none 0 0, .int .i64 0, .int .i64 4]) ∧ w' = w := by
  go_enter Tryd.func11, Tryd.ntmps11
  go_wp2
  go_ret3
  exact ⟨rfl, rfl⟩
set_option maxHeartbeats 4000000 in
set_option maxRecDepth 100000 in
theorem tokens_short (s : ByteArray) (w : World) (hs : s.size ≤ 65536) (hL : Lex.Laid w) (res : List (Lx.Tok × Nat) × Nat × Nat) (hres : Lx.run (s.size + 1) 0 (Lex.L s) [] = res) :
    Calls Tryd.prog 11 #[.string s] w fun e w' => ∃ v, e = .returned (.tuple #[v, .int .i64 res.2.1, .int .i64 res.2.2]) ∧ Kd.R k33 33 w' w.heap.size (fun _ => True) v (res.1.map Lex.tS) ∧ Below w.heap.size w w' := by
  have hs' : (s.size : Int) ≤ 65536 := by omega
  have HL := Aside0.mk hL
  clear hL
  go_enter Tryd.func11, Tryd.ntmps11
  go_wp2_with (first
    | ((with_reducible refine gate_dst (N := 16) rfl ?_); refine box_event rfl (N := 16) rfl (cs := #[.string s, .int .i64 0]) (t := 51) ?hr ?_; (case hr => first | (go_simp; done) | (go_simp; rfl)); intro g hg w1 hbox hb; have HG := Aside0.mk hg; have HX := Aside0.mk hbox; have HB := Aside0.mk hb; clear hg hbox hb)
    | (go_at_call 28; refine (forms_calls g _).mono ?_; rintro e W1 ⟨M, v4, v5, rfl, hM, hmap, hS4, hS5, hb⟩; have HM := Aside0.mk hM; have HMAP := Aside0.mk hmap; have HS4 := Aside0.mk hS4; have HS5 := Aside0.mk hS5; have HB2 := Aside0.mk hb; clear hM hmap hS4 hS5 hb)
    | (go_at_call 29; refine (skip_calls g s 0 _ (by omega) (by omega) ⟨(HB2.out.block g (blk_lt HX.out)).trans HX.out⟩).mono ?_; rintro e W2 ⟨rfl, hR, hk⟩; have HR := Aside0.mk hR; have HK := Aside0.mk hk; clear hR hk))
  have hbase : Lex.TokBase w W2 g M v4 v5 := by
    have hgw : w.heap.size ≤ g := by have := HG.out; omega
    have h1 := HL.out.below HB.out
    have hgl := blk_lt HX.out
    have hMl := blk_lt HMAP.out
    have hlt : 5 < w.heap.size := by
      have := HL.out.four
      exact World.block_lt_of_cell? w _ this
    have hb1 : Lex.TokBase w W1 g M v4 v5 := ⟨h1.below HB2.out, by omega, by have := HM.out; omega, hMl, HMAP.out, HS4.out.mono (by omega), HS5.out.mono (by omega), hgw, below_step HB.out HB2.out⟩
    exact hb1.kb HK.out
  have HBASE := Aside0.mk hbase
  clear hbase HX HB HM HMAP HS4 HS5 HB2 HK
  have HRES := Aside0.mk hres
  clear hres
  go_loopg [2] (s.size + 1) (fun k v2 wr => ∃ (pos : Nat) (acc : List (Lx.Tok × Nat)), Aside0 (Lex.TokSt W2 wr g s v2 pos acc) ∧ Aside0 (s.size - pos < k) ∧ Aside0 (Lx.run k pos ((Lex.L s).drop pos) acc = res))
  case atStart =>
    refine ⟨0, [], ⟨⟨?_, Lex.kb_refl _ _, Kd.R_nil _ _ _ _ _, Nat.zero_le _⟩⟩, ⟨by omega⟩, ⟨by simpa using HRES.out⟩⟩
    simpa using HR.out
  case round =>
    obtain ⟨pos, acc, HST, HLT, HRUN⟩ := hrel
    cases gk with
    | zero => exact absurd HLT.out (by omega)
    | succ k1 =>
      obtain ⟨p, hp⟩ : ∃ p, p = pos + Lx.skipLen ((Lex.L s).drop pos) := ⟨_, rfl⟩
      have hst := HST.out
      have hposl := hst.le
      have hskip := Lex.skipLen_le ((Lex.L s).drop pos)
      have hLs : (Lex.L s).length = s.size := by simp [Lex.L]
      rw [List.length_drop, hLs] at hskip
      have hps : p ≤ s.size := by omega
      have hrun := HRUN.out
      have hrd := hst.rd
      rw [← hp] at hrd
      have HRD := Aside0.mk hrd
      have c0 := hrd.cell0
      have c1 := hrd.cell1
      obtain ⟨xs, hxs⟩ : ∃ xs, xs = acc.map Lex.tS := ⟨_, rfl⟩
      have hxl : xs.length = acc.length := by rw [hxs, List.length_map]
      have HROW := Aside0.mk (hxs ▸ hst.row : Kd.R k33 33 wr W2.heap.size (fun _ => True) _ xs)
      have HXS := Aside0.mk hxs
      have HXL := Aside0.mk hxl
      clear hxs hxl
      have HKB := Aside0.mk hst.kb
      have HB1 := Aside0.mk (HBASE.out.kb hst.kb)
      have HP := Aside0.mk hp
      have HPS := Aside0.mk (show pos ≤ p by omega)
      clear hrd hst hskip HST HR
      by_cases hlt : p < s.size
      · rw [Lex.run_at s k1 pos p acc hp hlt] at hrun
        have hlI : (p : Int) < (s.size : Int) := by omega
        have hp0 : (0 : Int) ≤ (p : Int) := by omega
        have hc0 := (s[p]).toNat_lt
        have hmap := HB1.out.map
        have hB0 : Below wr.heap.size wr wr.drew := below_drew (Below.refl _ _)
        obtain ⟨cc, hcc⟩ : ∃ cc, cc = s[p] := ⟨_, rfl⟩
        have hix0 : ∀ W, (Instr.index 55 (.agg Lex.classA) (.int .u8 (s[p].toNat : Int))).run Tryd.prog W = .ok (.int .u8 ((Lx.cls s[p] : Nat) : Int)) W := fun W => by rw [Lex.run_index_class _ (by omega) (by omega) W, Lex.clsI_byte]
        have hform := Lex.form_at HBASE.out s (by omega) p hlt
        obtain ⟨o, ho⟩ : ∃ o, o = Lx.next s[p] ((Lex.L s).drop (p + 1)) := ⟨_, rfl⟩
        rw [← ho] at hrun
        have HRUN2 := Aside0.mk hrun
        clear hrun hp
        cases hform with
        | none hlk hnone =>
          generalize ((Lx.cls s[p] : Nat) : Int) = n at hix0 hlk
          have hfn := Lex.run_eq_nilFunc
          rw [hnone] at ho
          subst ho
          clear hnone
          go_wp2_with (fail)
          go_region_held3 (fun w' => w'.heap[M]? = some (.map (Lex.formsM g v4 v5) 6) ∧ Below wr.heap.size wr w')
            (first | exact ⟨hmap, hB0⟩ | go_keep | ((try go_split_ands); refine ⟨?_, ?_⟩ <;> (first | assumption | (simp [*]; done) | exact (hb.block M (blk_lt (by assumption))).trans (by assumption) | exact below_step (by assumption) hb)))
            (first | (go_at_call 30; refine (lexer_class.calls () _ rfl).mono ?_; rintro e w' ⟨rfl, hb⟩))
          all_goals
            go_split_ands
            have hb1 : Below wr.heap.size wr w' := by assumption
            have HBW := Aside0.mk hb1
            have HBB := Aside0.mk (HB1.out.kb (Lex.kb_below HBW.out))
            clear hb1
            go_wp2
            go_ret3
            have er := HRUN2.out
            simp only [Lex.stepR] at er
            subst er
            exact ⟨.slice none 0 0, rfl, Kd.R_nil _ _ _ _ _, below_step HB1.out.bel HBW.out⟩
        | some fn fa fb hlk hcall hread =>
          generalize ((Lx.cls s[p] : Nat) : Int) = n at hix0 hlk
          have hfn := Lex.run_eq_func
          rw [← ho] at hread
          obtain ⟨Ao, co, rfl⟩ := Kd.R_slice HROW.out
          have HO := Aside0.mk ho
          clear ho
          cases o with
          | none =>
            go_wp2_with (fail)
            go_region_held3 (fun w' => w'.heap[M]? = some (.map (Lex.formsM g v4 v5) 6) ∧ Below wr.heap.size wr w')
              (first | exact ⟨hmap, hB0⟩ | go_keep | ((try go_split_ands); refine ⟨?_, ?_⟩ <;> (first | assumption | (simp [*]; done) | exact (hb.block M (blk_lt (by assumption))).trans (by assumption) | exact below_step (by assumption) hb)))
              (first | (go_at_call 30; refine (lexer_class.calls () _ rfl).mono ?_; rintro e w' ⟨rfl, hb⟩))
            all_goals
              go_split_ands
              have hb1 : Below wr.heap.size wr w' := by assumption
              have HBW := Aside0.mk hb1
              have HBB := Aside0.mk (HB1.out.kb (Lex.kb_below HBW.out))
              clear hb1
              go_wp2_with (first
                | ((with_reducible refine Calls.mono (hread _ HBB.out (HRD.out.below HBW.out)) ?_); rintro e w3 ⟨⟨ta, tb, tc, td, rfl⟩, _, hK⟩; have HK3 := Aside0.mk hK; clear hK))
              go_ret3
              have er := HRUN2.out
              simp only [Lex.stepR] at er
              subst er
              exact ⟨.slice none 0 0, rfl, Kd.R_nil _ _ _ _ _, below_alloc (HB1.out.kb (Lex.kb_trans (Lex.kb_below HBW.out) HK3.out)).bel _⟩
          | some k =>
            by_cases h20 : 20000 ≤ acc.length
            · have h20I : (20000 : Int) ≤ (xs.length : Int) := by have := HXL.out; omega
              have er := HRUN2.out
              simp only [Lex.stepR, if_pos h20] at er
              subst er
              go_wp2_with (fail)
              go_region_held3 (fun w' => w'.heap[M]? = some (.map (Lex.formsM g v4 v5) 6) ∧ Below wr.heap.size wr w')
                (first | exact ⟨hmap, hB0⟩ | go_keep | ((try go_split_ands); refine ⟨?_, ?_⟩ <;> (first | assumption | (simp [*]; done) | exact (hb.block M (blk_lt (by assumption))).trans (by assumption) | exact below_step (by assumption) hb)))
                (first | (go_at_call 30; refine (lexer_class.calls () _ rfl).mono ?_; rintro e w' ⟨rfl, hb⟩))
              all_goals
                go_split_ands
                have hb1 : Below wr.heap.size wr w' := by assumption
                have HBW := Aside0.mk hb1
                have HBB := Aside0.mk (HB1.out.kb (Lex.kb_below HBW.out))
                clear hb1
                go_wp2_with (first
                  | ((with_reducible refine Calls.mono (hread _ HBB.out (HRD.out.below HBW.out)) ?_); rintro e w3 ⟨he, hR3, hK⟩; (have he' : e = .returned (.tuple #[.agg #[.int .u8 k.kind, .string (Lex.BA k.text), .int .i64 k.num, .int .i64 0], .bool true]) := he); subst he'; clear he; have HK3 := Aside0.mk hK; have HR3 := Aside0.mk hR3; clear hK hR3))
                go_ret3
                exact ⟨.slice none 0 0, rfl, Kd.R_nil _ _ _ _ _, below_alloc (HB1.out.kb (Lex.kb_trans (Lex.kb_below HBW.out) HK3.out)).bel _⟩
            · have h20I : (xs.length : Int) < 20000 := by have := HXL.out; omega
              have er := HRUN2.out
              simp only [Lex.stepR, if_neg h20] at er
              have HER := Aside0.mk er
              have hnx := Lex.next_pos HO.out.symm
              rw [List.length_drop, hLs] at hnx
              have HNX := Aside0.mk hnx
              have HL20 := Aside0.mk h20
              have hgbase : g < W2.heap.size := by have h1 := HBASE.out.gM; have h2 := HBASE.out.MW; omega
              have HGB := Aside0.mk hgbase
              clear er hnx h20 hgbase
              go_wp2_with (fail)
              go_region_held3 (fun w' => w'.heap[M]? = some (.map (Lex.formsM g v4 v5) 6) ∧ Below wr.heap.size wr w')
                (first | exact ⟨hmap, hB0⟩ | go_keep | ((try go_split_ands); refine ⟨?_, ?_⟩ <;> (first | assumption | (simp [*]; done) | exact (hb.block M (blk_lt (by assumption))).trans (by assumption) | exact below_step (by assumption) hb)))
                (first | (go_at_call 30; refine (lexer_class.calls () _ rfl).mono ?_; rintro e w' ⟨rfl, hb⟩))
              all_goals
                go_split_ands
                have hb1 : Below wr.heap.size wr w' := by assumption
                have HBW := Aside0.mk hb1
                have HBB := Aside0.mk (HB1.out.kb (Lex.kb_below HBW.out))
                clear hb1
                go_wp2_with (first
                  | ((with_reducible refine Calls.mono (hread _ HBB.out (HRD.out.below HBW.out)) ?_); rintro e w3 ⟨he, hR3, hK⟩; (have he' : e = .returned (.tuple #[.agg #[.int .u8 k.kind, .string (Lex.BA k.text), .int .i64 k.num, .int .i64 0], .bool true]) := he); subst he'; clear he; have HK3 := Aside0.mk hK; have HR3 := Aside0.mk hR3; clear hK hR3)
                  | ((with_reducible refine gate_builtin (b := .append) (xs := #[.tmp 58, .tmp 60]) rfl ?_); at_builtin; refine Kd.R_append k33 W2.heap.size rfl (.tmp 58) (.tmp 60) 22 33 (.agg #[(.int .u8 0), (.string ⟨#[]⟩), (.int .i64 0), (.int .i64 0)]) 40 rfl Tryd.underlying22 info33 rfl (by decide) (by omega) (.slice Ao xs.length co) xs (Lex.tS (k, p)) [.int .u8 k.kind, .string (Lex.BA k.text), .int .i64 k.num, .int .i64 p] (fun _ => True) (fun _ => False) rfl ?hx ?aP (fun _ hk => hk.elim) (fun _ _ => trivial) ?aO (Below.refl _ _) ?aS ?aL ?_; (case hx => first | (go_simp; done) | (go_simp; rfl)); (case aP => exact k33_mkM _ _ _ (Lex.tS (k, p))); (case aO => exact Kd.R_alloc (Lex.R_kb (Kd.R_below HROW.out HBW.out) HGB.out HK3.out) _); (case aS => exact (Lex.kb_step (Lex.kb_trans (Lex.kb_step HKB.out HBW.out) HK3.out) (below_alloc (Below.refl _ _) _)).size); (case aL => have := HL20.out; have := HXL.out; omega); intro v1 w5 ho hb hg hat; have HO5 := Aside0.mk ho; have HR5 : Aside0 (Lex.Rd w5 g s ((p + k.written.length : Nat) : Int)) := ⟨Lex.Rd.base (HR3.out.below (below_alloc (Below.refl _ _) _)) HGB.out hb⟩; have HK5 : Aside0 (Lex.Kb g W2 w5) := ⟨Lex.kb_base (Lex.kb_step (Lex.kb_trans (Lex.kb_step HKB.out HBW.out) HK3.out) (below_alloc (Below.refl _ _) _)) hb⟩; clear ho hb hg hat)
                  | (go_at_call 29; refine (skip_calls g s (p + k.written.length) _ (by omega) (by have := HNX.out; omega) HR5.out).mono ?_; rintro e w6 ⟨rfl, hR6, hK6⟩; have HR6 := Aside0.mk hR6; have HK6 := Aside0.mk hK6; clear hR6 hK6))
                go_roundg k1
                case measure => omega
                case rel =>
                  refine ⟨p + k.written.length, acc ++ [(k, p)], ⟨HR6.out, Lex.kb_trans HK5.out HK6.out, ?_, ?_⟩, ⟨?_⟩, ⟨HER.out⟩⟩
                  · have hxs := HXS.out
                    have := Lex.R_kb HO5.out HGB.out HK6.out
                    rw [hxs] at this
                    rw [List.map_append]
                    exact this
                  · have := HNX.out
                    omega
                  · have := HNX.out
                    have := HLT.out
                    have := HPS.out
                    omega
      · have hend : s.size ≤ p := by omega
        rw [Lex.run_end s k1 pos p acc hp hend] at hrun
        subst hrun
        have hge : ¬ ((p : Int) < (s.size : Int)) := by omega
        clear hp
        go_wp2
        go_ret3
        have hxs := HXS.out
        have hrow := HROW.out
        rw [hxs] at hrow
        exact ⟨_, rfl, Kd.R_lower hrow (below_size HBASE.out.bel), HB1.out.bel⟩
end PLex
end Go.Proofs.YtbaojlfnbfbjmaaDoor
