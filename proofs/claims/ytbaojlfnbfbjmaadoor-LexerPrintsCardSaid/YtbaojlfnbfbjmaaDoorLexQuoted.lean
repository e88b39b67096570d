/- The lexer's reading functions: quoted texts. -/
import Derived.Test.YtbaojlfnbfbjmaaDoorLexName
import Derived.IntWalk
namespace Go.Proofs.YtbaojlfnbfbjmaaDoor
open Go.RowKit Go.Proofs.YtbaojlfnbfbjmaaDoorW.PrintWords Go.Proofs.YtbaojlfnbfbjmaaDoorW.PrintLast Go.Proofs.YtbaojlfnbfbjmaaDoorW.PrintMore
set_option linter.unusedVariables false
set_option linter.unusedSimpArgs false
namespace Lex
/-- What ends a text in quotation marks. -/
def stopQ (n : Nat) : Bool := n == 34 || decide (n < 32) || decide (126 < n)
theorem stopQ_byte : ∀ c : UInt8, stopQ c.toNat = !Lx.isQ c := byte_all (by decide +kernel)
set_option maxHeartbeats 1000000 in
theorem stopQ_pred (w : World) : PredAt Tryd.prog 61 #[] encR stopQ w := fun W r _ => by
  unfold FnGives
  by_cases h1 : r = 34 <;> by_cases h2 : r < 32 <;> by_cases h3 : 126 < r
  all_goals
    have z1 : ((r : Int) = 34) ↔ (r = 34) := by omega
    have z2 : ((r : Int) < 32) ↔ (r < 32) := by omega
    have z3 : (126 < (r : Int)) ↔ (126 < r) := by omega
    first
    | (exfalso; omega)
    | (go_enter Tryd.func61, Tryd.ntmps61
       go_wp2
       all_goals first | (exfalso; omega) | (go_ret; refine ⟨?_, 0, rfl⟩; simp [stopQ, h1, h2, h3]; try (rw [Bool.eq_iff_iff]; simp; omega)))
theorem get_bang (s : ByteArray) (i : Nat) (h : i < s.size) : s.get! i = s[i] := by
  show s.data[i]! = s.data[i]
  exact getElem!_pos s.data i (by simpa using h)
theorem dec_lt (s : ByteArray) (i : Nat) (h : (s.get! i).toNat < 128) : Utf8.decode s i = ((s.get! i).toNat, 1) := by
  unfold Utf8.decode
  simp [h]
theorem dec_ge (s : ByteArray) (i : Nat) (h : 128 ≤ (s.get! i).toNat) : 128 ≤ (Utf8.decode s i).1 := by
  unfold Utf8.decode
  simp only [Nat.add_zero]
  rw [if_neg (by omega)]
  repeat' split
  all_goals simp [Utf8.runeError] at *
  all_goals omega
theorem idx_from (s : ByteArray) : ∀ (f pos : Nat), s.size ≤ pos + f → 
    (Lib.idxFuncFrom stopQ true s f pos = -1 ∧ (((L s).drop pos).takeWhile Lx.isQ).length = s.size - pos) ∨
    (Lib.idxFuncFrom stopQ true s f pos = ((pos + (((L s).drop pos).takeWhile Lx.isQ).length : Nat) : Int) ∧ (((L s).drop pos).takeWhile Lx.isQ).length < s.size - pos)
  | 0, pos, h => .inl ⟨rfl, by rw [drop_end s pos (by omega)]; simp; omega⟩
  | f + 1, pos, h => by
    by_cases hp : pos < s.size
    · rw [dropL s pos hp]
      simp only [Lib.idxFuncFrom, if_pos hp]
      have hg := get_bang s pos hp
      by_cases hq : Lx.isQ s[pos] = true
      · have hb : (s.get! pos).toNat < 128 := by
          rw [hg]
          have := stopQ_byte s[pos]
          rw [hq] at this
          simp [stopQ] at this
          omega
        rw [dec_lt s pos hb, List.takeWhile_cons_of_pos hq]
        have hs : stopQ (s.get! pos).toNat = false := by rw [hg, stopQ_byte, hq]; rfl
        simp only [hs, Bool.false_eq_true, if_false, List.length_cons]
        rcases idx_from s f (pos + 1) (by omega) with ⟨a, b⟩ | ⟨a, b⟩
        · left; exact ⟨a, by omega⟩
        · right
          refine ⟨?_, by omega⟩
          rw [a]
          congr 1
          omega
      · rw [List.takeWhile_cons_of_neg hq]
        have hst : stopQ (Utf8.decode s pos).1 = true := by
          by_cases hb : (s.get! pos).toNat < 128
          · rw [dec_lt s pos hb]
            show stopQ (s.get! pos).toNat = true
            rw [hg, stopQ_byte, Bool.eq_false_iff.mpr hq]
            rfl
          · have := dec_ge s pos (by omega)
            unfold stopQ
            simp
            omega
        right
        rw [if_pos hst]
        exact ⟨by simp, by simp; omega⟩
    · left
      rw [drop_end s pos (by omega)]
      simp only [Lib.idxFuncFrom, if_neg hp]
      exact ⟨trivial, by simp; omega⟩
theorem drop_tw {p : UInt8 → Bool} : ∀ l : List UInt8, l.drop (l.takeWhile p).length = l.dropWhile p
  | [] => rfl
  | c :: l => by
    by_cases h : p c = true
    · rw [List.takeWhile_cons_of_pos h, List.dropWhile_cons_of_pos h]
      exact drop_tw l
    · rw [List.takeWhile_cons_of_neg h, List.dropWhile_cons_of_neg h]
      rfl
end Lex
namespace PLex
set_option maxHeartbeats 4000000 in
set_option maxRecDepth 100000 in
theorem quoted_calls (g : Nat) (s : ByteArray) (i : Nat) (w : World) (hs : s.size ≤ 140737488355328) (hi : i < s.size) (h : Lex.Rd w g s i) (hc : Lx.cls s[i] = 7) :
    Calls Tryd.prog 43 #[.pointer (some ⟨g, 0, none⟩)] w (Lex.ReadTo w g s i (Lx.next s[i] ((Lex.L s).drop (i + 1)))) := by
  obtain ⟨rs, hrs⟩ : ∃ rs, s.extract (i + 1) s.size = rs := ⟨_, rfl⟩
  have hLr : Lex.L rs = (Lex.L s).drop (i + 1) := by rw [← hrs]; exact Lib.extract_to_end s (i + 1)
  have hsz : rs.size = s.size - (i + 1) := by have := congrArg List.length hLr; simpa [Lex.L] using this
  have hnext : Lx.next s[i] ((Lex.L s).drop (i + 1)) = if ((Lex.L rs).dropWhile Lx.isQ).head? = some 34 then some ⟨3, (Lex.L rs).takeWhile Lx.isQ, 0⟩ else none := by
    unfold Lx.next
    rw [hc, hLr]
    rfl
  obtain ⟨o, ho⟩ : ∃ o, o = Lx.next s[i] ((Lex.L s).drop (i + 1)) := ⟨_, rfl⟩
  rw [← ho]
  have HO := Lib.hid (ho.trans hnext)
  have hI := fun W => Tryd.strings_IndexFunc 61 #[] (enters_of Tryd.func61 (by kernel_rfl) rfl) Lex.stopQ rs W (Lex.stopQ_pred W)
  have hcase := Lex.idx_from rs rs.size 0 (by omega)
  change (Lib.idxFunc Lex.stopQ true rs = -1 ∧ _) ∨ (Lib.idxFunc Lex.stopQ true rs = _ ∧ _) at hcase
  obtain ⟨n, hn⟩ : ∃ n, n = Lib.idxFunc Lex.stopQ true rs := ⟨_, rfl⟩
  rw [← hn] at hcase
  have hI2 : ∀ W, Calls Tryd.prog 60 #[.string rs, .func (.func 61) #[] #[]] W fun e w' => e = .returned (.int .i64 n) ∧ Below W.heap.size W w' := by rw [hn]; exact hI
  clear hI hn ho hnext hc
  have h0 := h.cell0
  have h1 := h.cell1
  have HL := Lib.hid hLr
  clear hLr
  have hi0 : (0 : Int) ≤ (i : Int) + 1 := by omega
  have hi1 : (i : Int) + 1 ≤ (s.size : Int) := by omega
  have HSZ := Lib.hid hsz
  clear hsz
  have hwi : IntKind.i64.wrap ((i : Int) + 1) = (i : Int) + 1 := IntWalk.i64_in _ (by omega)
  have hti : ((i : Int) + 1).toNat = i + 1 := by omega
  simp only [List.drop_zero, Nat.sub_zero, Nat.zero_add] at hcase
  obtain ⟨q, hq⟩ : ∃ q, q = (Lex.L rs).takeWhile Lx.isQ := ⟨_, rfl⟩
  rw [← hq] at hcase
  have hdw : (Lex.L rs).dropWhile Lx.isQ = (Lex.L rs).drop q.length := by rw [hq]; exact (Lex.drop_tw _).symm
  rcases hcase with ⟨hn1, hq1⟩ | ⟨hn1, hq1⟩
  · have HON : Aside0 (o = none) := ⟨by rw [HO.out, hdw, Lex.drop_end rs q.length (by omega)]; rfl⟩
    subst hn1
    clear hdw hq hq1
    go_enter Tryd.func43, Tryd.ntmps43
    go_wp2_with (first | ((with_reducible refine gate_dst (N := 2) rfl ?_); refine box_event rfl (N := 2) rfl (cs := #[.int .u8 0, .string (⟨#[]⟩ : ByteArray), .int .i64 0, .int .i64 0]) (t := 33) ?hr ?_; (case hr => first | (go_simp; done) | (go_simp; rfl)); intro g0 hg w1 hbox hb; have HG := Aside0.mk hg; have HX := Aside0.mk hbox; have HB := Aside0.mk hb; have hR1 := h.below hb; have c0 := hR1.cell0; have c1 := hR1.cell1; have f1 := hR1.free 1; have HR1 := Aside0.mk hR1; have hB1 : Below w1.heap.size w1 w1.drew := below_drew (Below.refl _ _); clear hR1 hg hbox hb))
    go_region_held3 (fun w' => w'.cell? ⟨g, 0, none⟩ = some (.string s) ∧ w'.cell? ⟨g, 1, none⟩ = some (.int .i64 i) ∧ Below w1.heap.size w1 w')
      (first | go_keep | ((try go_split_ands); refine ⟨?_, ?_, ?_⟩ <;> (first | assumption | (simp [*]; done))))
      (first | fail)
    go_wp2_with (first | (go_at_call 60; refine (hI2 _).mono ?_; rintro e w2 ⟨rfl, hb2⟩; have hbd : Below w1.heap.size w1 w2 := below_step (below_drew (Below.refl _ _)) hb2; have hX2 := (hbd.block g0 (blk_lt HX.out)).trans HX.out; have hcz0 := (blk_cell hX2 0).trans rfl; have hcz1 := (blk_cell hX2 1).trans rfl; have hcz2 := (blk_cell hX2 2).trans rfl; have hcz3 := (blk_cell hX2 3).trans rfl; have hfz0 := blk_frozen hX2 0; have hfz1 := blk_frozen hX2 1; have hfz2 := blk_frozen hX2 2; have hfz3 := blk_frozen hX2 3; have hR2 := HR1.out.below hbd; have d0 := hR2.cell0; have d1 := hR2.cell1; have e1 := hR2.free 1; have HX2 := Aside0.mk hX2; have HR2 := Aside0.mk hR2; have HBD := Aside0.mk hbd; clear hX2 hR2 hbd hb2 c0 c1 f1 hB1))
    have hne : g ≠ g0 := by have h1 := Lex.Rd.lt ‹Lex.Rd w g s i›; have := HG.out; omega
    have hg0 : w.heap.size ≤ g0 := by have := HG.out; omega
    refine bodyPost_ret (results_ct rfl _ _ g0 33 #[.int .u8 0, .string (⟨#[]⟩ : ByteArray), .int .i64 0, .int .i64 0] (0, 0) _ rfl (blk_put (blk_put (blk_put (blk_put HX2.out 0 _ rfl) 1 _ rfl) 2 _ rfl) 3 _ rfl) Tryd.underlying33 rfl (by kernel_rfl)) rfl ?_
    rw [HON.out]
    exact ⟨⟨_, _, _, _, rfl⟩, ⟨_, (((HR2.out.far (p := ⟨g0, 0, none⟩) hne _).far (p := ⟨g0, 1, none⟩) hne _).far (p := ⟨g0, 2, none⟩) hne _).far (p := ⟨g0, 3, none⟩) hne _⟩, Lex.kb_far (Lex.kb_far (Lex.kb_far (Lex.kb_far (Lex.kb_step (Lex.kb_below HB.out) HBD.out) (p := ⟨g0, 0, none⟩) hg0 _) (p := ⟨g0, 1, none⟩) hg0 _) (p := ⟨g0, 2, none⟩) hg0 _) (p := ⟨g0, 3, none⟩) hg0 _⟩
  · have hq2 : q.length < rs.size := hq1
    obtain ⟨b, hb⟩ : ∃ b : Int, b = (rs[q.length].toNat : Int) := ⟨_, rfl⟩
    have hixq : ∀ W, (Instr.index 9 (.string rs) (.int .i64 n)).run Tryd.prog W = .ok (.int .u8 b) W := fun W => by
      rw [run_index_string W 9 rs .i64 n Tryd.underlying9, dif_pos (by omega), hb]
      congr 3
      subst hn1
      rfl
    have hn0 : 0 ≤ n := by omega
    have hns : n ≤ (rs.size : Int) := by omega
    have HN := Lib.hid hn1
    have hhd : ((Lex.L rs).drop q.length).head? = some rs[q.length] := by rw [Lex.dropL rs q.length hq2]; rfl
    by_cases hb34 : rs[q.length] = 34
    · have HON : Aside0 (o = some ⟨3, q, 0⟩) := ⟨by rw [HO.out, hdw, hhd, hb34, if_pos rfl, hq]⟩
      have hbb : b = 34 := by rw [hb, hb34]; rfl
      subst hbb
      have hqs : rs.extract 0 q.length = Lex.BA q := by rw [Lex.extract_L, List.drop_zero, Nat.sub_zero, hq, Lex.tw_take]
      have hnn : n.toNat = q.length := by rw [hn1]; rfl
      have hn2 : IntKind.i64.wrap (n + 2) = n + 2 := by have := HSZ.out; exact IntWalk.i64_in _ (by omega)
      have hsum0 : (i : Int) + (n + 2) ≤ 9223372036854775807 := by have := HSZ.out; omega
      have hn3 : IntKind.i64.wrap ((i : Int) + (n + 2)) = (i : Int) + (n + 2) := by have := HSZ.out; exact IntWalk.i64_in _ (by omega)
      have HSL := Aside0.mk (show rs.extract 0 n.toNat = Lex.BA q by rw [hnn, hqs])
      have HHI : Aside0 (q.length < rs.size) := ⟨hq2⟩
      clear hdw hq hq1 hhd hb34 hb hn1 hqs hq2 hnn
      go_enter Tryd.func43, Tryd.ntmps43
      go_wp2_with (first | ((with_reducible refine gate_dst (N := 2) rfl ?_); refine box_event rfl (N := 2) rfl (cs := #[.int .u8 0, .string (⟨#[]⟩ : ByteArray), .int .i64 0, .int .i64 0]) (t := 33) ?hr ?_; (case hr => first | (go_simp; done) | (go_simp; rfl)); intro g0 hg w1 hbox hb; have HG := Aside0.mk hg; have HX := Aside0.mk hbox; have HB := Aside0.mk hb; have hR1 := h.below hb; have c0 := hR1.cell0; have c1 := hR1.cell1; have f1 := hR1.free 1; have HR1 := Aside0.mk hR1; have hB1 : Below w1.heap.size w1 w1.drew := below_drew (Below.refl _ _); clear hR1 hg hbox hb))
      go_region_held3 (fun w' => w'.cell? ⟨g, 0, none⟩ = some (.string s) ∧ w'.cell? ⟨g, 1, none⟩ = some (.int .i64 i) ∧ Below w1.heap.size w1 w')
        (first | go_keep | ((try go_split_ands); refine ⟨?_, ?_, ?_⟩ <;> (first | assumption | (simp [*]; done))))
        (first | fail)
      go_wp2_with (first | (go_at_call 60; refine (hI2 _).mono ?_; rintro e w2 ⟨rfl, hb2⟩; have hbd : Below w1.heap.size w1 w2 := below_step (below_drew (Below.refl _ _)) hb2; have hX2 := (hbd.block g0 (blk_lt HX.out)).trans HX.out; have hcz0 := (blk_cell hX2 0).trans rfl; have hcz1 := (blk_cell hX2 1).trans rfl; have hcz2 := (blk_cell hX2 2).trans rfl; have hcz3 := (blk_cell hX2 3).trans rfl; have hfz0 := blk_frozen hX2 0; have hfz1 := blk_frozen hX2 1; have hfz2 := blk_frozen hX2 2; have hfz3 := blk_frozen hX2 3; have hR2 := HR1.out.below hbd; have d0 := hR2.cell0; have d1 := hR2.cell1; have e1 := hR2.free 1; have hng : g0 ≠ g := (by have h1 := Lex.Rd.lt ‹Lex.Rd w g s i›; have := HG.out; omega); have hdz0 := fun v => (World.cell?_of_block (a := ⟨g0, 0, none⟩) (Below.heap_setCell w2 ⟨g, 1, none⟩ v g0 hng)).trans hcz0; have hdz1 := fun v => (World.cell?_of_block (a := ⟨g0, 1, none⟩) (Below.heap_setCell w2 ⟨g, 1, none⟩ v g0 hng)).trans hcz1; have hdz2 := fun v => (World.cell?_of_block (a := ⟨g0, 2, none⟩) (Below.heap_setCell w2 ⟨g, 1, none⟩ v g0 hng)).trans hcz2; have hdz3 := fun v => (World.cell?_of_block (a := ⟨g0, 3, none⟩) (Below.heap_setCell w2 ⟨g, 1, none⟩ v g0 hng)).trans hcz3; have hgz0 := fun v => blk_frozen (blk_far hX2 hng (p := ⟨g, 1, none⟩) v) 0; have hgz1 := fun v => blk_frozen (blk_far hX2 hng (p := ⟨g, 1, none⟩) v) 1; have hgz2 := fun v => blk_frozen (blk_far hX2 hng (p := ⟨g, 1, none⟩) v) 2; have hgz3 := fun v => blk_frozen (blk_far hX2 hng (p := ⟨g, 1, none⟩) v) 3; have HX2 := Aside0.mk hX2; have HR2 := Aside0.mk hR2; have HBD := Aside0.mk hbd; clear hX2 hR2 hbd hb2 c0 c1 f1 hB1 hng))
      have hne : g ≠ g0 := by have h1 := Lex.Rd.lt ‹Lex.Rd w g s i›; have := HG.out; omega
      have hg0 : w.heap.size ≤ g0 := by have := HG.out; omega
      refine bodyPost_ret (results_ct rfl _ _ g0 33 #[.int .u8 3, .string (rs.extract 0 n.toNat), .int .i64 0, .int .i64 0] (0, 0) _ rfl (blk_put (blk_put (blk_put (blk_put (blk_far HX2.out (Ne.symm hne) (p := ⟨g, 1, none⟩) (.int .i64 ((i : Int) + (n + 2)))) 0 _ rfl) 1 _ rfl) 2 _ rfl) 3 _ rfl) Tryd.underlying33 rfl (by kernel_rfl)) rfl ?_
      rw [HON.out]
      have hR := ((((HR2.out.set ((i : Int) + (n + 2))).far (p := ⟨g0, 0, none⟩) hne (.int .u8 3)).far (p := ⟨g0, 1, none⟩) hne (.string (rs.extract 0 n.toNat))).far (p := ⟨g0, 2, none⟩) hne (.int .i64 0)).far (p := ⟨g0, 3, none⟩) hne (.int .i64 0)
      have hK := Lex.kb_far (Lex.kb_far (Lex.kb_far (Lex.kb_far (Lex.kb_set (g := g) (Lex.kb_step (Lex.kb_below HB.out) HBD.out) 1 (.int .i64 ((i : Int) + (n + 2)))) (p := ⟨g0, 0, none⟩) hg0 (.int .u8 3)) (p := ⟨g0, 1, none⟩) hg0 (.string (rs.extract 0 n.toNat))) (p := ⟨g0, 2, none⟩) hg0 (.int .i64 0)) (p := ⟨g0, 3, none⟩) hg0 (.int .i64 0)
      refine ⟨?_, ?_, hK⟩
      · simp [Lex.tokV, HSL.out]
      · have e : ((i + (⟨3, q, 0⟩ : Lx.Tok).written.length : Nat) : Int) = (i : Int) + (n + 2) := by have := HN.out; simp [Lx.Tok.written]; omega
        rw [e]
        exact ⟨hR.out⟩
    · have HON : Aside0 (o = none) := ⟨by rw [HO.out, hdw, hhd, if_neg (by simpa using hb34)]⟩
      have hbn : (b != 34) = true := by
        rw [bne_iff_ne, hb]
        intro e
        exact hb34 (UInt8.toNat_inj.1 (by have : ((rs[q.length].toNat : Nat) : Int) = 34 := e; show rs[q.length].toNat = 34; omega))
      clear hdw hq hq1 hhd hb34 hb hn1 hq2
      go_enter Tryd.func43, Tryd.ntmps43
      go_wp2_with (first | ((with_reducible refine gate_dst (N := 2) rfl ?_); refine box_event rfl (N := 2) rfl (cs := #[.int .u8 0, .string (⟨#[]⟩ : ByteArray), .int .i64 0, .int .i64 0]) (t := 33) ?hr ?_; (case hr => first | (go_simp; done) | (go_simp; rfl)); intro g0 hg w1 hbox hb; have HG := Aside0.mk hg; have HX := Aside0.mk hbox; have HB := Aside0.mk hb; have hR1 := h.below hb; have c0 := hR1.cell0; have c1 := hR1.cell1; have f1 := hR1.free 1; have HR1 := Aside0.mk hR1; have hB1 : Below w1.heap.size w1 w1.drew := below_drew (Below.refl _ _); clear hR1 hg hbox hb))
      go_region_held3 (fun w' => w'.cell? ⟨g, 0, none⟩ = some (.string s) ∧ w'.cell? ⟨g, 1, none⟩ = some (.int .i64 i) ∧ Below w1.heap.size w1 w')
        (first | go_keep | ((try go_split_ands); refine ⟨?_, ?_, ?_⟩ <;> (first | assumption | (simp [*]; done))))
        (first | fail)
      go_wp2_with (first | (go_at_call 60; refine (hI2 _).mono ?_; rintro e w2 ⟨rfl, hb2⟩; have hbd : Below w1.heap.size w1 w2 := below_step (below_drew (Below.refl _ _)) hb2; have hX2 := (hbd.block g0 (blk_lt HX.out)).trans HX.out; have hcz0 := (blk_cell hX2 0).trans rfl; have hcz1 := (blk_cell hX2 1).trans rfl; have hcz2 := (blk_cell hX2 2).trans rfl; have hcz3 := (blk_cell hX2 3).trans rfl; have hfz0 := blk_frozen hX2 0; have hfz1 := blk_frozen hX2 1; have hfz2 := blk_frozen hX2 2; have hfz3 := blk_frozen hX2 3; have hR2 := HR1.out.below hbd; have d0 := hR2.cell0; have d1 := hR2.cell1; have e1 := hR2.free 1; have HX2 := Aside0.mk hX2; have HR2 := Aside0.mk hR2; have HBD := Aside0.mk hbd; clear hX2 hR2 hbd hb2 c0 c1 f1 hB1))
      have hne : g ≠ g0 := by have h1 := Lex.Rd.lt ‹Lex.Rd w g s i›; have := HG.out; omega
      have hg0 : w.heap.size ≤ g0 := by have := HG.out; omega
      refine bodyPost_ret (results_ct rfl _ _ g0 33 #[.int .u8 0, .string (⟨#[]⟩ : ByteArray), .int .i64 0, .int .i64 0] (0, 0) _ rfl (blk_put (blk_put (blk_put (blk_put HX2.out 0 _ rfl) 1 _ rfl) 2 _ rfl) 3 _ rfl) Tryd.underlying33 rfl (by kernel_rfl)) rfl ?_
      rw [HON.out]
      exact ⟨⟨_, _, _, _, rfl⟩, ⟨_, (((HR2.out.far (p := ⟨g0, 0, none⟩) hne _).far (p := ⟨g0, 1, none⟩) hne _).far (p := ⟨g0, 2, none⟩) hne _).far (p := ⟨g0, 3, none⟩) hne _⟩, Lex.kb_far (Lex.kb_far (Lex.kb_far (Lex.kb_far (Lex.kb_step (Lex.kb_below HB.out) HBD.out) (p := ⟨g0, 0, none⟩) hg0 _) (p := ⟨g0, 1, none⟩) hg0 _) (p := ⟨g0, 2, none⟩) hg0 _) (p := ⟨g0, 3, none⟩) hg0 _⟩
end PLex
end Go.Proofs.YtbaojlfnbfbjmaaDoor
