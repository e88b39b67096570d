/- The lexer's reading functions: name, single$1, quoted. What each comes to is said by the plain words' 'next'. -/
import Derived.Test.YtbaojlfnbfbjmaaDoorLexRead
import Derived.Test.YtbaojlfnbfbjmaaDoorPLex1
namespace Go.Proofs.YtbaojlfnbfbjmaaDoor
open Go.RowKit Go.Proofs.YtbaojlfnbfbjmaaDoorW.PrintWords Go.Proofs.YtbaojlfnbfbjmaaDoorW.PrintLast Go.Proofs.YtbaojlfnbfbjmaaDoorW.PrintMore
set_option linter.unusedVariables false
set_option linter.unusedSimpArgs false
namespace Lex
def BA (l : List UInt8) : ByteArray := ⟨l.toArray⟩
/-- A token as the program's value, its place not yet told. -/
def tokV (k : Lx.Tok) : Value := .agg #[.int .u8 k.kind, .string (BA k.text), .int .i64 k.num, .int .i64 0]
/-- What reading a token comes to. -/
def ReadTo (w : World) (g : Nat) (s : ByteArray) (i : Nat) : Option Lx.Tok → Ending → World → Prop
  | some k, e, w' => e = .returned (.tuple #[tokV k, .bool true]) ∧ Rd w' g s ((i + k.written.length : Nat) : Int) ∧ Kb g w w'
  | none, e, w' => (∃ (a : Int) (b : ByteArray) (c d : Int), e = .returned (.tuple #[.agg #[.int .u8 a, .string b, .int .i64 c, .int .i64 d], .bool false])) ∧ (∃ j : Int, Rd w' g s j) ∧ Kb g w w'
theorem extract_L (s : ByteArray) (i j : Nat) : s.extract i j = BA (((L s).drop i).take (j - i)) := by
  apply ByteArray.ext
  apply Array.toList_inj.1
  simp [BA, L, ByteArray.data_extract, Array.toList_extract, List.extract]
theorem tw_mem {p : UInt8 → Bool} : ∀ (l : List UInt8) (x : UInt8), x ∈ l.takeWhile p → p x = true
  | [], x, h => by simp at h
  | c :: l, x, h => by
    by_cases hc : p c = true
    · rw [List.takeWhile_cons_of_pos hc] at h
      rcases List.mem_cons.1 h with rfl | h
      · exact hc
      · exact tw_mem l x h
    · rw [List.takeWhile_cons_of_neg hc] at h
      cases h
theorem tw_take {p : UInt8 → Bool} (l : List UInt8) : l.take (l.takeWhile p).length = l.takeWhile p := (List.prefix_iff_eq_take.1 (List.takeWhile_prefix p)).symm
theorem kb_row {g g0 : Nat} {w w1 : World} (h : Kb g w w1) (hg : w.heap.size ≤ g0) (cs : Array Value) : Kb g w (w1.setRow g0 cs) :=
  ⟨h.os, h.tape, h.output, by simpa using h.size, fun i hi hne => (setRow_other w1 g0 i cs (by omega)).trans (h.block i hi hne)⟩
theorem kb_far {g : Nat} {w w1 : World} (h : Kb g w w1) {p : Addr} (hp : w.heap.size ≤ p.block) (u : Value) : Kb g w (w1.setCell p u) :=
  ⟨h.os, h.tape, h.output, by simpa using h.size, fun i hi hne => (Below.heap_setCell w1 p u i (by omega)).trans (h.block i hi hne)⟩
theorem Rd.row {w : World} {g g0 : Nat} {s : ByteArray} {i : Int} (h : Rd w g s i) (hne : g ≠ g0) (cs : Array Value) : Rd (w.setRow g0 cs) g s i := ⟨(setRow_other w g0 g cs hne).trans h.out⟩
theorem cls_letter : ∀ c : UInt8, Lx.cls c = 3 ↔ Lx.isL c = true := byte_all (by decide +kernel)
theorem w64 {i : Int} (h0 : -9223372036854775808 ≤ i) (h1 : i ≤ 9223372036854775807) : wrap64 i = i := by unfold wrap64; omega
theorem bt_nat (s : ByteArray) (i : Nat) (h : i < s.size) : bt s (i : Int) = (s[i].toNat : Int) := (bt_at s (i : Int) (by simpa using h)).symm
theorem isL_iff (c : UInt8) : Lx.isL c = true ↔ (97 ≤ c.toNat ∧ c.toNat ≤ 122) ∨ (65 ≤ c.toNat ∧ c.toNat ≤ 90) := by
  simp [Lx.isL, UInt8.le_iff_toNat_le]
theorem isD_iff (c : UInt8) : Lx.isD c = true ↔ 48 ≤ c.toNat ∧ c.toNat ≤ 57 := by
  simp [Lx.isD, UInt8.le_iff_toNat_le]
theorem isW_iff (c : UInt8) : Lx.isW c = true ↔ ((97 ≤ c.toNat ∧ c.toNat ≤ 122) ∨ (65 ≤ c.toNat ∧ c.toNat ≤ 90)) ∨ (48 ≤ c.toNat ∧ c.toNat ≤ 57) ∨ c.toNat = 95 := by
  simp only [Lx.isW, Bool.or_eq_true, isL_iff, isD_iff, or_assoc, beq_iff_eq, ← UInt8.toNat_inj]
  simp
theorem name_loop (s : ByteArray) (hs : s.size ≤ 140737488355328) (hw : ∀ j (h : j < s.size), Lx.isW s[j] = true ∧ (j = 0 → Lx.isL s[j] = true)) :
    ∀ (d i : Nat), i + d = s.size → Ev (fun k => PLex.bits_Name.l0 k s (s.size : Int) (i : Int)) true := by
  intro d
  induction d with
  | zero =>
    intro i h
    refine Ev.step (f := fun _ => some true) (fun k => ?_) (Ev.now _)
    simp only [PLex.bits_Name.l0]
    rw [if_neg (by omega)]
  | succ d ih =>
    intro i h
    refine Ev.step (f := fun k => PLex.bits_Name.l0 k s (s.size : Int) ((i + 1 : Nat) : Int)) (fun k => ?_) (ih (i + 1) (by omega))
    obtain ⟨h1, h2⟩ := hw i (by omega)
    rw [isW_iff] at h1
    rw [isL_iff] at h2
    simp only [PLex.bits_Name.l0]
    rw [if_pos (by omega), if_pos (by omega), if_pos (by omega), bt_nat s i (by omega), w64 (by omega) (by omega)]
    obtain ⟨b, hb⟩ : ∃ b : Int, b = (s[i].toNat : Int) := ⟨_, rfl⟩
    rw [← hb]
    repeat' split
    all_goals first | rfl | omega
/-- bits.Name of a word that begins with a letter: by its length alone. -/
theorem bits_Name_word (c : UInt8) (t : List UInt8) (hc : Lx.isL c = true) (ht : ∀ x ∈ t, Lx.isW x = true) (hs : t.length + 1 ≤ 140737488355328) : ∃ k, PLex.bits_Name.f k (BA (c :: t)) = some (decide (t.length + 1 ≤ 24)) := by
  have hsz : (BA (c :: t)).size = t.length + 1 := by simp [BA, ByteArray.size]
  have hcw : Lx.isW c = true := by rw [isW_iff]; exact .inl ((isL_iff c).1 hc)
  have hat : ∀ j (h : j < (BA (c :: t)).size), (BA (c :: t))[j] = (c :: t)[j]'(by simpa [hsz] using h) := fun j h => rfl
  have hloop := name_loop (BA (c :: t)) (by omega) (fun j h => by
    rw [hat j h]
    cases j with
    | zero => exact ⟨hcw, fun _ => hc⟩
    | succ j => exact ⟨ht _ (by simp), fun e => by omega⟩) (t.length + 1) 0 (by omega)
  refine Ev.rounds ?_
  unfold PLex.bits_Name.f
  have e0 : ¬ (((t.length + 1 : Nat) : Int) < 1) := by omega
  simp only [hsz, if_neg e0]
  by_cases h : t.length + 1 ≤ 24
  · refine Ev.step (f := fun k => PLex.bits_Name.l0 k (BA (c :: t)) ((BA (c :: t)).size : Int) ((0 : Nat) : Int)) (fun k => ?_) (by simpa [h] using hloop)
    have e : decide (((t.length + 1 : Nat) : Int) > 24) = false := decide_eq_false (by omega)
    simp only [PLex.bits_Name.j0, e]
    rfl
  · refine Ev.step (f := fun _ => some false) (fun k => ?_) (by simpa [h] using Ev.now false)
    have e : decide (((t.length + 1 : Nat) : Int) > 24) = true := decide_eq_true (by omega)
    simp only [PLex.bits_Name.j0, e]
    rfl
end Lex
namespace PLex
set_option maxHeartbeats 4000000 in
set_option maxRecDepth 100000 in
theorem name_calls (g : Nat) (s : ByteArray) (i : Nat) (w : World) (hs : s.size ≤ 140737488355328) (hi : i < s.size) (h : Lex.Rd w g s i) (hc : Lx.cls s[i] = 3) :
    Calls Tryd.prog 41 #[.pointer (some ⟨g, 0, none⟩)] w (Lex.ReadTo w g s i (Lx.next s[i] ((Lex.L s).drop (i + 1)))) := by
  have ht : ∀ x ∈ ((Lex.L s).drop (i + 1)).takeWhile Lx.isW, Lx.isW x = true := fun x hx => Lex.tw_mem _ x hx
  obtain ⟨tw, htw⟩ : ∃ tw, tw = ((Lex.L s).drop (i + 1)).takeWhile Lx.isW := ⟨_, rfl⟩
  obtain ⟨kN, hN⟩ := Lex.bits_Name_word s[i] tw ((Lex.cls_letter _).1 hc) (by rw [htw]; exact ht) (by
    rw [htw]
    have h1 := (List.takeWhile_prefix Lx.isW (l := (Lex.L s).drop (i + 1))).length_le
    have e := List.length_drop (i := i + 1) (l := Lex.L s)
    have e2 : (Lex.L s).length = s.size := by simp [Lex.L]
    omega)
  have hext : s.extract i (i + 1 + tw.length) = Lex.BA (s[i] :: tw) := by
    rw [Lex.extract_L, Lex.dropL s i hi, show i + 1 + tw.length - i = tw.length + 1 by omega, List.take_succ_cons, htw, Lex.tw_take]
  have hwc := fun W (hR : Lex.Rd W g s i) => word_calls g s i W hs hi hR
  rw [← htw, ] at hwc
  have hnext : Lx.next s[i] ((Lex.L s).drop (i + 1)) = if tw.length + 1 ≤ 24 then some ⟨1, s[i] :: tw, 0⟩ else none := by
    unfold Lx.next
    rw [hc]
    simp [← htw]
  obtain ⟨o, ho⟩ : ∃ o, o = Lx.next s[i] ((Lex.L s).drop (i + 1)) := ⟨_, rfl⟩
  rw [← ho]
  have HO := Lib.hid (ho.trans hnext)
  have HT := Lib.hid htw
  clear ho
  clear htw hnext ht hc
  go_enter Tryd.func41, Tryd.ntmps41
  go_wp2_with (first
    | ((with_reducible refine gate_dst (N := 2) rfl ?_); refine box_event rfl (N := 2) rfl (cs := #[.int .u8 0, .string (⟨#[]⟩ : ByteArray), .int .i64 0, .int .i64 0]) (t := 33) ?hr ?_; (case hr => first | (go_simp; done) | (go_simp; rfl)); intro g0 hg w1 hbox hb; have HG := Aside0.mk hg; have HX := Aside0.mk hbox; have HB := Aside0.mk hb; clear hg hbox hb)
    | (go_at_call 54; refine (hwc _ (h.below HB.out)).mono ?_; rintro e w2 ⟨j, hj, rfl, hR2, hk2⟩; have HX2 := Aside0.mk ((hk2.block g0 (blk_lt HX.out) (by have := h.lt; have := HG.out; simp; omega)).trans HX.out); have HR2 := Aside0.mk hR2; have HK2 := Aside0.mk hk2; clear hR2 hk2; subst hj; rw [hext]; have hcz0 := (blk_cell HX2.out 0).trans rfl; have hcz1 := (blk_cell HX2.out 1).trans rfl; have hcz2 := (blk_cell HX2.out 2).trans rfl; have hcz3 := (blk_cell HX2.out 3).trans rfl; have hfz0 := blk_frozen HX2.out 0; have hfz1 := blk_frozen HX2.out 1; have hfz2 := blk_frozen HX2.out 2; have hfz3 := blk_frozen HX2.out 3)
    | (go_at_call 55; refine (bits_Name.calls kN _ _ _ hN).mono ?_; rintro e w3 ⟨rfl, ⟨nd, rfl⟩⟩))
  refine bodyPost_ret (results_ct rfl _ _ g0 33 #[.int .u8 1, .string (Lex.BA (s[i] :: tw)), .int .i64 0, .int .i64 0] (0, 0) _ rfl (blk_put (blk_put (blk_put (blk_put (blk_drewN HX2.out nd) 0 _ rfl) 1 _ rfl) 2 _ rfl) 3 _ rfl) Tryd.underlying33 rfl (by kernel_rfl)) rfl ?_
  have hne : g ≠ g0 := by have h1 := Lex.Rd.lt ‹Lex.Rd w g s i›; have := HG.out; omega
  have h0 : w.heap.size ≤ g0 := by have := HG.out; omega
  have hR := ((((HR2.out.drewN nd).far (p := ⟨g0, 0, none⟩) hne (.int .u8 1)).far (p := ⟨g0, 1, none⟩) hne (.string (Lex.BA (s[i] :: tw)))).far (p := ⟨g0, 2, none⟩) hne (.int .i64 0)).far (p := ⟨g0, 3, none⟩) hne (.int .i64 0)
  have hK := Lex.kb_far (Lex.kb_far (Lex.kb_far (Lex.kb_far (Lex.kb_drewN (Lex.kb_trans (Lex.kb_below HB.out) HK2.out) nd) (p := ⟨g0, 0, none⟩) h0 (.int .u8 1)) (p := ⟨g0, 1, none⟩) h0 (.string (Lex.BA (s[i] :: tw)))) (p := ⟨g0, 2, none⟩) h0 (.int .i64 0)) (p := ⟨g0, 3, none⟩) h0 (.int .i64 0)
  rw [HO.out]
  by_cases hl : tw.length + 1 ≤ 24
  · rw [if_pos hl]
    refine ⟨?_, ?_, hK⟩
    · have hl' : tw.length ≤ 23 := by omega
      simp [Lex.tokV, hl']
    · have e : i + (⟨1, s[i] :: tw, 0⟩ : Lx.Tok).written.length = i + 1 + tw.length := by simp [Lx.Tok.written]; omega
      rw [e]
      exact hR
  · rw [if_neg hl]
    have hl' : ¬ tw.length ≤ 23 := by omega
    exact ⟨⟨1, Lex.BA (s[i] :: tw), 0, 0, by simp [hl']⟩, ⟨_, hR⟩, hK⟩
end PLex
end Go.Proofs.YtbaojlfnbfbjmaaDoor
