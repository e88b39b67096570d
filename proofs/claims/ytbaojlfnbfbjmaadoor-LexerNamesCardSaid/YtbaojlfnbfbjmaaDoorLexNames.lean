/- The law of the chapter's examples and limits, walked. -/
import Derived.Test.YtbaojlfnbfbjmaaDoorPureLexerNames
import Derived.Test.YtbaojlfnbfbjmaaDoorLexAlive
import Derived.Test.YtbaojlfnbfbjmaaDoorPLex2
import Derived.Test.YtbaojlfnbfbjmaaDoorPLex2
import Derived.Test.YtbaojlfnbfbjmaaDoorPLex3
import Derived.Test.YtbaojlfnbfbjmaaDoorLexLines
import Derived.Test.YtbaojlfnbfbjmaaDoorLexPrint
namespace Go.Proofs.YtbaojlfnbfbjmaaDoor
open Go.RowKit Go.Proofs Go.Proofs.YtbaojlfnbfbjmaaDoorW.PrintWords Go.Proofs.YtbaojlfnbfbjmaaDoorW.PrintWords.Kd Go.Proofs.YtbaojlfnbfbjmaaDoorW.PrintLast Go.Proofs.YtbaojlfnbfbjmaaDoorW.PrintMore
set_option linter.unusedVariables false
set_option linter.unusedSimpArgs false
namespace PLex
theorem add_z (a : Addr) : a.add 0 = a := by unfold Addr.add; split <;> simp_all
theorem name_c (s : ByteArray) (w : World) : Calls Tryd.prog 21 #[.string s] w fun e w' => e = .returned (.agg #[.int .u8 1, .string s, .int .i64 0, .int .i64 0]) ∧ Below w.heap.size w w' := retargetlaw07_name.calls s 1 s 0 0 w rfl
theorem mark_c (s : ByteArray) (w : World) : Calls Tryd.prog 22 #[.string s] w fun e w' => e = .returned (.agg #[.int .u8 4, .string s, .int .i64 0, .int .i64 0]) ∧ Below w.heap.size w w' := retargetlaw07_mark.calls s 4 s 0 0 w rfl
theorem number_c (s : ByteArray) (n : Int) (w : World) : Calls Tryd.prog 24 #[.string s, .int .i64 n] w fun e w' => e = .returned (.agg #[.int .u8 2, .string s, .int .i64 n, .int .i64 0]) ∧ Below w.heap.size w w' := retargetlaw07_number.calls s n 2 s n 0 w rfl
set_option maxRecDepth 100000 in
theorem fails_0 : retargetlaw07_fails.f (⟨#[49, 48, 48, 48, 48, 48, 48, 48, 48, 48, 48, 48, 48, 48, 48, 48, 48, 48, 48]⟩ : ByteArray) 0 = some true := by decide +kernel
set_option maxRecDepth 100000 in
theorem fails_1 : retargetlaw07_fails.f (⟨#[48, 120, 49, 48, 48, 48, 48, 48, 48, 48, 48, 48, 48, 48, 48, 48, 48, 48]⟩ : ByteArray) 0 = some true := by decide +kernel
set_option maxRecDepth 100000 in
theorem fails_2 : retargetlaw07_fails.f (⟨#[48, 120, 70]⟩ : ByteArray) 0 = some true := by decide +kernel
set_option maxRecDepth 100000 in
theorem fails_3 : retargetlaw07_fails.f (⟨#[48, 120]⟩ : ByteArray) 0 = some true := by decide +kernel
set_option maxRecDepth 100000 in
theorem fails_4 : retargetlaw07_fails.f (⟨#[45]⟩ : ByteArray) 0 = some true := by decide +kernel
set_option maxRecDepth 100000 in
theorem fails_5 : retargetlaw07_fails.f (⟨#[53, 32, 45, 32, 54]⟩ : ByteArray) 2 = some true := by decide +kernel
set_option maxRecDepth 100000 in
theorem fails_6 : retargetlaw07_fails.f (⟨#[45, 48, 120, 49]⟩ : ByteArray) 0 = some true := by decide +kernel
set_option maxRecDepth 100000 in
theorem fails_7 : retargetlaw07_fails.f (⟨#[49, 95]⟩ : ByteArray) 0 = some true := by decide +kernel
set_option maxRecDepth 100000 in
theorem fails_8 : retargetlaw07_fails.f (⟨#[97, 97, 97, 97, 97, 97, 97, 97, 97, 97, 97, 97, 97, 97, 97, 97, 97, 97, 97, 97, 97, 97, 97, 97, 97]⟩ : ByteArray) 0 = some true := by decide +kernel
set_option maxRecDepth 100000 in
theorem fails_9 : retargetlaw07_fails.f (⟨#[95, 97]⟩ : ByteArray) 0 = some true := by decide +kernel
set_option maxRecDepth 100000 in
theorem fails_10 : retargetlaw07_fails.f (⟨#[97, 9, 98]⟩ : ByteArray) 1 = some true := by decide +kernel
set_option maxRecDepth 100000 in
theorem fails_11 : retargetlaw07_fails.f (⟨#[32, 34, 120]⟩ : ByteArray) 1 = some true := by decide +kernel
set_option maxRecDepth 100000 in
theorem fails_12 : retargetlaw07_fails.f (⟨#[34, 120, 10, 121, 34]⟩ : ByteArray) 0 = some true := by decide +kernel
set_option maxRecDepth 100000 in
theorem fails_13 : retargetlaw07_fails.f (⟨#[128]⟩ : ByteArray) 0 = some true := by decide +kernel
set_option maxRecDepth 100000 in
theorem reads_184 : retargetlaw07_reads.f 10 (⟨#[48]⟩ : ByteArray) ([⟨2, (⟨#[48]⟩ : ByteArray), 0, 0⟩] : List S33) = some true := by decide +kernel
set_option maxRecDepth 100000 in
theorem reads_188 : retargetlaw07_reads.f 10 (⟨#[48, 120, 48]⟩ : ByteArray) ([⟨2, (⟨#[48, 120, 48]⟩ : ByteArray), 0, 0⟩] : List S33) = some true := by decide +kernel
set_option maxRecDepth 100000 in
theorem reads_193 : retargetlaw07_reads.f 10 (⟨#[57, 57, 57, 57, 57, 57, 57, 57, 57, 57, 57, 57, 57, 57, 57, 57, 57, 57]⟩ : ByteArray) ([⟨2, (⟨#[57, 57, 57, 57, 57, 57, 57, 57, 57, 57, 57, 57, 57, 57, 57, 57, 57, 57]⟩ : ByteArray), 999999999999999999, 0⟩] : List S33) = some true := by decide +kernel
set_option maxRecDepth 100000 in
theorem reads_198 : retargetlaw07_reads.f 10 (⟨#[48, 120, 102, 102, 102, 102, 102, 102, 102, 102, 102, 102, 102, 102, 102, 102, 102]⟩ : ByteArray) ([⟨2, (⟨#[48, 120, 102, 102, 102, 102, 102, 102, 102, 102, 102, 102, 102, 102, 102, 102, 102]⟩ : ByteArray), 1152921504606846975, 0⟩] : List S33) = some true := by decide +kernel
set_option maxRecDepth 100000 in
theorem reads_227 : retargetlaw07_reads.f 10 (⟨#[97, 35, 98, 10, 35]⟩ : ByteArray) ([⟨1, (⟨#[97]⟩ : ByteArray), 0, 0⟩, ⟨5, (⟨#[10]⟩ : ByteArray), 0, 0⟩] : List S33) = some true := by decide +kernel
set_option maxRecDepth 100000 in
theorem reads_231 : retargetlaw07_reads.f 10 (⟨#[97, 97, 97, 97, 97, 97, 97, 97, 97, 97, 97, 97, 97, 97, 97, 97, 97, 97, 97, 97, 97, 97, 97, 97]⟩ : ByteArray) ([⟨1, (⟨#[97, 97, 97, 97, 97, 97, 97, 97, 97, 97, 97, 97, 97, 97, 97, 97, 97, 97, 97, 97, 97, 97, 97, 97]⟩ : ByteArray), 0, 0⟩] : List S33) = some true := by decide +kernel
set_option maxRecDepth 100000 in
theorem reads_258 : retargetlaw07_reads.f 10 (⟨#[97, 46, 98, 64, 47]⟩ : ByteArray) ([⟨1, (⟨#[97]⟩ : ByteArray), 0, 0⟩, ⟨4, (⟨#[46]⟩ : ByteArray), 0, 0⟩, ⟨1, (⟨#[98]⟩ : ByteArray), 0, 0⟩, ⟨4, (⟨#[64]⟩ : ByteArray), 0, 0⟩, ⟨4, (⟨#[47]⟩ : ByteArray), 0, 0⟩] : List S33) = some true := by decide +kernel
set_option maxRecDepth 100000 in
theorem print_67 : lexer_Print.f ([⟨1, (⟨#[49]⟩ : ByteArray), 0, 0⟩] : List S33) = some ((⟨#[]⟩ : ByteArray), 8) := by kernel_rfl
set_option maxRecDepth 100000 in
theorem print_73 : lexer_Print.f ([⟨2, (⟨#[49]⟩ : ByteArray), 2, 0⟩] : List S33) = some ((⟨#[]⟩ : ByteArray), 8) := by kernel_rfl
set_option maxRecDepth 100000 in
theorem print_79 : lexer_Print.f ([⟨0, (⟨#[]⟩ : ByteArray), 0, 0⟩] : List S33) = some ((⟨#[]⟩ : ByteArray), 8) := by kernel_rfl
set_option maxRecDepth 100000 in
theorem print_93 : lexer_Print.f ([⟨1, (⟨#[97]⟩ : ByteArray), 0, 0⟩, ⟨4, (⟨#[58]⟩ : ByteArray), 0, 0⟩, ⟨5, (⟨#[10]⟩ : ByteArray), 0, 77⟩, ⟨3, (⟨#[]⟩ : ByteArray), 0, 0⟩] : List S33) = some ((⟨#[97, 32, 58, 10, 34, 34]⟩ : ByteArray), 0) := by kernel_rfl
theorem lines_101 : lexer_Lines.f ([⟨1, (⟨#[97]⟩ : ByteArray), 0, 0⟩, ⟨5, (⟨#[]⟩ : ByteArray), 0, 0⟩, ⟨5, (⟨#[]⟩ : ByteArray), 0, 0⟩, ⟨1, (⟨#[98]⟩ : ByteArray), 0, 0⟩] : List S33) = some [([⟨1, (⟨#[97]⟩ : ByteArray), 0, 0⟩] : List S33), [], ([⟨1, (⟨#[98]⟩ : ByteArray), 0, 0⟩] : List S33)] := by kernel_rfl
set_option maxHeartbeats 16000000 in
set_option maxRecDepth 100000 in
theorem retargetlaw07_LexerNames.walk (P : True) (w : World) (hL : Lex.Laid w) :
    Calls Tryd.prog 9 #[] w fun e w' => e = .returned (.bool true) ∧ Below w.heap.size w w' := by
  have HL := Aside0.mk hL
  have HB := Aside0.mk (Below.refl w.heap.size w)
  clear hL
  obtain ⟨x1, hT1, hx1⟩ := Pure.tokens_full
  have HT1 := Aside0.mk hT1
  have HT2 := Aside0.mk Pure.tokens_over
  have HT3 := Aside0.mk Pure.tokens_long
  have HT4 := Aside0.mk Pure.tokens_blank
  have HM1 : Aside0 (retargetlaw07_many.f 70000 20000 = some (Pure.str 20000 44)) := ⟨Pure.many_f 20000 (by omega) 70000 (by omega)⟩
  have HM2 : Aside0 (retargetlaw07_many.f 70000 20001 = some (Pure.str 20001 44)) := ⟨Pure.many_f 20001 (by omega) 70000 (by omega)⟩
  have HM3 : Aside0 (retargetlaw07_many.f 70000 65537 = some (Pure.str 65537 44)) := ⟨Pure.many_f 65537 (by omega) 70000 (by omega)⟩
  have c1 : ((x1.length : Int) == 20000) = true := by rw [hx1]; rfl
  clear hT1 hx1
  obtain ⟨S1, hS⟩ : ∃ S, S = Pure.str 20000 44 := ⟨_, rfl⟩
  rw [← hS] at HM1 HT1
  clear hS
  obtain ⟨S2, hS⟩ : ∃ S, S = Pure.str 20001 44 := ⟨_, rfl⟩
  rw [← hS] at HM2 HT2
  clear hS
  obtain ⟨S3, hS⟩ : ∃ S, S = Pure.str 65537 44 := ⟨_, rfl⟩
  rw [← hS] at HM3 HT3
  clear hS
  obtain ⟨y67, hy67⟩ : ∃ y, y = ([⟨1, (⟨#[49]⟩ : ByteArray), 0, 0⟩] : List S33) := ⟨_, rfl⟩
  obtain ⟨y73, hy73⟩ : ∃ y, y = ([⟨2, (⟨#[49]⟩ : ByteArray), 2, 0⟩] : List S33) := ⟨_, rfl⟩
  obtain ⟨y79, hy79⟩ : ∃ y, y = ([⟨0, (⟨#[]⟩ : ByteArray), 0, 0⟩] : List S33) := ⟨_, rfl⟩
  obtain ⟨y93, hy93⟩ : ∃ y, y = ([⟨1, (⟨#[97]⟩ : ByteArray), 0, 0⟩, ⟨4, (⟨#[58]⟩ : ByteArray), 0, 0⟩, ⟨5, (⟨#[10]⟩ : ByteArray), 0, 77⟩, ⟨3, (⟨#[]⟩ : ByteArray), 0, 0⟩] : List S33) := ⟨_, rfl⟩
  obtain ⟨y101, hy101⟩ : ∃ y, y = ([⟨1, (⟨#[97]⟩ : ByteArray), 0, 0⟩, ⟨5, (⟨#[]⟩ : ByteArray), 0, 0⟩, ⟨5, (⟨#[]⟩ : ByteArray), 0, 0⟩, ⟨1, (⟨#[98]⟩ : ByteArray), 0, 0⟩] : List S33) := ⟨_, rfl⟩
  obtain ⟨y184, hy184⟩ : ∃ y, y = ([⟨2, (⟨#[48]⟩ : ByteArray), 0, 0⟩] : List S33) := ⟨_, rfl⟩
  obtain ⟨y188, hy188⟩ : ∃ y, y = ([⟨2, (⟨#[48, 120, 48]⟩ : ByteArray), 0, 0⟩] : List S33) := ⟨_, rfl⟩
  obtain ⟨y193, hy193⟩ : ∃ y, y = ([⟨2, (⟨#[57, 57, 57, 57, 57, 57, 57, 57, 57, 57, 57, 57, 57, 57, 57, 57, 57, 57]⟩ : ByteArray), 999999999999999999, 0⟩] : List S33) := ⟨_, rfl⟩
  obtain ⟨y198, hy198⟩ : ∃ y, y = ([⟨2, (⟨#[48, 120, 102, 102, 102, 102, 102, 102, 102, 102, 102, 102, 102, 102, 102, 102, 102]⟩ : ByteArray), 1152921504606846975, 0⟩] : List S33) := ⟨_, rfl⟩
  obtain ⟨y227, hy227⟩ : ∃ y, y = ([⟨1, (⟨#[97]⟩ : ByteArray), 0, 0⟩, ⟨5, (⟨#[10]⟩ : ByteArray), 0, 0⟩] : List S33) := ⟨_, rfl⟩
  obtain ⟨y231, hy231⟩ : ∃ y, y = ([⟨1, (⟨#[97, 97, 97, 97, 97, 97, 97, 97, 97, 97, 97, 97, 97, 97, 97, 97, 97, 97, 97, 97, 97, 97, 97, 97]⟩ : ByteArray), 0, 0⟩] : List S33) := ⟨_, rfl⟩
  obtain ⟨y258, hy258⟩ : ∃ y, y = ([⟨1, (⟨#[97]⟩ : ByteArray), 0, 0⟩, ⟨4, (⟨#[46]⟩ : ByteArray), 0, 0⟩, ⟨1, (⟨#[98]⟩ : ByteArray), 0, 0⟩, ⟨4, (⟨#[64]⟩ : ByteArray), 0, 0⟩, ⟨4, (⟨#[47]⟩ : ByteArray), 0, 0⟩] : List S33) := ⟨_, rfl⟩
  have HF67 := Aside0.mk print_67
  rw [← hy67] at HF67
  have HF73 := Aside0.mk print_73
  rw [← hy73] at HF73
  have HF79 := Aside0.mk print_79
  rw [← hy79] at HF79
  have HF93 := Aside0.mk print_93
  rw [← hy93] at HF93
  have HF101 := Aside0.mk lines_101
  rw [← hy101] at HF101
  have HF184 := Aside0.mk reads_184
  rw [← hy184] at HF184
  have HF188 := Aside0.mk reads_188
  rw [← hy188] at HF188
  have HF193 := Aside0.mk reads_193
  rw [← hy193] at HF193
  have HF198 := Aside0.mk reads_198
  rw [← hy198] at HF198
  have HF227 := Aside0.mk reads_227
  rw [← hy227] at HF227
  have HF231 := Aside0.mk reads_231
  rw [← hy231] at HF231
  have HF258 := Aside0.mk reads_258
  rw [← hy258] at HF258
  have Ny67 := Aside0.mk hy67
  clear hy67
  have Ny73 := Aside0.mk hy73
  clear hy73
  have Ny79 := Aside0.mk hy79
  clear hy79
  have Ny93 := Aside0.mk hy93
  clear hy93
  have Ny101 := Aside0.mk hy101
  clear hy101
  have Ny184 := Aside0.mk hy184
  clear hy184
  have Ny188 := Aside0.mk hy188
  clear hy188
  have Ny193 := Aside0.mk hy193
  clear hy193
  have Ny198 := Aside0.mk hy198
  clear hy198
  have Ny227 := Aside0.mk hy227
  clear hy227
  have Ny231 := Aside0.mk hy231
  clear hy231
  have Ny258 := Aside0.mk hy258
  clear hy258
  obtain ⟨T93, hT93⟩ : ∃ T, T = (⟨#[97, 32, 58, 10, 34, 34]⟩ : ByteArray) := ⟨_, rfl⟩
  have c93 : (T93.toList == ((⟨#[97, 32, 58, 10, 34, 34]⟩ : ByteArray)).toList) = true := by rw [hT93]; simp
  have c93b : (T93.toList == [97, 32, 58, 10, 34, 34]) = true := by rw [hT93, ByteArray.toList_eq]; decide
  rw [← hT93] at HF93
  clear hT93
  obtain ⟨y84, hy84⟩ : ∃ y, y = List.replicate 20001 Lex.zS := ⟨_, rfl⟩
  have HF84 := Aside0.mk Pure.print_over
  rw [← hy84] at HF84
  have Ny84 := Aside0.mk hy84
  clear hy84
  obtain ⟨y48, hy48⟩ : ∃ y, y = List.replicate 65536 (0 : Int) := ⟨_, rfl⟩
  have Ny48 := Aside0.mk hy48
  clear hy48
  go_enter Tryd.func9, Tryd.ntmps9
  go_wp2_with (first
    | (go_at_call 20; (with_reducible refine (retargetlaw07_many.calls 70000 20000 S1 _ HM1.out).mono ?_); rintro e w1 ⟨rfl, hb⟩; have n0_ := Aside0.mk (below_step HB.out hb); clear HB hb; have HB := n0_; clear n0_)
    | (go_at_call 20; (with_reducible refine (retargetlaw07_many.calls 70000 20001 S2 _ HM2.out).mono ?_); rintro e w1 ⟨rfl, hb⟩; have n0_ := Aside0.mk (below_step HB.out hb); clear HB hb; have HB := n0_; clear n0_)
    | (go_at_call 20; (with_reducible refine (retargetlaw07_many.calls 70000 65537 S3 _ HM3.out).mono ?_); rintro e w1 ⟨rfl, hb⟩; have n0_ := Aside0.mk (below_step HB.out hb); clear HB hb; have HB := n0_; clear n0_)
    | (go_at_call 11; (with_reducible refine (lexer_Tokens.calls S1 x1 0 0 _ (HL.out.below HB.out) HT1.out).mono ?_); rintro e w1 ⟨v, rfl, hr, hb⟩; obtain ⟨A1, co1, rfl⟩ := Kd.R_slice hr; clear hr; have n0_ := Aside0.mk (below_step HB.out hb); clear HB hb; have HB := n0_; clear n0_)
    | (go_at_call 11; (with_reducible refine (lexer_Tokens.calls S2 [] 20000 4 _ (HL.out.below HB.out) HT2.out).mono ?_); rintro e w1 ⟨v, rfl, hr, hb⟩; obtain ⟨A1, co1, rfl⟩ := Kd.R_slice hr; clear hr; have n0_ := Aside0.mk (below_step HB.out hb); clear HB hb; have HB := n0_; clear n0_)
    | (go_at_call 11; (with_reducible refine (lexer_Tokens.calls S3 [] 0 4 _ (HL.out.below HB.out) HT3.out).mono ?_); rintro e w1 ⟨v, rfl, hr, hb⟩; obtain ⟨A1, co1, rfl⟩ := Kd.R_slice hr; clear hr; have n0_ := Aside0.mk (below_step HB.out hb); clear HB hb; have HB := n0_; clear n0_)
    | ((with_reducible refine gate_dst (N := 48) rfl ?_); refine Kd.R_make (Kd.int .u8) _ 5 rfl (N := 48) rfl 42 _ _ rfl 65536 rfl rfl Tryd.underlying42 (.int .u8 0) 1 info5 rfl (by decide) (by omega) 0 (ok := fun _ => True) (okp := fun _ => True) rfl (fun _ hk => hk) trivial (by decide) (by decide) (Below.refl _ _) (Nat.le_refl _) ?_; intro v w1 ho hb hg_ hnew_; clear hg_ hnew_; (first | rw [← Ny48.out] at ho | (simp only [Int.reduceToNat] at ho; rw [← Ny48.out] at ho)); have n1_ := Aside0.mk (Kd.R_lower ho HB.out.size); obtain ⟨gb, cb, rfl, GB0, _, _⟩ := Kd.R_form n1_.out (by rw [Ny48.out, List.length_replicate]; decide); have HO := n1_; have GB := Aside0.mk GB0; clear n1_ ho GB0; have n0_ := Aside0.mk (below_step HB.out hb); clear HB hb; have HB := n0_; clear n0_))
  go_loopg [11] 65536 (fun k v11 wr => ∃ (i : Nat) (x : Int) (bs : List Int), v11 = .int .i64 x ∧ Aside0 (x = (i : Int) ∧ i ≤ 65536 ∧ k = 65536 - i) ∧ Aside0 (bs.length = 65536 ∧ ∀ j (h : j < bs.length), j < i → bs[j] = 32) ∧ Aside0 (Kd.R (Kd.int .u8) 5 wr w.heap.size (fun _ => True) (.slice (some ⟨gb, 0, none⟩) y48.length cb) bs) ∧ Aside0 (Below w.heap.size w wr))
  case atStart => exact ⟨0, 0, y48, rfl, ⟨rfl, by omega, by omega⟩, ⟨by rw [Ny48.out, List.length_replicate], fun j _ h => absurd h (by omega)⟩, HO, HB⟩
  case round =>
    clear HO HB
    obtain ⟨i, x, bs, rfl, HI, HBS, HO, HB⟩ := hrel
    have hi := HI.out
    have hbl := HBS.out.1
    have hyl := (Kd.R_reads' HO.out).1
    by_cases hlt : i < 65536
    · have p9 : 0 ≤ x := by omega
      have q9 : x < (y48.length : Int) := by omega
      obtain ⟨hx9, hf9⟩ := Kd.R_celln 0 HO.out x p9 q9
      have HP := Aside0.mk (Kd.R_putg HO.out x 32)
      replace p9 := eq_true p9
      replace q9 := eq_true q9
      clear hi hbl hyl
      go_wp2_with (first | ((with_reducible refine gate_store (t := 5) (p := 57) rfl ?_); refine store_event (t := 5) (p := 57) (v := ?vo) (w1 := (wr.setCell ⟨gb, x.toNat, none⟩ (.int .u8 32))) ?hg ?ho ?hn ?hr ?_; (case ho => rfl); (case hg => rfl); (case hn => rfl); (case hr => first | (go_simp; done) | (go_simp; rfl)); intro w2 hw; have HO2 := Aside0.mk ((by rw [hw]; exact HP.out.1) : Kd.R (Kd.int .u8) 5 w2 w.heap.size (fun _ => True) (.slice (some ⟨gb, 0, none⟩) y48.length cb) (bs.set x.toNat 32)); have HB2 := Aside0.mk ((by rw [hw]; exact below_set HB.out GB.out) : Below w.heap.size w w2); clear hw HP))
      go_roundg (65536 - (i + 1))
      case measure => have := HI.out; omega
      case rel =>
        refine ⟨i + 1, _, _, rfl, ⟨?_, by omega, by omega⟩, ⟨by rw [List.length_set]; exact HBS.out.1, fun j h hj => ?_⟩, HO2, HB2⟩
        · rw [HI.out.1, Pure.w64n i (by omega)]
        · rw [List.getElem_set]
          split
          · rfl
          · rename_i hne
            have := HI.out.1
            exact HBS.out.2 j (by simpa using h) (by omega)
    · have hge : (x < (y48.length : Int)) = False := eq_false (by omega)
      have hcv := own_string (P := Tryd.prog) Tryd.underlying42 Tryd.underlying5 Tryd.underlying9 (Kd.own_of_R HO.out)
      rw [Pure.rep_of bs 65536 hbl (fun j hj => HBS.out.2 j hj (by omega))] at hcv
      obtain ⟨S4, hS⟩ : ∃ S, S = Pure.str 65536 32 := ⟨_, rfl⟩
      rw [← hS] at HT4 hcv
      clear hS hi hbl hyl HO HBS
      go_wp2_with (first
        | (go_at_call 11; (with_reducible refine (lexer_Tokens.calls S4 [] 0 0 _ (HL.out.below HB.out) HT4.out).mono ?_); rintro e w1 ⟨v, rfl, hr, hb⟩; obtain ⟨A1, co1, rfl⟩ := Kd.R_slice hr; clear hr; have n0_ := Aside0.mk (below_step HB.out hb); clear HB hb; have HB := n0_; clear n0_)
        | ((with_reducible refine gate_dst (N := 67) rfl ?_); (try (refine gate_guard (by rfl) ?_; dsimp only)); refine Kd.R_lit k33 _ 33 ?hg (N := 67) ?hd (xs := ([⟨1, (⟨#[49]⟩ : ByteArray), 0, 0⟩] : List S33)) (inner := [.int .u8 1, .string (⟨#[49]⟩ : ByteArray), .int .i64 0, .int .i64 0]) (ok := fun _ => True) (okp := fun _ => True) ?hr ?hp (fun _ hk => hk) trivial (Below.refl _ _) (Nat.le_refl _) (by simp) ?_; (case hd => rfl); (case hg => rfl); (case hr => first | (go_simp; done) | (go_simp; rfl)); (case hp => exact (Reps.c4 (show Kd.M k33 _ _ _ (⟨1, (⟨#[49]⟩ : ByteArray), 0, 0⟩ : S33) [.int .u8 1, .string (⟨#[49]⟩ : ByteArray), .int .i64 0, .int .i64 0] from (k33_mkM _ _ _ (⟨1, (⟨#[49]⟩ : ByteArray), 0, 0⟩ : S33))) (Reps.none _ _))); intro v w1 ho hb hg_ hnew_; clear hg_ hnew_; rw [← Ny67.out] at ho; obtain ⟨A1, co1, rfl⟩ := Kd.R_slice ho; (try clear HX); have HX := Aside0.mk ho; clear ho; have n0_ := Aside0.mk (below_step HB.out hb); clear HB hb; have HB := n0_; clear n0_)
        | ((with_reducible refine gate_dst (N := 73) rfl ?_); (try (refine gate_guard (by rfl) ?_; dsimp only)); refine Kd.R_lit k33 _ 33 ?hg (N := 73) ?hd (xs := ([⟨2, (⟨#[49]⟩ : ByteArray), 2, 0⟩] : List S33)) (inner := [.int .u8 2, .string (⟨#[49]⟩ : ByteArray), .int .i64 2, .int .i64 0]) (ok := fun _ => True) (okp := fun _ => True) ?hr ?hp (fun _ hk => hk) trivial (Below.refl _ _) (Nat.le_refl _) (by simp) ?_; (case hd => rfl); (case hg => rfl); (case hr => first | (go_simp; done) | (go_simp; rfl)); (case hp => exact (Reps.c4 (show Kd.M k33 _ _ _ (⟨2, (⟨#[49]⟩ : ByteArray), 2, 0⟩ : S33) [.int .u8 2, .string (⟨#[49]⟩ : ByteArray), .int .i64 2, .int .i64 0] from (k33_mkM _ _ _ (⟨2, (⟨#[49]⟩ : ByteArray), 2, 0⟩ : S33))) (Reps.none _ _))); intro v w1 ho hb hg_ hnew_; clear hg_ hnew_; rw [← Ny73.out] at ho; obtain ⟨A1, co1, rfl⟩ := Kd.R_slice ho; (try clear HX); have HX := Aside0.mk ho; clear ho; have n0_ := Aside0.mk (below_step HB.out hb); clear HB hb; have HB := n0_; clear n0_)
        | ((with_reducible refine gate_dst (N := 79) rfl ?_); (try (refine gate_guard (by rfl) ?_; dsimp only)); refine Kd.R_lit k33 _ 33 ?hg (N := 79) ?hd (xs := ([⟨0, (⟨#[]⟩ : ByteArray), 0, 0⟩] : List S33)) (inner := [.int .u8 0, .string (⟨#[]⟩ : ByteArray), .int .i64 0, .int .i64 0]) (ok := fun _ => True) (okp := fun _ => True) ?hr ?hp (fun _ hk => hk) trivial (Below.refl _ _) (Nat.le_refl _) (by simp) ?_; (case hd => rfl); (case hg => rfl); (case hr => first | (go_simp; done) | (go_simp; rfl)); (case hp => exact (Reps.c4 (show Kd.M k33 _ _ _ (⟨0, (⟨#[]⟩ : ByteArray), 0, 0⟩ : S33) [.int .u8 0, .string (⟨#[]⟩ : ByteArray), .int .i64 0, .int .i64 0] from (k33_mkM _ _ _ (⟨0, (⟨#[]⟩ : ByteArray), 0, 0⟩ : S33))) (Reps.none _ _))); intro v w1 ho hb hg_ hnew_; clear hg_ hnew_; rw [← Ny79.out] at ho; obtain ⟨A1, co1, rfl⟩ := Kd.R_slice ho; (try clear HX); have HX := Aside0.mk ho; clear ho; have n0_ := Aside0.mk (below_step HB.out hb); clear HB hb; have HB := n0_; clear n0_)
        | ((with_reducible refine gate_dst (N := 93) rfl ?_); (try (refine gate_guard (by rfl) ?_; dsimp only)); refine Kd.R_lit k33 _ 33 ?hg (N := 93) ?hd (xs := ([⟨1, (⟨#[97]⟩ : ByteArray), 0, 0⟩, ⟨4, (⟨#[58]⟩ : ByteArray), 0, 0⟩, ⟨5, (⟨#[10]⟩ : ByteArray), 0, 77⟩, ⟨3, (⟨#[]⟩ : ByteArray), 0, 0⟩] : List S33)) (inner := [.int .u8 1, .string (⟨#[97]⟩ : ByteArray), .int .i64 0, .int .i64 0, .int .u8 4, .string (⟨#[58]⟩ : ByteArray), .int .i64 0, .int .i64 0, .int .u8 5, .string (⟨#[10]⟩ : ByteArray), .int .i64 0, .int .i64 77, .int .u8 3, .string (⟨#[]⟩ : ByteArray), .int .i64 0, .int .i64 0]) (ok := fun _ => True) (okp := fun _ => True) ?hr ?hp (fun _ hk => hk) trivial (Below.refl _ _) (Nat.le_refl _) (by simp) ?_; (case hd => rfl); (case hg => rfl); (case hr => first | (go_simp; done) | (go_simp; rfl)); (case hp => exact (Reps.c4 (show Kd.M k33 _ _ _ (⟨1, (⟨#[97]⟩ : ByteArray), 0, 0⟩ : S33) [.int .u8 1, .string (⟨#[97]⟩ : ByteArray), .int .i64 0, .int .i64 0] from (k33_mkM _ _ _ (⟨1, (⟨#[97]⟩ : ByteArray), 0, 0⟩ : S33))) (Reps.c4 (show Kd.M k33 _ _ _ (⟨4, (⟨#[58]⟩ : ByteArray), 0, 0⟩ : S33) [.int .u8 4, .string (⟨#[58]⟩ : ByteArray), .int .i64 0, .int .i64 0] from (k33_mkM _ _ _ (⟨4, (⟨#[58]⟩ : ByteArray), 0, 0⟩ : S33))) (Reps.c4 (show Kd.M k33 _ _ _ (⟨5, (⟨#[10]⟩ : ByteArray), 0, 77⟩ : S33) [.int .u8 5, .string (⟨#[10]⟩ : ByteArray), .int .i64 0, .int .i64 77] from (k33_mkM _ _ _ (⟨5, (⟨#[10]⟩ : ByteArray), 0, 77⟩ : S33))) (Reps.c4 (show Kd.M k33 _ _ _ (⟨3, (⟨#[]⟩ : ByteArray), 0, 0⟩ : S33) [.int .u8 3, .string (⟨#[]⟩ : ByteArray), .int .i64 0, .int .i64 0] from (k33_mkM _ _ _ (⟨3, (⟨#[]⟩ : ByteArray), 0, 0⟩ : S33))) (Reps.none _ _)))))); intro v w1 ho hb hg_ hnew_; clear hg_ hnew_; rw [← Ny93.out] at ho; obtain ⟨A1, co1, rfl⟩ := Kd.R_slice ho; (try clear HX); have HX := Aside0.mk ho; clear ho; have n0_ := Aside0.mk (below_step HB.out hb); clear HB hb; have HB := n0_; clear n0_)
        | ((with_reducible refine gate_dst (N := 84) rfl ?_); refine Kd.R_make k33 _ 33 rfl (N := 84) rfl 22 _ _ rfl 20001 rfl rfl Tryd.underlying22 (.agg #[.int .u8 0, .string ⟨#[]⟩, .int .i64 0, .int .i64 0]) 40 info33 rfl (by decide) (by omega) Lex.zS (ok := fun _ => True) (okp := fun _ => True) (k33_mkM _ _ _ Lex.zS) (fun _ hk => hk) trivial (by decide) (by decide) (Below.refl _ _) (Nat.le_refl _) ?_; intro v w1 ho hb hg_ hnew_; clear hg_ hnew_; (first | rw [← Ny84.out] at ho | (simp only [Int.reduceToNat] at ho; rw [← Ny84.out] at ho)); obtain ⟨A1, co1, rfl⟩ := Kd.R_slice ho; (try clear HX); have HX := Aside0.mk ho; clear ho; have n0_ := Aside0.mk (below_step HB.out hb); clear HB hb; have HB := n0_; clear n0_)
        | ((with_reducible refine gate_dst (N := 101) rfl ?_); (try (refine gate_guard (by rfl) ?_; dsimp only)); refine Kd.R_lit k33 _ 33 ?hg (N := 101) ?hd (xs := ([⟨1, (⟨#[97]⟩ : ByteArray), 0, 0⟩, ⟨5, (⟨#[]⟩ : ByteArray), 0, 0⟩, ⟨5, (⟨#[]⟩ : ByteArray), 0, 0⟩, ⟨1, (⟨#[98]⟩ : ByteArray), 0, 0⟩] : List S33)) (inner := [.int .u8 1, .string (⟨#[97]⟩ : ByteArray), .int .i64 0, .int .i64 0, .int .u8 5, .string (⟨#[]⟩ : ByteArray), .int .i64 0, .int .i64 0, .int .u8 5, .string (⟨#[]⟩ : ByteArray), .int .i64 0, .int .i64 0, .int .u8 1, .string (⟨#[98]⟩ : ByteArray), .int .i64 0, .int .i64 0]) (ok := fun _ => True) (okp := fun _ => True) ?hr ?hp (fun _ hk => hk) trivial (Below.refl _ _) (Nat.le_refl _) (by simp) ?_; (case hd => rfl); (case hg => rfl); (case hr => first | (go_simp; done) | (go_simp; rfl)); (case hp => exact (Reps.c4 (show Kd.M k33 _ _ _ (⟨1, (⟨#[97]⟩ : ByteArray), 0, 0⟩ : S33) [.int .u8 1, .string (⟨#[97]⟩ : ByteArray), .int .i64 0, .int .i64 0] from (k33_mkM _ _ _ (⟨1, (⟨#[97]⟩ : ByteArray), 0, 0⟩ : S33))) (Reps.c4 (show Kd.M k33 _ _ _ (⟨5, (⟨#[]⟩ : ByteArray), 0, 0⟩ : S33) [.int .u8 5, .string (⟨#[]⟩ : ByteArray), .int .i64 0, .int .i64 0] from (k33_mkM _ _ _ (⟨5, (⟨#[]⟩ : ByteArray), 0, 0⟩ : S33))) (Reps.c4 (show Kd.M k33 _ _ _ (⟨5, (⟨#[]⟩ : ByteArray), 0, 0⟩ : S33) [.int .u8 5, .string (⟨#[]⟩ : ByteArray), .int .i64 0, .int .i64 0] from (k33_mkM _ _ _ (⟨5, (⟨#[]⟩ : ByteArray), 0, 0⟩ : S33))) (Reps.c4 (show Kd.M k33 _ _ _ (⟨1, (⟨#[98]⟩ : ByteArray), 0, 0⟩ : S33) [.int .u8 1, .string (⟨#[98]⟩ : ByteArray), .int .i64 0, .int .i64 0] from (k33_mkM _ _ _ (⟨1, (⟨#[98]⟩ : ByteArray), 0, 0⟩ : S33))) (Reps.none _ _)))))); intro v w1 ho hb hg_ hnew_; clear hg_ hnew_; rw [← Ny101.out] at ho; obtain ⟨A1, co1, rfl⟩ := Kd.R_slice ho; (try clear HX); have HX := Aside0.mk ho; clear ho; have n0_ := Aside0.mk (below_step HB.out hb); clear HB hb; have HB := n0_; clear n0_)
        | ((with_reducible refine gate_dst (N := 184) rfl ?_); (try (refine gate_guard (by rfl) ?_; dsimp only)); refine Kd.R_lit k33 _ 33 ?hg (N := 184) ?hd (xs := ([⟨2, (⟨#[48]⟩ : ByteArray), 0, 0⟩] : List S33)) (inner := [.int .u8 2, .string (⟨#[48]⟩ : ByteArray), .int .i64 0, .int .i64 0]) (ok := fun _ => True) (okp := fun _ => True) ?hr ?hp (fun _ hk => hk) trivial (Below.refl _ _) (Nat.le_refl _) (by simp) ?_; (case hd => rfl); (case hg => rfl); (case hr => first | (go_simp; done) | (go_simp; rfl)); (case hp => exact (Reps.c4 (show Kd.M k33 _ _ _ (⟨2, (⟨#[48]⟩ : ByteArray), 0, 0⟩ : S33) [.int .u8 2, .string (⟨#[48]⟩ : ByteArray), .int .i64 0, .int .i64 0] from (k33_mkM _ _ _ (⟨2, (⟨#[48]⟩ : ByteArray), 0, 0⟩ : S33))) (Reps.none _ _))); intro v w1 ho hb hg_ hnew_; clear hg_ hnew_; rw [← Ny184.out] at ho; obtain ⟨A1, co1, rfl⟩ := Kd.R_slice ho; (try clear HX); have HX := Aside0.mk ho; clear ho; have n0_ := Aside0.mk (below_step HB.out hb); clear HB hb; have HB := n0_; clear n0_)
        | ((with_reducible refine gate_dst (N := 188) rfl ?_); (try (refine gate_guard (by rfl) ?_; dsimp only)); refine Kd.R_lit k33 _ 33 ?hg (N := 188) ?hd (xs := ([⟨2, (⟨#[48, 120, 48]⟩ : ByteArray), 0, 0⟩] : List S33)) (inner := [.int .u8 2, .string (⟨#[48, 120, 48]⟩ : ByteArray), .int .i64 0, .int .i64 0]) (ok := fun _ => True) (okp := fun _ => True) ?hr ?hp (fun _ hk => hk) trivial (Below.refl _ _) (Nat.le_refl _) (by simp) ?_; (case hd => rfl); (case hg => rfl); (case hr => first | (go_simp; done) | (go_simp; rfl)); (case hp => exact (Reps.c4 (show Kd.M k33 _ _ _ (⟨2, (⟨#[48, 120, 48]⟩ : ByteArray), 0, 0⟩ : S33) [.int .u8 2, .string (⟨#[48, 120, 48]⟩ : ByteArray), .int .i64 0, .int .i64 0] from (k33_mkM _ _ _ (⟨2, (⟨#[48, 120, 48]⟩ : ByteArray), 0, 0⟩ : S33))) (Reps.none _ _))); intro v w1 ho hb hg_ hnew_; clear hg_ hnew_; rw [← Ny188.out] at ho; obtain ⟨A1, co1, rfl⟩ := Kd.R_slice ho; (try clear HX); have HX := Aside0.mk ho; clear ho; have n0_ := Aside0.mk (below_step HB.out hb); clear HB hb; have HB := n0_; clear n0_)
        | ((with_reducible refine gate_dst (N := 193) rfl ?_); (try (refine gate_guard (by rfl) ?_; dsimp only)); refine Kd.R_lit k33 _ 33 ?hg (N := 193) ?hd (xs := ([⟨2, (⟨#[57, 57, 57, 57, 57, 57, 57, 57, 57, 57, 57, 57, 57, 57, 57, 57, 57, 57]⟩ : ByteArray), 999999999999999999, 0⟩] : List S33)) (inner := [.int .u8 2, .string (⟨#[57, 57, 57, 57, 57, 57, 57, 57, 57, 57, 57, 57, 57, 57, 57, 57, 57, 57]⟩ : ByteArray), .int .i64 999999999999999999, .int .i64 0]) (ok := fun _ => True) (okp := fun _ => True) ?hr ?hp (fun _ hk => hk) trivial (Below.refl _ _) (Nat.le_refl _) (by simp) ?_; (case hd => rfl); (case hg => rfl); (case hr => first | (go_simp; done) | (go_simp; rfl)); (case hp => exact (Reps.c4 (show Kd.M k33 _ _ _ (⟨2, (⟨#[57, 57, 57, 57, 57, 57, 57, 57, 57, 57, 57, 57, 57, 57, 57, 57, 57, 57]⟩ : ByteArray), 999999999999999999, 0⟩ : S33) [.int .u8 2, .string (⟨#[57, 57, 57, 57, 57, 57, 57, 57, 57, 57, 57, 57, 57, 57, 57, 57, 57, 57]⟩ : ByteArray), .int .i64 999999999999999999, .int .i64 0] from (k33_mkM _ _ _ (⟨2, (⟨#[57, 57, 57, 57, 57, 57, 57, 57, 57, 57, 57, 57, 57, 57, 57, 57, 57, 57]⟩ : ByteArray), 999999999999999999, 0⟩ : S33))) (Reps.none _ _))); intro v w1 ho hb hg_ hnew_; clear hg_ hnew_; rw [← Ny193.out] at ho; obtain ⟨A1, co1, rfl⟩ := Kd.R_slice ho; (try clear HX); have HX := Aside0.mk ho; clear ho; have n0_ := Aside0.mk (below_step HB.out hb); clear HB hb; have HB := n0_; clear n0_)
        | ((with_reducible refine gate_dst (N := 198) rfl ?_); (try (refine gate_guard (by rfl) ?_; dsimp only)); refine Kd.R_lit k33 _ 33 ?hg (N := 198) ?hd (xs := ([⟨2, (⟨#[48, 120, 102, 102, 102, 102, 102, 102, 102, 102, 102, 102, 102, 102, 102, 102, 102]⟩ : ByteArray), 1152921504606846975, 0⟩] : List S33)) (inner := [.int .u8 2, .string (⟨#[48, 120, 102, 102, 102, 102, 102, 102, 102, 102, 102, 102, 102, 102, 102, 102, 102]⟩ : ByteArray), .int .i64 1152921504606846975, .int .i64 0]) (ok := fun _ => True) (okp := fun _ => True) ?hr ?hp (fun _ hk => hk) trivial (Below.refl _ _) (Nat.le_refl _) (by simp) ?_; (case hd => rfl); (case hg => rfl); (case hr => first | (go_simp; done) | (go_simp; rfl)); (case hp => exact (Reps.c4 (show Kd.M k33 _ _ _ (⟨2, (⟨#[48, 120, 102, 102, 102, 102, 102, 102, 102, 102, 102, 102, 102, 102, 102, 102, 102]⟩ : ByteArray), 1152921504606846975, 0⟩ : S33) [.int .u8 2, .string (⟨#[48, 120, 102, 102, 102, 102, 102, 102, 102, 102, 102, 102, 102, 102, 102, 102, 102]⟩ : ByteArray), .int .i64 1152921504606846975, .int .i64 0] from (k33_mkM _ _ _ (⟨2, (⟨#[48, 120, 102, 102, 102, 102, 102, 102, 102, 102, 102, 102, 102, 102, 102, 102, 102]⟩ : ByteArray), 1152921504606846975, 0⟩ : S33))) (Reps.none _ _))); intro v w1 ho hb hg_ hnew_; clear hg_ hnew_; rw [← Ny198.out] at ho; obtain ⟨A1, co1, rfl⟩ := Kd.R_slice ho; (try clear HX); have HX := Aside0.mk ho; clear ho; have n0_ := Aside0.mk (below_step HB.out hb); clear HB hb; have HB := n0_; clear n0_)
        | ((with_reducible refine gate_dst (N := 227) rfl ?_); (try (refine gate_guard (by rfl) ?_; dsimp only)); refine Kd.R_lit k33 _ 33 ?hg (N := 227) ?hd (xs := ([⟨1, (⟨#[97]⟩ : ByteArray), 0, 0⟩, ⟨5, (⟨#[10]⟩ : ByteArray), 0, 0⟩] : List S33)) (inner := [.int .u8 1, .string (⟨#[97]⟩ : ByteArray), .int .i64 0, .int .i64 0, .int .u8 5, .string (⟨#[10]⟩ : ByteArray), .int .i64 0, .int .i64 0]) (ok := fun _ => True) (okp := fun _ => True) ?hr ?hp (fun _ hk => hk) trivial (Below.refl _ _) (Nat.le_refl _) (by simp) ?_; (case hd => rfl); (case hg => rfl); (case hr => first | (go_simp; done) | (go_simp; rfl)); (case hp => exact (Reps.c4 (show Kd.M k33 _ _ _ (⟨1, (⟨#[97]⟩ : ByteArray), 0, 0⟩ : S33) [.int .u8 1, .string (⟨#[97]⟩ : ByteArray), .int .i64 0, .int .i64 0] from (k33_mkM _ _ _ (⟨1, (⟨#[97]⟩ : ByteArray), 0, 0⟩ : S33))) (Reps.c4 (show Kd.M k33 _ _ _ (⟨5, (⟨#[10]⟩ : ByteArray), 0, 0⟩ : S33) [.int .u8 5, .string (⟨#[10]⟩ : ByteArray), .int .i64 0, .int .i64 0] from (k33_mkM _ _ _ (⟨5, (⟨#[10]⟩ : ByteArray), 0, 0⟩ : S33))) (Reps.none _ _)))); intro v w1 ho hb hg_ hnew_; clear hg_ hnew_; rw [← Ny227.out] at ho; obtain ⟨A1, co1, rfl⟩ := Kd.R_slice ho; (try clear HX); have HX := Aside0.mk ho; clear ho; have n0_ := Aside0.mk (below_step HB.out hb); clear HB hb; have HB := n0_; clear n0_)
        | ((with_reducible refine gate_dst (N := 231) rfl ?_); (try (refine gate_guard (by rfl) ?_; dsimp only)); refine Kd.R_lit k33 _ 33 ?hg (N := 231) ?hd (xs := ([⟨1, (⟨#[97, 97, 97, 97, 97, 97, 97, 97, 97, 97, 97, 97, 97, 97, 97, 97, 97, 97, 97, 97, 97, 97, 97, 97]⟩ : ByteArray), 0, 0⟩] : List S33)) (inner := [.int .u8 1, .string (⟨#[97, 97, 97, 97, 97, 97, 97, 97, 97, 97, 97, 97, 97, 97, 97, 97, 97, 97, 97, 97, 97, 97, 97, 97]⟩ : ByteArray), .int .i64 0, .int .i64 0]) (ok := fun _ => True) (okp := fun _ => True) ?hr ?hp (fun _ hk => hk) trivial (Below.refl _ _) (Nat.le_refl _) (by simp) ?_; (case hd => rfl); (case hg => rfl); (case hr => first | (go_simp; done) | (go_simp; rfl)); (case hp => exact (Reps.c4 (show Kd.M k33 _ _ _ (⟨1, (⟨#[97, 97, 97, 97, 97, 97, 97, 97, 97, 97, 97, 97, 97, 97, 97, 97, 97, 97, 97, 97, 97, 97, 97, 97]⟩ : ByteArray), 0, 0⟩ : S33) [.int .u8 1, .string (⟨#[97, 97, 97, 97, 97, 97, 97, 97, 97, 97, 97, 97, 97, 97, 97, 97, 97, 97, 97, 97, 97, 97, 97, 97]⟩ : ByteArray), .int .i64 0, .int .i64 0] from (k33_mkM _ _ _ (⟨1, (⟨#[97, 97, 97, 97, 97, 97, 97, 97, 97, 97, 97, 97, 97, 97, 97, 97, 97, 97, 97, 97, 97, 97, 97, 97]⟩ : ByteArray), 0, 0⟩ : S33))) (Reps.none _ _))); intro v w1 ho hb hg_ hnew_; clear hg_ hnew_; rw [← Ny231.out] at ho; obtain ⟨A1, co1, rfl⟩ := Kd.R_slice ho; (try clear HX); have HX := Aside0.mk ho; clear ho; have n0_ := Aside0.mk (below_step HB.out hb); clear HB hb; have HB := n0_; clear n0_)
        | ((with_reducible refine gate_dst (N := 258) rfl ?_); (try (refine gate_guard (by rfl) ?_; dsimp only)); refine Kd.R_lit k33 _ 33 ?hg (N := 258) ?hd (xs := ([⟨1, (⟨#[97]⟩ : ByteArray), 0, 0⟩, ⟨4, (⟨#[46]⟩ : ByteArray), 0, 0⟩, ⟨1, (⟨#[98]⟩ : ByteArray), 0, 0⟩, ⟨4, (⟨#[64]⟩ : ByteArray), 0, 0⟩, ⟨4, (⟨#[47]⟩ : ByteArray), 0, 0⟩] : List S33)) (inner := [.int .u8 1, .string (⟨#[97]⟩ : ByteArray), .int .i64 0, .int .i64 0, .int .u8 4, .string (⟨#[46]⟩ : ByteArray), .int .i64 0, .int .i64 0, .int .u8 1, .string (⟨#[98]⟩ : ByteArray), .int .i64 0, .int .i64 0, .int .u8 4, .string (⟨#[64]⟩ : ByteArray), .int .i64 0, .int .i64 0, .int .u8 4, .string (⟨#[47]⟩ : ByteArray), .int .i64 0, .int .i64 0]) (ok := fun _ => True) (okp := fun _ => True) ?hr ?hp (fun _ hk => hk) trivial (Below.refl _ _) (Nat.le_refl _) (by simp) ?_; (case hd => rfl); (case hg => rfl); (case hr => first | (go_simp; done) | (go_simp; rfl)); (case hp => exact (Reps.c4 (show Kd.M k33 _ _ _ (⟨1, (⟨#[97]⟩ : ByteArray), 0, 0⟩ : S33) [.int .u8 1, .string (⟨#[97]⟩ : ByteArray), .int .i64 0, .int .i64 0] from (k33_mkM _ _ _ (⟨1, (⟨#[97]⟩ : ByteArray), 0, 0⟩ : S33))) (Reps.c4 (show Kd.M k33 _ _ _ (⟨4, (⟨#[46]⟩ : ByteArray), 0, 0⟩ : S33) [.int .u8 4, .string (⟨#[46]⟩ : ByteArray), .int .i64 0, .int .i64 0] from (k33_mkM _ _ _ (⟨4, (⟨#[46]⟩ : ByteArray), 0, 0⟩ : S33))) (Reps.c4 (show Kd.M k33 _ _ _ (⟨1, (⟨#[98]⟩ : ByteArray), 0, 0⟩ : S33) [.int .u8 1, .string (⟨#[98]⟩ : ByteArray), .int .i64 0, .int .i64 0] from (k33_mkM _ _ _ (⟨1, (⟨#[98]⟩ : ByteArray), 0, 0⟩ : S33))) (Reps.c4 (show Kd.M k33 _ _ _ (⟨4, (⟨#[64]⟩ : ByteArray), 0, 0⟩ : S33) [.int .u8 4, .string (⟨#[64]⟩ : ByteArray), .int .i64 0, .int .i64 0] from (k33_mkM _ _ _ (⟨4, (⟨#[64]⟩ : ByteArray), 0, 0⟩ : S33))) (Reps.c4 (show Kd.M k33 _ _ _ (⟨4, (⟨#[47]⟩ : ByteArray), 0, 0⟩ : S33) [.int .u8 4, .string (⟨#[47]⟩ : ByteArray), .int .i64 0, .int .i64 0] from (k33_mkM _ _ _ (⟨4, (⟨#[47]⟩ : ByteArray), 0, 0⟩ : S33))) (Reps.none _ _))))))); intro v w1 ho hb hg_ hnew_; clear hg_ hnew_; rw [← Ny258.out] at ho; obtain ⟨A1, co1, rfl⟩ := Kd.R_slice ho; (try clear HX); have HX := Aside0.mk ho; clear ho; have n0_ := Aside0.mk (below_step HB.out hb); clear HB hb; have HB := n0_; clear n0_)
        | (go_at_call 19; (with_reducible refine (lexer_Print.calls _ _ y67 ⟨#[]⟩ 8 _ (HL.out.below HB.out) (Kd.R_reads' HX.out).2.2 (Kd.R_reads' HX.out).2.1 HF67.out).mono ?_); rintro e w1 ⟨rfl, hb⟩; have n0_ := Aside0.mk (below_step HB.out hb); clear HB hb; have HB := n0_; clear n0_)
        | (go_at_call 19; (with_reducible refine (lexer_Print.calls _ _ y73 ⟨#[]⟩ 8 _ (HL.out.below HB.out) (Kd.R_reads' HX.out).2.2 (Kd.R_reads' HX.out).2.1 HF73.out).mono ?_); rintro e w1 ⟨rfl, hb⟩; have n0_ := Aside0.mk (below_step HB.out hb); clear HB hb; have HB := n0_; clear n0_)
        | (go_at_call 19; (with_reducible refine (lexer_Print.calls _ _ y79 ⟨#[]⟩ 8 _ (HL.out.below HB.out) (Kd.R_reads' HX.out).2.2 (Kd.R_reads' HX.out).2.1 HF79.out).mono ?_); rintro e w1 ⟨rfl, hb⟩; have n0_ := Aside0.mk (below_step HB.out hb); clear HB hb; have HB := n0_; clear n0_)
        | (go_at_call 19; (with_reducible refine (lexer_Print.calls _ _ y93 T93 0 _ (HL.out.below HB.out) (Kd.R_reads' HX.out).2.2 (Kd.R_reads' HX.out).2.1 HF93.out).mono ?_); rintro e w1 ⟨rfl, hb⟩; have n0_ := Aside0.mk (below_step HB.out hb); clear HB hb; have HB := n0_; clear n0_)
        | (go_at_call 19; (with_reducible refine (lexer_Print.calls _ _ y84 ⟨#[]⟩ 4 _ (HL.out.below HB.out) (Kd.R_reads' HX.out).2.2 (Kd.R_reads' HX.out).2.1 HF84.out).mono ?_); rintro e w1 ⟨rfl, hb⟩; have n0_ := Aside0.mk (below_step HB.out hb); clear HB hb; have HB := n0_; clear n0_)
        | (go_at_call 21; (with_reducible refine (name_c _ _).mono ?_); rintro e w1 ⟨rfl, hb⟩; have n0_ := Aside0.mk (below_step HB.out hb); clear HB hb; have HB := n0_; clear n0_)
        | (go_at_call 22; (with_reducible refine (mark_c _ _).mono ?_); rintro e w1 ⟨rfl, hb⟩; have n0_ := Aside0.mk (below_step HB.out hb); clear HB hb; have HB := n0_; clear n0_)
        | (go_at_call 24; (with_reducible refine (number_c _ _ _).mono ?_); rintro e w1 ⟨rfl, hb⟩; have n0_ := Aside0.mk (below_step HB.out hb); clear HB hb; have HB := n0_; clear n0_)
        | (go_at_call 18; (with_reducible refine (lexer_Lines.calls _ _ y101 _ _ (Kd.R_reads' HX.out).2.2 (Kd.R_reads' HX.out).2.1 HF101.out).mono ?_); rintro e w1 ⟨v, rfl, hs, hb⟩; obtain ⟨gl, cl, rfl, _, _, _⟩ := Kd.S_form hs (by decide); have hlC := (Kd.S_reads' hs).2.2; obtain ⟨ad1, A1, c1, e1, hl1, _, _⟩ := at_L4 hlC 0 (by decide) (by decide); cases e1; obtain ⟨ad2, A2, c2, e2, hl2, _, _⟩ := at_L4 hlC 1 (by decide) (by decide); cases e2; obtain ⟨ad3, A3, c3, e3, hl3, _, _⟩ := at_L4 hlC 2 (by decide) (by decide); cases e3; have k1 : w1.cell? ⟨gl, 0, none⟩ = some (.slice A1 1 c1) := (by have h := hl1; rw [show (0 : Int).toNat = 0 from rfl, add_plain] at h; exact h); have k2 : w1.cell? ⟨gl, 1, none⟩ = some (.slice A2 0 c2) := (by have h := hl2; rw [show (1 : Int).toNat = 1 from rfl, add_plain] at h; exact h); have k3 : w1.cell? ⟨gl, 2, none⟩ = some (.slice A3 1 c3) := (by have h := hl3; rw [show (2 : Int).toNat = 2 from rfl, add_plain] at h; exact h); clear hlC hs hl1 hl2 hl3; have n0_ := Aside0.mk (below_step HB.out hb); clear HB hb; have HB := n0_; clear n0_)
        | (go_at_call 23; (with_reducible refine (retargetlaw07_reads.calls 10 _ _ _ y184 true _ (HL.out.below HB.out) (Kd.R_reads' HX.out).2.2 (Kd.R_reads' HX.out).2.1 HF184.out).mono ?_); rintro e w1 ⟨rfl, hb⟩; have n0_ := Aside0.mk (below_step HB.out hb); clear HB hb; have HB := n0_; clear n0_)
        | (go_at_call 23; (with_reducible refine (retargetlaw07_reads.calls 10 _ _ _ y188 true _ (HL.out.below HB.out) (Kd.R_reads' HX.out).2.2 (Kd.R_reads' HX.out).2.1 HF188.out).mono ?_); rintro e w1 ⟨rfl, hb⟩; have n0_ := Aside0.mk (below_step HB.out hb); clear HB hb; have HB := n0_; clear n0_)
        | (go_at_call 23; (with_reducible refine (retargetlaw07_reads.calls 10 _ _ _ y193 true _ (HL.out.below HB.out) (Kd.R_reads' HX.out).2.2 (Kd.R_reads' HX.out).2.1 HF193.out).mono ?_); rintro e w1 ⟨rfl, hb⟩; have n0_ := Aside0.mk (below_step HB.out hb); clear HB hb; have HB := n0_; clear n0_)
        | (go_at_call 23; (with_reducible refine (retargetlaw07_reads.calls 10 _ _ _ y198 true _ (HL.out.below HB.out) (Kd.R_reads' HX.out).2.2 (Kd.R_reads' HX.out).2.1 HF198.out).mono ?_); rintro e w1 ⟨rfl, hb⟩; have n0_ := Aside0.mk (below_step HB.out hb); clear HB hb; have HB := n0_; clear n0_)
        | (go_at_call 23; (with_reducible refine (retargetlaw07_reads.calls 10 _ _ _ y227 true _ (HL.out.below HB.out) (Kd.R_reads' HX.out).2.2 (Kd.R_reads' HX.out).2.1 HF227.out).mono ?_); rintro e w1 ⟨rfl, hb⟩; have n0_ := Aside0.mk (below_step HB.out hb); clear HB hb; have HB := n0_; clear n0_)
        | (go_at_call 23; (with_reducible refine (retargetlaw07_reads.calls 10 _ _ _ y231 true _ (HL.out.below HB.out) (Kd.R_reads' HX.out).2.2 (Kd.R_reads' HX.out).2.1 HF231.out).mono ?_); rintro e w1 ⟨rfl, hb⟩; have n0_ := Aside0.mk (below_step HB.out hb); clear HB hb; have HB := n0_; clear n0_)
        | (go_at_call 23; (with_reducible refine (retargetlaw07_reads.calls 10 _ _ _ y258 true _ (HL.out.below HB.out) (Kd.R_reads' HX.out).2.2 (Kd.R_reads' HX.out).2.1 HF258.out).mono ?_); rintro e w1 ⟨rfl, hb⟩; have n0_ := Aside0.mk (below_step HB.out hb); clear HB hb; have HB := n0_; clear n0_)
        | (go_at_call 25; (with_reducible refine (retargetlaw07_fails.calls (⟨#[49, 48, 48, 48, 48, 48, 48, 48, 48, 48, 48, 48, 48, 48, 48, 48, 48, 48, 48]⟩ : ByteArray) 0 true _ (HL.out.below HB.out) fails_0).mono ?_); rintro e w1 ⟨rfl, hb⟩; have n0_ := Aside0.mk (below_step HB.out hb); clear HB hb; have HB := n0_; clear n0_)
        | (go_at_call 25; (with_reducible refine (retargetlaw07_fails.calls (⟨#[48, 120, 49, 48, 48, 48, 48, 48, 48, 48, 48, 48, 48, 48, 48, 48, 48, 48]⟩ : ByteArray) 0 true _ (HL.out.below HB.out) fails_1).mono ?_); rintro e w1 ⟨rfl, hb⟩; have n0_ := Aside0.mk (below_step HB.out hb); clear HB hb; have HB := n0_; clear n0_)
        | (go_at_call 25; (with_reducible refine (retargetlaw07_fails.calls (⟨#[48, 120, 70]⟩ : ByteArray) 0 true _ (HL.out.below HB.out) fails_2).mono ?_); rintro e w1 ⟨rfl, hb⟩; have n0_ := Aside0.mk (below_step HB.out hb); clear HB hb; have HB := n0_; clear n0_)
        | (go_at_call 25; (with_reducible refine (retargetlaw07_fails.calls (⟨#[48, 120]⟩ : ByteArray) 0 true _ (HL.out.below HB.out) fails_3).mono ?_); rintro e w1 ⟨rfl, hb⟩; have n0_ := Aside0.mk (below_step HB.out hb); clear HB hb; have HB := n0_; clear n0_)
        | (go_at_call 25; (with_reducible refine (retargetlaw07_fails.calls (⟨#[45]⟩ : ByteArray) 0 true _ (HL.out.below HB.out) fails_4).mono ?_); rintro e w1 ⟨rfl, hb⟩; have n0_ := Aside0.mk (below_step HB.out hb); clear HB hb; have HB := n0_; clear n0_)
        | (go_at_call 25; (with_reducible refine (retargetlaw07_fails.calls (⟨#[53, 32, 45, 32, 54]⟩ : ByteArray) 2 true _ (HL.out.below HB.out) fails_5).mono ?_); rintro e w1 ⟨rfl, hb⟩; have n0_ := Aside0.mk (below_step HB.out hb); clear HB hb; have HB := n0_; clear n0_)
        | (go_at_call 25; (with_reducible refine (retargetlaw07_fails.calls (⟨#[45, 48, 120, 49]⟩ : ByteArray) 0 true _ (HL.out.below HB.out) fails_6).mono ?_); rintro e w1 ⟨rfl, hb⟩; have n0_ := Aside0.mk (below_step HB.out hb); clear HB hb; have HB := n0_; clear n0_)
        | (go_at_call 25; (with_reducible refine (retargetlaw07_fails.calls (⟨#[49, 95]⟩ : ByteArray) 0 true _ (HL.out.below HB.out) fails_7).mono ?_); rintro e w1 ⟨rfl, hb⟩; have n0_ := Aside0.mk (below_step HB.out hb); clear HB hb; have HB := n0_; clear n0_)
        | (go_at_call 25; (with_reducible refine (retargetlaw07_fails.calls (⟨#[97, 97, 97, 97, 97, 97, 97, 97, 97, 97, 97, 97, 97, 97, 97, 97, 97, 97, 97, 97, 97, 97, 97, 97, 97]⟩ : ByteArray) 0 true _ (HL.out.below HB.out) fails_8).mono ?_); rintro e w1 ⟨rfl, hb⟩; have n0_ := Aside0.mk (below_step HB.out hb); clear HB hb; have HB := n0_; clear n0_)
        | (go_at_call 25; (with_reducible refine (retargetlaw07_fails.calls (⟨#[95, 97]⟩ : ByteArray) 0 true _ (HL.out.below HB.out) fails_9).mono ?_); rintro e w1 ⟨rfl, hb⟩; have n0_ := Aside0.mk (below_step HB.out hb); clear HB hb; have HB := n0_; clear n0_)
        | (go_at_call 25; (with_reducible refine (retargetlaw07_fails.calls (⟨#[97, 9, 98]⟩ : ByteArray) 1 true _ (HL.out.below HB.out) fails_10).mono ?_); rintro e w1 ⟨rfl, hb⟩; have n0_ := Aside0.mk (below_step HB.out hb); clear HB hb; have HB := n0_; clear n0_)
        | (go_at_call 25; (with_reducible refine (retargetlaw07_fails.calls (⟨#[32, 34, 120]⟩ : ByteArray) 1 true _ (HL.out.below HB.out) fails_11).mono ?_); rintro e w1 ⟨rfl, hb⟩; have n0_ := Aside0.mk (below_step HB.out hb); clear HB hb; have HB := n0_; clear n0_)
        | (go_at_call 25; (with_reducible refine (retargetlaw07_fails.calls (⟨#[34, 120, 10, 121, 34]⟩ : ByteArray) 0 true _ (HL.out.below HB.out) fails_12).mono ?_); rintro e w1 ⟨rfl, hb⟩; have n0_ := Aside0.mk (below_step HB.out hb); clear HB hb; have HB := n0_; clear n0_)
        | (go_at_call 25; (with_reducible refine (retargetlaw07_fails.calls (⟨#[128]⟩ : ByteArray) 0 true _ (HL.out.below HB.out) fails_13).mono ?_); rintro e w1 ⟨rfl, hb⟩; have n0_ := Aside0.mk (below_step HB.out hb); clear HB hb; have HB := n0_; clear n0_)
        | (go_at_call 14; (with_reducible refine (retargetlaw07_alive.calls 10 true _ (HL.out.below HB.out) Pure.alive_ten).mono ?_); rintro e w1 ⟨rfl, hb⟩; have n0_ := Aside0.mk (below_step HB.out hb); clear HB hb; have HB := n0_; clear n0_)
        | fail)
      go_ret
      exact ⟨rfl, HB.out⟩
end PLex
end Go.Proofs.YtbaojlfnbfbjmaaDoor
