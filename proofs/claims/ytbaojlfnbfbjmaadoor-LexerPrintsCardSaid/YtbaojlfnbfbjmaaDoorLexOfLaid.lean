/- What a row's cell 'laid' gives the walks of the lexer. -/
import Derived.Test.YtbaojlfnbfbjmaaDoorRows
import Derived.Test.YtbaojlfnbfbjmaaDoorLexParse
import Derived.Lib.LaidTab
import Derived.Stop.LaidErr
import Derived.MakeChecks
import Derived.LaidMore
namespace Go.Proofs.YtbaojlfnbfbjmaaDoor.Lex
open Go Go.RowKit Go.Proofs
/-- The rows' list of variables. -/
def laids : List (String × DataW Unit) := [("math/bits.deBruijn32tab", Rows.laid_math_bits_deBruijn32tab), ("math/bits.deBruijn64tab", Rows.laid_math_bits_deBruijn64tab), ("internal/strconv.uint64pow10", Rows.laid_internal_strconv_uint64pow10), ("strconv.ErrRange", Rows.laid_strconv_ErrRange), ("strconv.ErrSyntax", Rows.laid_strconv_ErrSyntax)]
theorem gSyn : Tryd.prog.globalNamed "strconv.ErrSyntax" = some 1 := by kernel_rfl
theorem gRng : Tryd.prog.globalNamed "strconv.ErrRange" = some 2 := by kernel_rfl
theorem tSyn : (Tryd.prog.globals[1]?).map (·.type) = some 67 := by kernel_rfl
theorem tRng : (Tryd.prog.globals[2]?).map (·.type) = some 67 := by kernel_rfl
theorem tPow : (Tryd.prog.globals[3]?).map (·.type) = some 113 := by kernel_rfl
theorem tBru : (Tryd.prog.globals[5]?).map (·.type) = some 123 := by kernel_rfl
theorem cErr : Tryd.prog.cellsOf 120 = 1 := by kernel_rfl
theorem cStr : Tryd.prog.cellsOf 9 = 1 := by kernel_rfl
theorem star : "*" ++ "errors.errorString" = "*errors.errorString" := by decide
theorem rowErr (u : TypeId) (h : Tryd.prog.typeName? 3 u = some "*errors.errorString") : u = 118 :=
  typeName_ptr_named (nm := "errors.errorString") (by rw [star]; kernel_rfl) (by kernel_rfl) (by decide) u (by rw [star]; exact h)
theorem laid_of {W : World} (h : laidMetH Tryd.prog laids W) : Laid W := by
  rw [MakeChecks.laidMetH_plain _ _ _ (by kernel_rfl)] at h
  have h1 : laidMet Tryd.prog (("math/bits.deBruijn64tab", Lib.tabData .u8 bru) :: [("internal/strconv.uint64pow10", Rows.laid_internal_strconv_uint64pow10), ("strconv.ErrRange", Rows.laid_strconv_ErrRange), ("strconv.ErrSyntax", Rows.laid_strconv_ErrSyntax)]) W := h.tail
  have h2 : laidMet Tryd.prog (("internal/strconv.uint64pow10", Lib.tabData .u64 Lib.pow10Tab) :: [("strconv.ErrRange", Rows.laid_strconv_ErrRange), ("strconv.ErrSyntax", Rows.laid_strconv_ErrSyntax)]) W := h1.tail
  obtain ⟨a1, s1, hv1, -, -, -⟩ := laid_sentinel h2.tail gRng tRng Tryd.underlying67 rowErr Tryd.underlying118 Tryd.underlying120 rfl rfl Tryd.underlying9 cErr cStr
  obtain ⟨a0, s0, hv0, -, -, -⟩ := laid_sentinel h2.tail.tail gSyn tSyn Tryd.underlying67 rowErr Tryd.underlying118 Tryd.underlying120 rfl rfl Tryd.underlying9 cErr cStr
  exact ⟨Lib.tabIs_of_head gPow tPow Tryd.underlying113 Tryd.underlying94 (by kernel_rfl) (by kernel_rfl) h2,
    Lib.tabIs_of_head gBru tBru Tryd.underlying123 Tryd.underlying5 (by kernel_rfl) (by kernel_rfl) h1,
    ⟨_, by have h0 := World.var?_cell gSyn hv0 0; simpa using h0, .inr ⟨_, _, rfl⟩⟩, ⟨_, by have h0 := World.var?_cell gRng hv1 0; simpa using h0, .inr ⟨_, _, rfl⟩⟩⟩
/-- The door's own heap meets the condition. -/
theorem door_met (os : Os) (args : Array Value) : laidMetH Tryd.prog laids ((World.doorLaid Tryd.prog 4000 os).forCall (fun _ _ => 0) ⟨#[], args, []⟩).memory := by
  rw [MakeChecks.laidMetH_plain _ _ _ (by kernel_rfl)]
  exact laidMet_of_run' 8 (by kernel_rfl) (by kernel_rfl)
end Go.Proofs.YtbaojlfnbfbjmaaDoor.Lex
