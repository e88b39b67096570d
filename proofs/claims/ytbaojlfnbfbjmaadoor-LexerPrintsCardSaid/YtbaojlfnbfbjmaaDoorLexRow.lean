/- A row of tokens that comes in, opened: what its cells hold. -/
import Derived.Test.YtbaojlfnbfbjmaaDoorPLex0
import Derived.ChangeArms
import Derived.DataElems
import Derived.OpenShut
import Derived.Lib.SmallJoins
namespace Go.Proofs.YtbaojlfnbfbjmaaDoor
/-- What a row of tokens that comes in is known to keep to: nothing is asked. -/
def PLex.XOk33 (_ : List PLex.S33) : Prop := True
end Go.Proofs.YtbaojlfnbfbjmaaDoor
namespace Go.Proofs.YtbaojlfnbfbjmaaDoor.Lex
open Go Go.RowKit Go.Proofs Go.Proofs.YtbaojlfnbfbjmaaDoor.PLex Go.Proofs.YtbaojlfnbfbjmaaDoorW.PrintWords
theorem cells4 {w : World} {base : Nat} {a : Addr} {c0 c1 c2 c3 : Value} (h : w.cells? base a 4 = some [c0, c1, c2, c3]) :
    w.cell? (a.add 0) = some c0 ∧ w.cell? (a.add 1) = some c1 ∧ w.cell? (a.add 2) = some c2 ∧ w.cell? (a.add 3) = some c3 := by
  unfold World.cells? at h
  split at h
  · rw [show List.range 4 = [0, 1, 2, 3] from rfl] at h
    simp only [List.mapM_cons, List.mapM_nil] at h
    cases h0 : w.cell? (a.add 0) with
    | none => simp [h0] at h
    | some x0 =>
      cases h1 : w.cell? (a.add 1) with
      | none => simp [h0, h1] at h
      | some x1 =>
        cases h2 : w.cell? (a.add 2) with
        | none => simp [h0, h1, h2] at h
        | some x2 =>
          cases h3 : w.cell? (a.add 3) with
          | none => simp [h0, h1, h2, h3] at h
          | some x3 =>
            simp [h0, h1, h2, h3] at h
            obtain ⟨rfl, rfl, rfl, rfl⟩ := h
            exact ⟨rfl, rfl, rfl, rfl⟩
  · cases h
set_option maxRecDepth 100000 in
theorem open_toks {H : Type} {enc : TypeId × Value → H} {W : World} {base : Nat} {spare : Nat → Bool} {held : Bool} {fuel : Nat} {cs : List Value} {x : DataW H × List MemPlace} (h : DataW.trod enc Tryd.prog W base spare held fuel 22 cs = some x) :
    ∃ (A : Option Addr) (c : Nat) (l : List S33), cs = [.slice A l.length c] ∧ l.length ≤ c ∧ Kd.C k33 W A l.length l := by
  rcases DataW.trod_slice Tryd.underlying22 h with ⟨rfl, _⟩ | ⟨a, len, cap, elems, rest, n, _, rfl, _, _, hl, hm, hlen, hel, _, _⟩
  · exact ⟨none, 0, [], rfl, Nat.le_refl _, rfl, by simp, fun hn => absurd hn (by simp)⟩
  · have c33 : Tryd.prog.cellsOf 33 = 4 := by kernel_rfl
    have each : ∀ i : Nat, i < len → ∃ y : S33, W.cell? (a.add (i * 4)) = some (.int .u8 y.f0) ∧ W.cell? (a.add (i * 4 + 1)) = some (.string y.f1) ∧ W.cell? (a.add (i * 4 + 2)) = some (.int .i64 y.f2) ∧ W.cell? (a.add (i * 4 + 3)) = some (.int .i64 y.f3) := by
      intro i hi
      have h1 := hel i hi
      rw [c33, List.getElem?_eq_getElem (by omega), Option.bind_eq_some_iff] at h1
      obtain ⟨cs', hcs, hy⟩ := h1
      obtain ⟨y0, y1, y2, y3, m, _, hlc, e0, e1, e2, e3⟩ := Go.Joins.trod_struct4 Tryd.underlying33 hy
      rw [c33] at hlc
      match cs', hlc with
      | [k0, k1, k2, k3], _ =>
        obtain ⟨z0, z1, z2, z3⟩ := cells4 hcs
        rw [Addr.add_add] at z0 z1 z2 z3
        obtain ⟨n0, q0, _⟩ := DataW.trod_int Tryd.underlying5 e0
        obtain ⟨s1, q1, _⟩ := DataW.trod_string Tryd.underlying9 e1
        obtain ⟨n2, q2, _⟩ := DataW.trod_int Tryd.underlying3 e2
        obtain ⟨n3, q3, _⟩ := DataW.trod_int Tryd.underlying3 e3
        have r0 : k0 = .int .u8 n0 := by injection q0
        have r1 : k1 = .string s1 := by injection q1
        have r2 : k2 = .int .i64 n2 := by injection q2
        have r3 : k3 = .int .i64 n3 := by injection q3
        subst r0
        subst r1
        subst r2
        subst r3
        exact ⟨⟨n0, s1, n2, n3⟩, z0, z1, z2, z3⟩
    have key : ∃ l : List S33, l.length = len ∧ ∀ (i : Nat) (y : S33), l[i]? = some y → W.cell? (a.add (i * 4)) = some (.int .u8 y.f0) ∧ W.cell? (a.add (i * 4 + 1)) = some (.string y.f1) ∧ W.cell? (a.add (i * 4 + 2)) = some (.int .i64 y.f2) ∧ W.cell? (a.add (i * 4 + 3)) = some (.int .i64 y.f3) := by
      refine ⟨(List.range len).map fun i => if hi : i < len then Classical.choose (each i hi) else ⟨0, ⟨#[]⟩, 0, 0⟩, by simp, ?_⟩
      intro i y hy
      rw [List.getElem?_map, Option.map_eq_some_iff] at hy
      obtain ⟨k, hk, rfl⟩ := hy
      obtain ⟨hlt, rfl⟩ := List.getElem?_eq_some_iff.1 hk
      rw [List.length_range] at hlt
      simp only [List.getElem_range]
      rw [dif_pos hlt]
      exact Classical.choose_spec (each i hlt)
    obtain ⟨l, hll, hcell⟩ := key
    subst hll
    refine ⟨some a, cap, l, rfl, hl, rfl, ?_, fun _ => ⟨a, rfl, fun j y hj => ⟨[.int .u8 y.f0, .string y.f1, .int .i64 y.f2, .int .i64 y.f3], rfl, k33.K_of_M (k33_mkM W 0 (fun _ => True) y), ?_⟩⟩⟩
    · have : maxLen = 9223372036854775807 := rfl
      omega
    · intro i u hu
      obtain ⟨z0, z1, z2, z3⟩ := hcell j y hj
      match i, hu with
      | 0, hu => cases hu; exact z0
      | 1, hu => cases hu; exact z1
      | 2, hu => cases hu; exact z2
      | 3, hu => cases hu; exact z3
end Go.Proofs.YtbaojlfnbfbjmaaDoor.Lex
