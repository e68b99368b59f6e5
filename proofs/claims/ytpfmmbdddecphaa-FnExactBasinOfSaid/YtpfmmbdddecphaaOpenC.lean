/- Arguments that are cells or whole numbers, opened. -/
import Derived.Test.YtpfmmbdddecphaaOpen
namespace Go.Proofs.Ytpfmmbdddecphaa
open Go.RowKit Go.Sort Go.ChangeShapes Go.WideShapes Go.Deep
set_option linter.unusedVariables false
set_option linter.unusedSimpArgs false

theorem i64_of {n : Int} (h : (Lit.int .i64 n).wf = true) : -9223372036854775808 ≤ n ∧ n ≤ 9223372036854775807 := by
  simp only [Lit.wf, Bool.and_eq_true, decide_eq_true_eq] at h
  exact h
section
variable {H : Type} {enc : TypeId × Value → H} {W : World}
set_option maxRecDepth 100000 in
/-- A cell that came in. -/
theorem open_cell {base : Nat} {v : Value} {d : DataW H} {p : List MemPlace} (hv : Value.okWide Try.prog W .any base 40 v) (h : DataW.Trod enc Try.prog W 0 (fun _ => true) true 40 v d p) :
    ∃ x y : Int, v = cv (x, y) ∧ (-128 ≤ x ∧ x ≤ 127) ∧ -128 ≤ y ∧ y ≤ 127 := by
  unfold Value.okWide at hv
  rw [Try.underlying40] at hv
  obtain ⟨cs, rfl, hsz, ts, hts, _, hcell⟩ := hv
  have hsz : cs.size = 2 := hsz.trans (by kernel_rfl)
  have e : Try.prog.cellTypes Try.prog.depth 40 = some [22, 22] := by kernel_rfl
  rw [e] at hts
  injection hts with hts
  subst hts
  obtain ⟨u0, hu0, k0⟩ := hcell 0 cs[0] (by simp)
  obtain ⟨u1, hu1, k1⟩ := hcell 1 cs[1] (by simp)
  have hu0 : u0 = 22 := by injection hu0 with hu0; exact hu0.symm
  have hu1 : u1 = 22 := by injection hu1 with hu1; exact hu1.symm
  subst hu0 hu1
  obtain ⟨x, hx, rx⟩ := cell_int Try.underlying22 k0
  obtain ⟨y, hy, ry⟩ := cell_int Try.underlying22 k1
  refine ⟨x, y, ?_, i8_of rx, i8_of ry⟩
  show Value.agg cs = Value.agg _
  congr 1
  refine arr_eq (xs := [.int .i8 x, .int .i8 y]) hsz (fun i hi => ?_)
  match i, hi with
  | 0, _ => rw [Array.getElem?_eq_getElem (by omega), hx]; rfl
  | 1, _ => rw [Array.getElem?_eq_getElem (by omega), hy]; rfl
end
end Go.Proofs.Ytpfmmbdddecphaa
