/- Contracts of the small functions: within, unless, isCell, isPoint, frame, compare. -/
import Derived.Test.YtpfmmbdddecphaaOps
namespace Go.Proofs.Ytpfmmbdddecphaa
open Go.RowKit Go.Sort
set_option linter.unusedVariables false
set_option linter.unusedSimpArgs false

def within (n low high : Int) : Bool := decide (low ≤ n) && decide (n ≤ high)
theorem within_t {n low high : Int} : within n low high = true ↔ low ≤ n ∧ n ≤ high := by simp [within]
theorem within_f {n low high : Int} : within n low high = false ↔ n < low ∨ high < n := by simp [within]; omega

set_option maxHeartbeats 400000 in
theorem within_any (n low high : Int) (w : World) :
    Calls Try.prog 68 #[.int .i64 n, .int .i64 low, .int .i64 high] w fun e w' => e = .returned (.bool (within n low high)) ∧ w = w' := by
  go_enter Try.func68, Try.ntmps68
  go_wp2
  all_goals (go_ret; refine ⟨ret_b ?_, rfl⟩; unfold within; simp; omega)

def unlessI (b : Bool) (n : Int) : Int := if b = true then 0 else n
set_option maxHeartbeats 400000 in
theorem unless_any (b : Bool) (n : Int) (w : World) :
    Calls Try.prog 104 #[.bool b, .int .i64 n] w fun e w' => e = .returned (.int .i64 (unlessI b n)) ∧ w = w' := by
  cases b
  all_goals
    go_enter Try.func104, Try.ntmps104
    go_wp2
    go_ret
    exact ⟨ret_i (by simp [unlessI]), rfl⟩

def isCellB (wide high : Int) (c : Pt) : Bool := within c.1 0 (wide - 1) && within c.2 0 (high - 1)

set_option maxHeartbeats 400000 in
theorem isCell_any (wd hi x y : Int) (s : Value) (h1 : -128 ≤ wd ∧ wd ≤ 127) (h2 : -128 ≤ hi ∧ hi ≤ 127) (h3 : -128 ≤ x ∧ x ≤ 127) (h4 : -128 ≤ y ∧ y ≤ 127) (w : World) :
    Calls Try.prog 121 #[.agg #[.int .i8 wd, .int .i8 hi, s], .agg #[.int .i8 x, .int .i8 y]] w fun e w' => e = .returned (.bool (isCellB wd hi (x, y))) ∧ Below w.heap.size w w' := by
  go_enter Try.func121, Try.ntmps121
  go_wp2_with (go_at_call 68; refine (within_any _ _ _ _).mono ?_; rintro e w' ⟨rfl, rfl⟩)
  all_goals (go_ret; exact ⟨ret_b (by simp_all [isCellB]), by go_grown⟩)

set_option maxHeartbeats 400000 in
theorem isNaN8_any (x : Int) (w : World) :
    Calls Try.prog 134 #[.int .i8 x] w fun e w' => e = .returned (.bool false) ∧ w = w' := by
  go_enter Try.func134, Try.ntmps134
  go_wp2
  go_ret
  exact ⟨ret_b (by simp), rfl⟩

set_option maxHeartbeats 400000 in
theorem compare8_any (x y : Int) (w : World) :
    Calls Try.prog 116 #[.int .i8 x, .int .i8 y] w fun e w' => e = .returned (.int .i64 (cmpI x y)) ∧ w = w' := by
  go_enter Try.func116, Try.ntmps116
  go_wp2_with (go_at_call 134; refine (isNaN8_any _ _).mono ?_; rintro e w' ⟨rfl, rfl⟩)
  all_goals (go_ret; refine ⟨ret_i ?_, rfl⟩; unfold cmpI; (repeat' split) <;> omega)

def or2I (a c : Int) : Int := if a = 0 then c else a
set_option maxHeartbeats 400000 in
theorem or2_any (a c : Int) (b : Nat) (w : World) (h0 : w.cell? ⟨b, 0, none⟩ = some (.int .i64 a)) (h1 : w.cell? ⟨b, 1, none⟩ = some (.int .i64 c)) :
    Calls Try.prog 115 #[.slice (some ⟨b, 0, none⟩) 2 2] w fun e w' => e = .returned (.int .i64 (or2I a c)) ∧ w = w' := by
  go_enter Try.func115, Try.ntmps115
  go_wp2
  refine wp_loop_rounds 3 ?_
  by_cases ha : a = 0
  · subst ha
    by_cases hc : c = 0
    · subst hc
      rw [rounds_succ]; go_wp2; rw [rounds_succ]; go_wp2; rw [rounds_succ]; go_wp2
      go_ret; exact ⟨ret_i (by simp [or2I]), rfl⟩
    · rw [rounds_succ]; go_wp2; rw [rounds_succ]; go_wp2
      go_ret; exact ⟨ret_i (by simp [or2I]), rfl⟩
  · rw [rounds_succ]; go_wp2
    go_ret; exact ⟨ret_i (by simp [or2I, ha]), rfl⟩

theorem cmpC_eq (a1 a2 b1 b2 : Int) : or2I (cmpI a2 b2) (cmpI a1 b1) = cmpC (a1, a2) (b1, b2) := by
  unfold cmpC or2I cmpI
  simp only []
  (repeat' split) <;> omega
set_option maxRecDepth 100000 in
set_option maxHeartbeats 400000 in
theorem compareCells_any (a b : Pt) (w : World) :
    Calls Try.prog 79 #[cv a, cv b] w fun e w' => e = .returned (.int .i64 (cmpC a b)) ∧ Below w.heap.size w w' := by
  obtain ⟨a1, a2⟩ := a
  obtain ⟨b1, b2⟩ := b
  unfold cv
  go_enter Try.func79, Try.ntmps79
  go_wp2
  refine wp_region_tail 10 (by kernel_rfl) (by kernel_rfl) ?_
  simp only [List.take_succ_cons, List.take_zero, List.drop_succ_cons, List.drop_zero]
  iterate 4 still_step
  still_call ((compare8_any _ _ _).mono fun _ _ h => ⟨h.1, h.2.symm⟩)
  iterate 4 still_step
  still_call ((compare8_any _ _ _).mono fun _ _ h => ⟨h.1, h.2.symm⟩)
  refine wpStill_nil ?_
  go_wp2_with (go_at_call 115; refine Calls.mono (or2_any (cmpI a2 b2) (cmpI a1 b1) _ _ ?_ ?_) ?_; (any_goals (simp [go_sem]; done)); rintro e w' ⟨rfl, rfl⟩)
  go_ret
  exact ⟨ret_i (cmpC_eq _ _ _ _), by go_grown⟩
end Go.Proofs.Ytpfmmbdddecphaa
