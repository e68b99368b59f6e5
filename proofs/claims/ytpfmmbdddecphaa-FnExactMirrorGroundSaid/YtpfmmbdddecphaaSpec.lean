/- The reference's small functions on grounds. -/
import Derived.Test.YtpfmmbdddecphaaLevP
namespace Go.Proofs.Ytpfmmbdddecphaa
open Go.RowKit Go.Sort
set_option linter.unusedVariables false
set_option linter.unusedSimpArgs false

theorem Rd.at0 {w : World} {b : Nat} {xs : List Value} (h : Rd w (some ⟨b, 0, none⟩) xs) {j : Nat} {u : Value} (hu : xs[j]? = some u) : w.cell? ⟨b, j, none⟩ = some u := by
  have := h.2 b 0 rfl j u hu
  rwa [Nat.zero_add] at this
section
variable {P : Program} {o : Oper} {a : Act} {w : World}
theorem Q_ldR {K : Act → Prop} (ty : TypeId) (x : Operand) (ho : o.op = .load ty x) (b off : Nat) (hx : a.eval x = .pointer (some ⟨b, off, none⟩))
    (xs : List Value) (hr : Rd w (some ⟨b, 0, none⟩) xs) (v : Value) (hag : ∀ w, (isAgg ty).run P w = .ok false w) (hv : xs[off]? = some v) (h : K (a.put o.dst v)) : o.quiet P a (mixC w) K :=
  Q_val (fun w' ⟨p, hp⟩ => by subst hp; exact exec_load1 ty x ho _ hx (hag _) v ((hr.below (mix_below _ _ _)).at0 hv)) h
end

set_option maxHeartbeats 400000 in
theorem l00In_any (n low high : Int) (w : World) :
    Calls Try.prog 65 #[.int .i64 n, .int .i64 low, .int .i64 high] w fun e w' => e = .returned (.bool (within n low high)) ∧ w = w' := by
  go_enter Try.func65, Try.ntmps65
  go_wp2
  all_goals (go_ret; refine ⟨ret_b ?_, rfl⟩; unfold within; simp; omega)

set_option maxHeartbeats 400000 in
theorem l00Max_any (a b : Int) (w : World) :
    Calls Try.prog 97 #[.int .i64 a, .int .i64 b] w fun e w' => e = .returned (.int .i64 (max a b)) ∧ w = w' := by
  go_enter Try.func97, Try.ntmps97
  go_wp2
  all_goals (go_ret; exact ⟨ret_i (by omega), rfl⟩)

set_option maxRecDepth 100000 in
set_option maxHeartbeats 1000000 in
theorem l04Is_any (G : Gnd) (hG : G.Ok) (v : Value) (gb : Nat) (x y : Int) (h3 : -128 ≤ x ∧ x ≤ 127) (h4 : -128 ≤ y ∧ y ≤ 127) (w : World) (hg : Rd w (some ⟨gb, 0, none⟩) (gcs G v)) :
    Calls Try.prog 59 #[.pointer (some ⟨gb, 0, none⟩), cv (x, y)] w fun e w' => e = .returned (.bool (isCellB G.wide G.high (x, y))) ∧ Below w.heap.size w w' := by
  have S := St.refl w
  have b1 := hG.wide
  have b2 := hG.high
  cases hx : within x 0 (G.wide - 1) with
  | true =>
    have hc1 := fun w => l00In_any x 0 (G.wide - 1) w
    rw [hx] at hc1
    have HE : Hid (isCellB G.wide G.high (x, y) = within y 0 (G.high - 1)) := by show _ = _; simp [isCellB, hx]
    go_enter Try.func59, Try.ntmps59
    go_wp2_with (first | (refine W_box S rfl _ _ rfl (.agg #[.int .i8 x, .int .i8 y]) rfl ?_; clear S; intro bc w' S; change St _ _ (EB _ _ ([.int .i8 x, .int .i8 y]) :: _) at S))
    have hgs := hg.st S
    refine wp_region_mix (by kernel_rfl) (by kernel_rfl) ?_
    repeat (first
      | go_big_quiet_skip | (go_big_quiet_want; refine Q_load1 S _ _ rfl _ _ rfl 0 _ _ rfl _ Try.isAgg22 rfl ?_; simp only [Act.put, List.setIfInBounds_toArray, List.set_cons_succ, List.set_cons_zero]; go_big_quiet_on)
      | (go_big_quiet_want; refine Q_ldR _ _ rfl gb 0 rfl _ hgs (.int .i8 G.wide) Try.isAgg22 (rfl) ?_; simp only [Act.put, List.setIfInBounds_toArray, List.set_cons_succ, List.set_cons_zero]; go_big_quiet_on) | (go_big_quiet_want; refine Q_ldR _ _ rfl gb 1 rfl _ hgs (.int .i8 G.high) Try.isAgg22 (rfl) ?_; simp only [Act.put, List.setIfInBounds_toArray, List.set_cons_succ, List.set_cons_zero]; go_big_quiet_on) | (go_big_quiet_want; go_big_quiet_op; go_big_quiet_on)
      | (go_big_quiet_want; go_big_quiet_op; go_big_quiet_call (first | with_reducible exact calls_mix_same (hc1 _) | with_reducible exact calls_mix_same (l00In_any y 0 (G.high - 1) _))))
    refine wpQuiet_nil ?_
    intro _ hw'
    obtain ⟨⟨nq, osq⟩, rfl⟩ := hw'
    replace S := S.callB (mix_below _ nq osq)
    generalize grow (sd _ nq) osq = wq at S ⊢
    go_wp2
    go_ret
    exact ⟨ret_b HE.out.symm, S.below⟩
  | false =>
    have hc1 := fun w => l00In_any x 0 (G.wide - 1) w
    rw [hx] at hc1
    have HE : Hid (isCellB G.wide G.high (x, y) = false) := by show _ = _; simp [isCellB, hx]
    go_enter Try.func59, Try.ntmps59
    go_wp2_with (first | (refine W_box S rfl _ _ rfl (.agg #[.int .i8 x, .int .i8 y]) rfl ?_; clear S; intro bc w' S; change St _ _ (EB _ _ ([.int .i8 x, .int .i8 y]) :: _) at S))
    have hgs := hg.st S
    refine wp_region_mix (by kernel_rfl) (by kernel_rfl) ?_
    repeat (first
      | go_big_quiet_skip | (go_big_quiet_want; refine Q_load1 S _ _ rfl _ _ rfl 0 _ _ rfl _ Try.isAgg22 rfl ?_; simp only [Act.put, List.setIfInBounds_toArray, List.set_cons_succ, List.set_cons_zero]; go_big_quiet_on)
      | (go_big_quiet_want; refine Q_ldR _ _ rfl gb 0 rfl _ hgs (.int .i8 G.wide) Try.isAgg22 (rfl) ?_; simp only [Act.put, List.setIfInBounds_toArray, List.set_cons_succ, List.set_cons_zero]; go_big_quiet_on) | (go_big_quiet_want; go_big_quiet_op; go_big_quiet_on)
      | (go_big_quiet_want; go_big_quiet_op; go_big_quiet_call (first | with_reducible exact calls_mix_same (hc1 _))))
    refine wpQuiet_nil ?_
    intro _ hw'
    obtain ⟨⟨nq, osq⟩, rfl⟩ := hw'
    replace S := S.callB (mix_below _ nq osq)
    generalize grow (sd _ nq) osq = wq at S ⊢
    go_wp2
    go_ret
    exact ⟨ret_b HE.out.symm, S.below⟩

def beforeB (a b : Pt) : Bool := decide (a.2 < b.2) || (decide (a.2 = b.2) && decide (a.1 < b.1))
theorem before_cmp (a b : Pt) : beforeB a b = decide (cmpC a b < 0) := by
  unfold beforeB cmpC cmpI
  (repeat' split) <;> simp <;> omega
set_option maxRecDepth 100000 in
set_option maxHeartbeats 1000000 in
theorem l04Before_any (a b : Pt) (w : World) :
    Calls Try.prog 112 #[cv a, cv b] w fun e w' => e = .returned (.bool (beforeB a b)) ∧ Below w.heap.size w w' := by
  obtain ⟨a1, a2⟩ := a
  obtain ⟨b1, b2⟩ := b
  unfold cv
  by_cases h1 : a2 < b2
  · have HE : Hid (beforeB (a1, a2) (b1, b2) = true) := by show _ = _; simp [beforeB, h1]
    go_enter Try.func112, Try.ntmps112
    go_wp2
    go_ret
    exact ⟨ret_b HE.out.symm, by go_grown⟩
  · by_cases h2 : a2 = b2
    · subst h2
      have HE : Hid (beforeB (a1, a2) (b1, a2) = decide (a1 < b1)) := by show _ = _; simp [beforeB]
      go_enter Try.func112, Try.ntmps112
      go_wp2
      go_ret
      exact ⟨ret_b HE.out.symm, by go_grown⟩
    · have h3 : (a2 == b2) = false := by simpa using h2
      have HE : Hid (beforeB (a1, a2) (b1, b2) = false) := by show _ = _; simp [beforeB, h1, h2] <;> omega
      go_enter Try.func112, Try.ntmps112
      go_wp2
      go_ret
      exact ⟨ret_b HE.out.symm, by go_grown⟩
end Go.Proofs.Ytpfmmbdddecphaa
