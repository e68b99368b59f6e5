/- The laws' comparisons: what is the same is found the same. -/
import Derived.Test.YtpfmmbdddecphaaLaw
namespace Go.Proofs.Ytpfmmbdddecphaa
open Go.RowKit Go.Sort
set_option linter.unusedVariables false
set_option linter.unusedSimpArgs false

set_option maxRecDepth 100000 in
set_option maxHeartbeats 1000000 in
theorem eqCell_same (d : Pt) (w : World) :
    Calls Try.prog 63 #[cv d, cv d] w fun e w' => e = .returned (.bool true) ∧ Below w.heap.size w w' := by
  have S := St.refl w
  have h1 : (d.1 != d.1) = false := by simp
  have h2 : (d.2 != d.2) = false := by simp
  go_enter Try.func63, Try.ntmps63
  go_wp2_with (first
    | (refine W_box S rfl _ _ rfl (.agg #[.int .i8 d.1, .int .i8 d.2]) rfl ?_; clear S; intro ba w' S; change St _ _ (EB _ _ ([.int .i8 d.1, .int .i8 d.2]) :: _) at S)
    | (refine W_load1 S rfl _ _ rfl _ _ rfl 0 _ _ rfl _ Try.isAgg22 rfl ?_) | (refine W_load1 S rfl _ _ rfl _ _ rfl 1 _ _ rfl _ Try.isAgg22 rfl ?_))
  go_ret
  exact ⟨rfl, S.below⟩

set_option maxRecDepth 100000 in
set_option maxHeartbeats 1000000 in
theorem eqCellS_same (A B : Option Addr) (n c c' : Nat) (xs : List Pt) (hn : xs.length = n) (hm : n ≤ 4000000) (w : World) (hA : Rd w A (ccs xs)) (hB : Rd w B (ccs xs)) :
    Calls Try.prog 19 #[.slice A n c, .slice B n c'] w fun e w' => e = .returned (.bool true) ∧ Below w.heap.size w w' := by
  have S := St.refl w
  have h1 : ((n : Int) != (n : Int)) = false := by simp
  go_enter Try.func19, Try.ntmps19
  go_wp2
  clear h1
  go_loopw [5] (fun i wr => ∃ k : Nat, i = .int .i64 k ∧ k ≤ n ∧ St w wr []) (fun i _ => n - (intOf i).toNat)
  case atStart => exact ⟨0, rfl, by omega, S⟩
  case round =>
    clear S
    obtain ⟨k, rfl, hk, S⟩ := hrel
    by_cases hkl : k < n
    · obtain ⟨d, hd⟩ : ∃ d, xs[k]? = some d := ⟨_, List.getElem?_eq_getElem (by omega)⟩
      have HD := Lib.hid hd; clear hd
      obtain ⟨bi, oi, hAi⟩ := hA.1 (ccs_ne HD.out)
      obtain ⟨bj, oj, hBi⟩ := hB.1 (ccs_ne HD.out)
      subst hAi hBi
      go_wp2
      refine wp_region_mix (by kernel_rfl) (by kernel_rfl) ?_
      repeat (first
        | go_big_quiet_skip
        | (go_big_quiet_want; refine Q_index _ _ _ rfl bi oi _ _ rfl k rfl _ Try.underlying32 _ Try.sizeOf43 ?_ ?_ ?_; omega; omega; simp only [Act.put, List.setIfInBounds_toArray, List.set_cons_succ, List.set_cons_zero]; go_big_quiet_on)
        | (go_big_quiet_want; refine Q_index _ _ _ rfl bj oj _ _ rfl k rfl _ Try.underlying32 _ Try.sizeOf43 ?_ ?_ ?_; omega; omega; simp only [Act.put, List.setIfInBounds_toArray, List.set_cons_succ, List.set_cons_zero]; go_big_quiet_on)
        | (go_big_quiet_want; refine Q_elem cenc _ _ rfl bi oi k 2 rfl xs (hA.st S) (fun _ => rfl) d HD.out Try.isAgg43 Try.sizeOf43 ?_; simp only [Act.put, List.setIfInBounds_toArray, List.set_cons_succ, List.set_cons_zero]; go_big_quiet_on)
        | (go_big_quiet_want; refine Q_elem cenc _ _ rfl bj oj k 2 rfl xs (hB.st S) (fun _ => rfl) d HD.out Try.isAgg43 Try.sizeOf43 ?_; simp only [Act.put, List.setIfInBounds_toArray, List.set_cons_succ, List.set_cons_zero]; go_big_quiet_on)
        | (go_big_quiet_want; go_big_quiet_op; go_big_quiet_on)
        | (go_big_quiet_want; go_big_quiet_op; go_big_quiet_call (exact calls_mix (eqCell_same d _))))
      refine wpQuiet_nil ?_
      intro _ hw'
      obtain ⟨⟨nq, osq⟩, rfl⟩ := hw'
      replace S := S.callB (mix_below _ nq osq)
      generalize grow (sd _ nq) osq = wq at S ⊢
      go_wp2
      refine ⟨⟨k + 1, by go_num, by omega, S⟩, ?_⟩
      simp [intOf]; omega
    · have hke : k = n := by omega
      subst hke
      go_wp2
      go_ret
      exact ⟨rfl, S.below⟩

set_option maxRecDepth 100000 in
set_option maxHeartbeats 1000000 in
theorem eqInt16A9_same (xs : List Int) (hx : xs.length = 9) (w : World) :
    Calls Try.prog 57 #[.agg (hvl xs).toArray, .agg (hvl xs).toArray] w fun e w' => e = .returned (.bool true) ∧ Below w.heap.size w w' := by
  have S := St.refl w
  go_enter Try.func57, Try.ntmps57
  go_wp2_with (first
    | (have hq := ba; clear hq; (refine W_box S rfl _ _ rfl (.agg (hvl xs).toArray) rfl ?_; clear S; intro bb w' S; change St _ _ (EB _ _ (hvl xs) :: _) at S))
    | (refine W_box S rfl _ _ rfl (.agg (hvl xs).toArray) rfl ?_; clear S; intro ba w' S; change St _ _ (EB _ _ (hvl xs) :: _) at S))
  go_loopw [5] (fun i wr => ∃ k : Nat, i = .int .i64 k ∧ k ≤ 9 ∧ St w wr [EB bb 24 (hvl xs), EB ba 24 (hvl xs)]) (fun i _ => 9 - (intOf i).toNat)
  case atStart => exact ⟨0, rfl, by omega, S⟩
  case round =>
    clear S
    obtain ⟨k, rfl, hk, S⟩ := hrel
    by_cases hkl : k < 9
    · obtain ⟨v, hv⟩ : ∃ v, xs[k]? = some v := ⟨_, List.getElem?_eq_getElem (by omega)⟩
      have HV := Lib.hid hv; clear hv
      have hvv : (v != v) = false := by simp
      go_wp2
      refine wp_region_mix (by kernel_rfl) (by kernel_rfl) ?_
      repeat (first
        | go_big_quiet_skip
        | (go_big_quiet_want; refine Q_load1 S _ _ rfl ba k rfl 1 _ _ rfl (.int .i16 v) Try.isAgg23 (by show (xs.map (Value.int .i16))[k]? = _; rw [List.getElem?_map, HV.out]; rfl) ?_; simp only [Act.put, List.setIfInBounds_toArray, List.set_cons_succ, List.set_cons_zero]; go_big_quiet_on)
        | (go_big_quiet_want; refine Q_load1 S _ _ rfl bb k rfl 0 _ _ rfl (.int .i16 v) Try.isAgg23 (by show (xs.map (Value.int .i16))[k]? = _; rw [List.getElem?_map, HV.out]; rfl) ?_; simp only [Act.put, List.setIfInBounds_toArray, List.set_cons_succ, List.set_cons_zero]; go_big_quiet_on)
        | (go_big_quiet_want; go_big_quiet_op; go_big_quiet_on))
      refine wpQuiet_nil ?_
      intro _ hw'
      obtain ⟨⟨nq, osq⟩, rfl⟩ := hw'
      replace S := S.callB (mix_below _ nq osq)
      generalize grow (sd _ nq) osq = wq at S ⊢
      go_wp2
      refine ⟨⟨k + 1, by go_num, by omega, S⟩, ?_⟩
      simp [intOf]; omega
    · have hke : k = 9 := by omega
      subst hke
      go_wp2
      go_ret
      exact ⟨rfl, S.below⟩

theorem row_of {hs : List Int} {k : Nat} : ∀ j u, (hvl (rowl hs k))[j]? = some u → (hvl hs)[k * 9 + j]? = some u := fun jq uq hq => by
  rw [hvl_row, List.getElem?_take] at hq
  split at hq
  · rwa [List.getElem?_drop] at hq
  · cases hq

set_option maxRecDepth 100000 in
set_option maxHeartbeats 1000000 in
theorem eqInt16A9A9_same (xs : List Int) (hx : xs.length = 81) (w : World) :
    Calls Try.prog 14 #[.agg (hvl xs).toArray, .agg (hvl xs).toArray] w fun e w' => e = .returned (.bool true) ∧ Below w.heap.size w w' := by
  have S := St.refl w
  go_enter Try.func14, Try.ntmps14
  go_wp2_with (first
    | (have hq := ba; clear hq; (refine W_box S rfl _ _ rfl (.agg (hvl xs).toArray) rfl ?_; clear S; intro bb w' S; change St _ _ (EB _ _ (hvl xs) :: _) at S))
    | (refine W_box S rfl _ _ rfl (.agg (hvl xs).toArray) rfl ?_; clear S; intro ba w' S; change St _ _ (EB _ _ (hvl xs) :: _) at S))
  go_loopw [5] (fun i wr => ∃ k : Nat, i = .int .i64 k ∧ k ≤ 9 ∧ St w wr [EB bb 25 (hvl xs), EB ba 25 (hvl xs)]) (fun i _ => 9 - (intOf i).toNat)
  case atStart => exact ⟨0, rfl, by omega, S⟩
  case round =>
    clear S
    obtain ⟨k, rfl, hk, S⟩ := hrel
    by_cases hkl : k < 9
    · have hrl := rowl_length hx hkl
      have hrl2 : (hvl (rowl xs k)).length = 9 := by rw [hvl_length, hrl]
      go_wp2
      refine wp_region_mix (by kernel_rfl) (by kernel_rfl) ?_
      repeat (first
        | go_big_quiet_skip
        | (go_big_quiet_want; refine Q_loadN S _ _ rfl ba (k * 9) rfl 1 _ _ rfl (hvl (rowl xs k)) Try.isAgg24 (by rw [hrl2]; exact Try.sizeOf24) row_of ?_; simp only [Act.put, List.setIfInBounds_toArray, List.set_cons_succ, List.set_cons_zero]; go_big_quiet_on)
        | (go_big_quiet_want; refine Q_loadN S _ _ rfl bb (k * 9) rfl 0 _ _ rfl (hvl (rowl xs k)) Try.isAgg24 (by rw [hrl2]; exact Try.sizeOf24) row_of ?_; simp only [Act.put, List.setIfInBounds_toArray, List.set_cons_succ, List.set_cons_zero]; go_big_quiet_on)
        | (go_big_quiet_want; go_big_quiet_op; go_big_quiet_on)
        | (go_big_quiet_want; go_big_quiet_op; go_big_quiet_call (exact calls_mix (eqInt16A9_same _ hrl _))))
      refine wpQuiet_nil ?_
      intro _ hw'
      obtain ⟨⟨nq, osq⟩, rfl⟩ := hw'
      replace S := S.callB (mix_below _ nq osq)
      generalize grow (sd _ nq) osq = wq at S ⊢
      go_wp2
      refine ⟨⟨k + 1, by go_num, by omega, S⟩, ?_⟩
      simp [intOf]; omega
    · have hke : k = 9 := by omega
      subst hke
      go_wp2
      go_ret
      exact ⟨rfl, S.below⟩
end Go.Proofs.Ytpfmmbdddecphaa
