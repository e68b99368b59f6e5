/- The program's walks of water: lowest, runs, run, RunFrom. -/
import Derived.Test.YtpfmmbdddecphaaFallP
import Derived.Test.YtpfmmbdddecphaaHeldC
namespace Go.Proofs.Ytpfmmbdddecphaa
open Go.RowKit Go.Sort
set_option linter.unusedVariables false
set_option linter.unusedSimpArgs false

theorem exec_neC {o : Oper} {a : Act} {w : World} (T : TypeId) (hT : T = 43) (x y : Operand) (t0 : TypeId) (ho : o.op = .binOp .neq T x y t0) (c d : Pt) (hx : a.eval x = cv c) (hy : a.eval y = cv d) : (execOp a.eval o).run Try.prog w = .ok (.value (.bool (neC c d))) w := by
  subst hT
  have hm : Try.prog.eqGuardType Try.prog.depth 43 = false := by kernel_rfl
  have he := run_eqC c d w
  unfold Op.equal Op.maxDepth at he
  unfold execOp
  simp only [ho, hx, hy]
  unfold cv at he ⊢
  simp [run_eqGuard_agg, hm, run_neq_struct, he, Sem.run_bind, neC]

theorem hgt_c (G : Gnd) (hG : G.Ok) (v : Value) (e : Pt) (h : (0 ≤ e.1 ∧ e.1 ≤ 8) ∧ 0 ≤ e.2 ∧ e.2 ≤ 8) (w : World) :
    Calls Try.prog 105 #[.agg (gcs G v).toArray, .agg (cenc e).toArray] w fun e' w' => e' = .returned (.int .i64 (G.at e.1 e.2)) ∧ Below w.heap.size w w' := height_any G hG v e.1 e.2 h.1 h.2 w

set_option maxRecDepth 100000 in
set_option maxHeartbeats 1000000 in
theorem lowest_any (G : Gnd) (hG : G.Ok) (V : ValidG G) (v : Value) (d : Pt) (hd : isCellB G.wide G.high d = true) (w : World) :
    Calls Try.prog 83 #[gv G v, cv d] w fun e w' => e = .returned (.tuple #[cv (lowL G d), .bool (neC (lowL G d) d)]) ∧ Below w.heap.size w w' := by
  have S := St.refl w
  have hr := cell_range V hd
  go_enter Try.func83, Try.ntmps83
  go_wp2_with (first
    | ((with_reducible refine at_box_ 34 rfl rfl ?_); (refine W_box S rfl _ _ rfl (gv G (v)) rfl ?_; clear S; intro bg w' S; change St _ _ (EB _ _ (gcs G (v)) :: _) at S))
    | ((with_reducible refine at_box_ 43 rfl rfl ?_); ((fail_if_success have hq := bc); refine W_box S rfl _ _ rfl (cv (d)) rfl ?_; clear S; intro bc w' S; change St _ _ (EB _ _ (cenc (d)) :: _) at S))
    | ((with_reducible refine at_alloc_ 43 rfl rfl ?_); (first | ((fail_if_success have hq := br); refine W_alloc S rfl 43 rfl _ Try.zeroValue43 ?_; clear S; intro br w' S; change St _ _ (EB _ _ (cenc (0, 0)) :: _) at S) | ((fail_if_success have hq := bb); refine W_alloc S rfl 43 rfl _ Try.zeroValue43 ?_; clear S; intro bb w' S; change St _ _ (EB _ _ (cenc (0, 0)) :: _) at S)))
    | ((with_reducible refine at_load_ 34 rfl rfl ?_); (first | (refine W_loadN S rfl _ _ rfl bg 0 rfl 0 _ _ rfl (gcs G (v)) Try.isAgg34 (by rw [gcs_length hG]; exact Try.sizeOf34) (fun jq uq hq => by rw [Nat.zero_add]; exact hq) ?_) | (refine W_loadN S rfl _ _ rfl bg 0 rfl 1 _ _ rfl (gcs G (v)) Try.isAgg34 (by rw [gcs_length hG]; exact Try.sizeOf34) (fun jq uq hq => by rw [Nat.zero_add]; exact hq) ?_) | (refine W_loadN S rfl _ _ rfl bg 0 rfl 2 _ _ rfl (gcs G (v)) Try.isAgg34 (by rw [gcs_length hG]; exact Try.sizeOf34) (fun jq uq hq => by rw [Nat.zero_add]; exact hq) ?_) | (refine W_loadN S rfl _ _ rfl bg 0 rfl 3 _ _ rfl (gcs G (v)) Try.isAgg34 (by rw [gcs_length hG]; exact Try.sizeOf34) (fun jq uq hq => by rw [Nat.zero_add]; exact hq) ?_) | (refine W_loadN S rfl _ _ rfl bg 0 rfl 4 _ _ rfl (gcs G (v)) Try.isAgg34 (by rw [gcs_length hG]; exact Try.sizeOf34) (fun jq uq hq => by rw [Nat.zero_add]; exact hq) ?_) | (refine W_loadN S rfl _ _ rfl bg 0 rfl 5 _ _ rfl (gcs G (v)) Try.isAgg34 (by rw [gcs_length hG]; exact Try.sizeOf34) (fun jq uq hq => by rw [Nat.zero_add]; exact hq) ?_) | (refine W_loadN S rfl _ _ rfl bg 0 rfl 6 _ _ rfl (gcs G (v)) Try.isAgg34 (by rw [gcs_length hG]; exact Try.sizeOf34) (fun jq uq hq => by rw [Nat.zero_add]; exact hq) ?_) | (refine W_loadN S rfl _ _ rfl bg 0 rfl 7 _ _ rfl (gcs G (v)) Try.isAgg34 (by rw [gcs_length hG]; exact Try.sizeOf34) (fun jq uq hq => by rw [Nat.zero_add]; exact hq) ?_) | (refine W_loadN S rfl _ _ rfl bg 0 rfl 8 _ _ rfl (gcs G (v)) Try.isAgg34 (by rw [gcs_length hG]; exact Try.sizeOf34) (fun jq uq hq => by rw [Nat.zero_add]; exact hq) ?_) | (refine W_loadN S rfl _ _ rfl bg 0 rfl 9 _ _ rfl (gcs G (v)) Try.isAgg34 (by rw [gcs_length hG]; exact Try.sizeOf34) (fun jq uq hq => by rw [Nat.zero_add]; exact hq) ?_)))
    | ((with_reducible refine at_load_ 43 rfl rfl ?_); (first | (refine W_loadN S rfl _ _ rfl bc 0 rfl 0 _ _ rfl (cenc (d)) Try.isAgg43 (by exact Try.sizeOf43) (fun jq uq hq => by rw [Nat.zero_add]; exact hq) ?_) | (refine W_loadN S rfl _ _ rfl bc 0 rfl 1 _ _ rfl (cenc (d)) Try.isAgg43 (by exact Try.sizeOf43) (fun jq uq hq => by rw [Nat.zero_add]; exact hq) ?_) | (refine W_loadN S rfl _ _ rfl bc 0 rfl 2 _ _ rfl (cenc (d)) Try.isAgg43 (by exact Try.sizeOf43) (fun jq uq hq => by rw [Nat.zero_add]; exact hq) ?_) | (refine W_loadN S rfl _ _ rfl bc 0 rfl 3 _ _ rfl (cenc (d)) Try.isAgg43 (by exact Try.sizeOf43) (fun jq uq hq => by rw [Nat.zero_add]; exact hq) ?_) | (refine W_loadN S rfl _ _ rfl bc 0 rfl 4 _ _ rfl (cenc (d)) Try.isAgg43 (by exact Try.sizeOf43) (fun jq uq hq => by rw [Nat.zero_add]; exact hq) ?_) | (refine W_loadN S rfl _ _ rfl bc 0 rfl 5 _ _ rfl (cenc (d)) Try.isAgg43 (by exact Try.sizeOf43) (fun jq uq hq => by rw [Nat.zero_add]; exact hq) ?_) | (refine W_loadN S rfl _ _ rfl bc 0 rfl 6 _ _ rfl (cenc (d)) Try.isAgg43 (by exact Try.sizeOf43) (fun jq uq hq => by rw [Nat.zero_add]; exact hq) ?_) | (refine W_loadN S rfl _ _ rfl bc 0 rfl 7 _ _ rfl (cenc (d)) Try.isAgg43 (by exact Try.sizeOf43) (fun jq uq hq => by rw [Nat.zero_add]; exact hq) ?_) | (refine W_loadN S rfl _ _ rfl bc 0 rfl 8 _ _ rfl (cenc (d)) Try.isAgg43 (by exact Try.sizeOf43) (fun jq uq hq => by rw [Nat.zero_add]; exact hq) ?_) | (refine W_loadN S rfl _ _ rfl bc 0 rfl 9 _ _ rfl (cenc (d)) Try.isAgg43 (by exact Try.sizeOf43) (fun jq uq hq => by rw [Nat.zero_add]; exact hq) ?_)))
    | ((with_reducible refine at_store_ 43 rfl rfl ?_); (first | (refine W_storeW S rfl _ _ _ rfl bb rfl 0 _ _ rfl (cenc (d)) rfl (by exact Try.sizeOf43) (rfl) (one_cells rfl) ?_; clear S; intro w' S; simp only [List.set_cons_zero, List.set_cons_succ] at S) | (refine W_storeW S rfl _ _ _ rfl bb rfl 1 _ _ rfl (cenc (d)) rfl (by exact Try.sizeOf43) (rfl) (one_cells rfl) ?_; clear S; intro w' S; simp only [List.set_cons_zero, List.set_cons_succ] at S) | (refine W_storeW S rfl _ _ _ rfl bb rfl 2 _ _ rfl (cenc (d)) rfl (by exact Try.sizeOf43) (rfl) (one_cells rfl) ?_; clear S; intro w' S; simp only [List.set_cons_zero, List.set_cons_succ] at S) | (refine W_storeW S rfl _ _ _ rfl bb rfl 3 _ _ rfl (cenc (d)) rfl (by exact Try.sizeOf43) (rfl) (one_cells rfl) ?_; clear S; intro w' S; simp only [List.set_cons_zero, List.set_cons_succ] at S) | (refine W_storeW S rfl _ _ _ rfl bb rfl 4 _ _ rfl (cenc (d)) rfl (by exact Try.sizeOf43) (rfl) (one_cells rfl) ?_; clear S; intro w' S; simp only [List.set_cons_zero, List.set_cons_succ] at S) | (refine W_storeW S rfl _ _ _ rfl bb rfl 5 _ _ rfl (cenc (d)) rfl (by exact Try.sizeOf43) (rfl) (one_cells rfl) ?_; clear S; intro w' S; simp only [List.set_cons_zero, List.set_cons_succ] at S)))
    | (go_at_call 118; refine Calls.mono (around_any G hG v d.1 d.2 (by omega) (by omega) _) ?_; rintro e w1 ⟨A, c, rfl, S2⟩; replace S := S.call S2; clear S2; simp only [List.cons_append, List.nil_append] at S))
  have hnl : (besideL G d).length ≤ 4 := by unfold besideL kept; exact List.length_filter_le _ _
  replace S : St w w1 [ER 43 2 (.slice A (besideL G d).length c) (besideL G d).length (ccs (besideL G d)), EB bb 43 (cenc d), EB br 43 (cenc (0, 0)), EB bc 43 (cenc d), EB bg 34 (gcs G v)] := S
  go_loopw [14] (fun i wr => ∃ k : Nat, i = .int .i64 k ∧ k ≤ (besideL G d).length ∧ St w wr [ER 43 2 (.slice A (besideL G d).length c) (besideL G d).length (ccs (besideL G d)), EB bb 43 (cenc (((besideL G d).take k).foldl (lowS G) d)), EB br 43 (cenc (0, 0)), EB bc 43 (cenc d), EB bg 34 (gcs G v)]) (fun i _ => (besideL G d).length - (intOf i).toNat)
  case atStart => exact ⟨0, rfl, by omega, S⟩
  case round =>
    clear S
    obtain ⟨k, rfl, hk, S⟩ := hrel
    by_cases hkl : k < (besideL G d).length
    · obtain ⟨e, he⟩ : ∃ e, (besideL G d)[k]? = some e := ⟨_, List.getElem?_eq_getElem hkl⟩
      have hec := beside_cell (List.mem_of_getElem? he)
      have her := cell_range V hec
      have hbc := low_cell hd k
      have hbr := cell_range V hbc
      have HF := Lib.hid (fold_more (f := lowS G) (b := d) he)
      have HE := Lib.hid he; clear he hec hbc
      have hP : Rd wr A (ccs (besideL G d)) := S.rd (k := 0) rfl
      obtain ⟨bi, oi, hA⟩ := hP.1 (ccs_ne HE.out)
      subst hA
      generalize ((besideL G d).take k).foldl (lowS G) d = b at S HF hbr
      go_wp2_with (first
        | (refine W_elem cenc rfl _ _ rfl bi oi (k) 2 ?_ (besideL G d) ?_ (fun _ => rfl) (e) ?_ Try.isAgg43 Try.sizeOf43 ?_; rfl; exact hP; exact HE.out)
        | ((with_reducible refine at_alloc_ 43 rfl rfl ?_); ((fail_if_success have hq := be); refine W_alloc S rfl 43 rfl _ Try.zeroValue43 ?_; clear S; intro be w' S; change St _ _ (EB _ _ (cenc (0, 0)) :: _) at S))
        | ((with_reducible refine at_store_ 43 rfl rfl ?_); (first | (refine W_storeW S rfl _ _ _ rfl be rfl 0 _ _ rfl (cenc (e)) rfl (by exact Try.sizeOf43) (rfl) (one_cells rfl) ?_; clear S; intro w' S; simp only [List.set_cons_zero, List.set_cons_succ] at S) | (refine W_storeW S rfl _ _ _ rfl be rfl 1 _ _ rfl (cenc (e)) rfl (by exact Try.sizeOf43) (rfl) (one_cells rfl) ?_; clear S; intro w' S; simp only [List.set_cons_zero, List.set_cons_succ] at S) | (refine W_storeW S rfl _ _ _ rfl be rfl 2 _ _ rfl (cenc (e)) rfl (by exact Try.sizeOf43) (rfl) (one_cells rfl) ?_; clear S; intro w' S; simp only [List.set_cons_zero, List.set_cons_succ] at S) | (refine W_storeW S rfl _ _ _ rfl be rfl 3 _ _ rfl (cenc (e)) rfl (by exact Try.sizeOf43) (rfl) (one_cells rfl) ?_; clear S; intro w' S; simp only [List.set_cons_zero, List.set_cons_succ] at S) | (refine W_storeW S rfl _ _ _ rfl be rfl 4 _ _ rfl (cenc (e)) rfl (by exact Try.sizeOf43) (rfl) (one_cells rfl) ?_; clear S; intro w' S; simp only [List.set_cons_zero, List.set_cons_succ] at S) | (refine W_storeW S rfl _ _ _ rfl be rfl 5 _ _ rfl (cenc (e)) rfl (by exact Try.sizeOf43) (rfl) (one_cells rfl) ?_; clear S; intro w' S; simp only [List.set_cons_zero, List.set_cons_succ] at S))))
      have hE := hgt_c G hG v e her
      have hB := hgt_c G hG v b hbr
      try (simp only [Act.put, List.setIfInBounds_toArray, List.set_cons_succ, List.set_cons_zero])
      refine wp_region_mix (by kernel_rfl) (by kernel_rfl) ?_
      repeat (first
        | go_big_quiet_skip
        | (go_big_quiet_want; refine Q_loadN S _ _ rfl bg 0 rfl 5 _ _ rfl (gcs G (v)) Try.isAgg34 (by rw [gcs_length hG]; exact Try.sizeOf34) (fun jq uq hq => by rw [Nat.zero_add]; exact hq) ?_; simp only [Act.put, List.setIfInBounds_toArray, List.set_cons_succ, List.set_cons_zero]; go_big_quiet_on) | (go_big_quiet_want; refine Q_loadN S _ _ rfl be 0 rfl 0 _ _ rfl (cenc (e)) Try.isAgg43 Try.sizeOf43 (fun jq uq hq => by rw [Nat.zero_add]; exact hq) ?_; simp only [Act.put, List.setIfInBounds_toArray, List.set_cons_succ, List.set_cons_zero]; go_big_quiet_on) | (go_big_quiet_want; refine Q_loadN S _ _ rfl bb 0 rfl 2 _ _ rfl (cenc (b)) Try.isAgg43 Try.sizeOf43 (fun jq uq hq => by rw [Nat.zero_add]; exact hq) ?_; simp only [Act.put, List.setIfInBounds_toArray, List.set_cons_succ, List.set_cons_zero]; go_big_quiet_on)
        | (go_big_quiet_want; go_big_quiet_op; go_big_quiet_on)
        | (go_big_quiet_want; go_big_quiet_op; go_big_quiet_call (first | with_reducible exact calls_mix (hE _) | with_reducible exact calls_mix (hB _))))
      clear hE hB
      refine wpQuiet_nil ?_
      intro _ hw'
      obtain ⟨⟨nq, osq⟩, rfl⟩ := hw'
      replace S := S.callB (mix_below _ nq osq)
      generalize grow (sd _ nq) osq = wq at S ⊢
      cases hde : decide (G.at e.1 e.2 < G.at b.1 b.2) with
      | true =>
        have HS : Hid (lowS G b e = e) := by show _ = _; exact lowS_yes (of_decide_eq_true hde)
        go_wp2_with (first
          | ((with_reducible refine at_load_ 43 rfl rfl ?_); (first | (refine W_loadN S rfl _ _ rfl be 0 rfl 0 _ _ rfl (cenc (e)) Try.isAgg43 (by exact Try.sizeOf43) (fun jq uq hq => by rw [Nat.zero_add]; exact hq) ?_) | (refine W_loadN S rfl _ _ rfl be 0 rfl 1 _ _ rfl (cenc (e)) Try.isAgg43 (by exact Try.sizeOf43) (fun jq uq hq => by rw [Nat.zero_add]; exact hq) ?_) | (refine W_loadN S rfl _ _ rfl be 0 rfl 2 _ _ rfl (cenc (e)) Try.isAgg43 (by exact Try.sizeOf43) (fun jq uq hq => by rw [Nat.zero_add]; exact hq) ?_) | (refine W_loadN S rfl _ _ rfl be 0 rfl 3 _ _ rfl (cenc (e)) Try.isAgg43 (by exact Try.sizeOf43) (fun jq uq hq => by rw [Nat.zero_add]; exact hq) ?_) | (refine W_loadN S rfl _ _ rfl be 0 rfl 4 _ _ rfl (cenc (e)) Try.isAgg43 (by exact Try.sizeOf43) (fun jq uq hq => by rw [Nat.zero_add]; exact hq) ?_) | (refine W_loadN S rfl _ _ rfl be 0 rfl 5 _ _ rfl (cenc (e)) Try.isAgg43 (by exact Try.sizeOf43) (fun jq uq hq => by rw [Nat.zero_add]; exact hq) ?_) | (refine W_loadN S rfl _ _ rfl be 0 rfl 6 _ _ rfl (cenc (e)) Try.isAgg43 (by exact Try.sizeOf43) (fun jq uq hq => by rw [Nat.zero_add]; exact hq) ?_) | (refine W_loadN S rfl _ _ rfl be 0 rfl 7 _ _ rfl (cenc (e)) Try.isAgg43 (by exact Try.sizeOf43) (fun jq uq hq => by rw [Nat.zero_add]; exact hq) ?_) | (refine W_loadN S rfl _ _ rfl be 0 rfl 8 _ _ rfl (cenc (e)) Try.isAgg43 (by exact Try.sizeOf43) (fun jq uq hq => by rw [Nat.zero_add]; exact hq) ?_) | (refine W_loadN S rfl _ _ rfl be 0 rfl 9 _ _ rfl (cenc (e)) Try.isAgg43 (by exact Try.sizeOf43) (fun jq uq hq => by rw [Nat.zero_add]; exact hq) ?_)))
          | ((with_reducible refine at_store_ 43 rfl rfl ?_); (first | (refine W_storeW S rfl _ _ _ rfl bb rfl 0 _ _ rfl (cenc (e)) rfl (by exact Try.sizeOf43) (rfl) (one_cells rfl) ?_; clear S; intro w' S; simp only [List.set_cons_zero, List.set_cons_succ] at S) | (refine W_storeW S rfl _ _ _ rfl bb rfl 1 _ _ rfl (cenc (e)) rfl (by exact Try.sizeOf43) (rfl) (one_cells rfl) ?_; clear S; intro w' S; simp only [List.set_cons_zero, List.set_cons_succ] at S) | (refine W_storeW S rfl _ _ _ rfl bb rfl 2 _ _ rfl (cenc (e)) rfl (by exact Try.sizeOf43) (rfl) (one_cells rfl) ?_; clear S; intro w' S; simp only [List.set_cons_zero, List.set_cons_succ] at S) | (refine W_storeW S rfl _ _ _ rfl bb rfl 3 _ _ rfl (cenc (e)) rfl (by exact Try.sizeOf43) (rfl) (one_cells rfl) ?_; clear S; intro w' S; simp only [List.set_cons_zero, List.set_cons_succ] at S) | (refine W_storeW S rfl _ _ _ rfl bb rfl 4 _ _ rfl (cenc (e)) rfl (by exact Try.sizeOf43) (rfl) (one_cells rfl) ?_; clear S; intro w' S; simp only [List.set_cons_zero, List.set_cons_succ] at S) | (refine W_storeW S rfl _ _ _ rfl bb rfl 5 _ _ rfl (cenc (e)) rfl (by exact Try.sizeOf43) (rfl) (one_cells rfl) ?_; clear S; intro w' S; simp only [List.set_cons_zero, List.set_cons_succ] at S))))
        refine ⟨⟨k + 1, by go_num, by omega, by rw [HF.out, HS.out]; exact S.tail⟩, ?_⟩
        simp [intOf]; omega
      | false =>
        have HS : Hid (lowS G b e = b) := by show _ = _; exact lowS_no (of_decide_eq_false hde)
        go_wp2
        refine ⟨⟨k + 1, by go_num, by omega, by rw [HF.out, HS.out]; exact S.tail⟩, ?_⟩
        simp [intOf]; omega
    · have hke : k = (besideL G d).length := by omega
      subst hke
      rw [List.take_length] at S
      change St w wr [_, EB bb 43 (cenc (lowL G d)), _, _, _] at S
      go_wp2
      try (simp only [Act.put, List.setIfInBounds_toArray, List.set_cons_succ, List.set_cons_zero])
      refine C_begin (C := fun w' => ∃ u, St w w' [ER 43 2 (.slice A (besideL G d).length c) (besideL G d).length (ccs (besideL G d)), EB bb 43 (cenc (lowL G d)), EB br 43 (cenc u), EB bc 43 (cenc d), EB bg 34 (gcs G v)]) (by kernel_rfl) (fun w' hb => ⟨(0, 0), S.callB hb⟩) ?_; intro wh hch
      (refine C_loadN 0 rfl (by kernel_rfl) (by kernel_rfl) (by kernel_rfl) rfl _ _ rfl bb 0 rfl _ _ (fun w' ⟨u, S'⟩ => S'.get (k := 1) rfl) (cenc (lowL G d)) Try.isAgg43 Try.sizeOf43 (fun jq uq hq => by rw [Nat.zero_add]; exact hq) hch (fun _ _ _ h => h) ?_; simp only [List.getElem_toArray, List.getElem_cons_succ, List.getElem_cons_zero, Act.put, List.setIfInBounds_toArray, List.set_cons_succ, List.set_cons_zero])
      (refine C_loadN 1 rfl (by kernel_rfl) (by kernel_rfl) (by kernel_rfl) rfl _ _ rfl bb 0 rfl _ _ (fun w' ⟨u, S'⟩ => S'.get (k := 1) rfl) (cenc (lowL G d)) Try.isAgg43 Try.sizeOf43 (fun jq uq hq => by rw [Nat.zero_add]; exact hq) hch (fun _ _ _ h => h) ?_; simp only [List.getElem_toArray, List.getElem_cons_succ, List.getElem_cons_zero, Act.put, List.setIfInBounds_toArray, List.set_cons_succ, List.set_cons_zero])
      (refine C_loadN 2 rfl (by kernel_rfl) (by kernel_rfl) (by kernel_rfl) rfl _ _ rfl bc 0 rfl _ _ (fun w' ⟨u, S'⟩ => S'.get (k := 3) rfl) (cenc (d)) Try.isAgg43 Try.sizeOf43 (fun jq uq hq => by rw [Nat.zero_add]; exact hq) hch (fun _ _ _ h => h) ?_; simp only [List.getElem_toArray, List.getElem_cons_succ, List.getElem_cons_zero, Act.put, List.setIfInBounds_toArray, List.set_cons_succ, List.set_cons_zero])
      (refine C_take (i := 3) rfl (by kernel_rfl) (by kernel_rfl) (by kernel_rfl) rfl (.bool (neC (lowL G d) d)) (fun _ _ _ h => h) (fun w' _ => exec_neC _ rfl _ _ _ rfl (lowL G d) d rfl rfl) hch ?_; simp only [List.getElem_toArray, List.getElem_cons_succ, List.getElem_cons_zero, Act.put, List.setIfInBounds_toArray, List.set_cons_succ, List.set_cons_zero])
      clear S
      obtain ⟨u, S⟩ := hch
      refine C_step (i := 4) (by kernel_rfl) rfl ?_
      go_wp2_with (first
        | ((with_reducible refine at_store_ 43 rfl rfl ?_); (first | (refine W_storeW S rfl _ _ _ rfl br rfl 0 _ _ rfl (cenc (lowL G d)) rfl (by exact Try.sizeOf43) (rfl) (one_cells rfl) ?_; clear S; intro w' S; simp only [List.set_cons_zero, List.set_cons_succ] at S) | (refine W_storeW S rfl _ _ _ rfl br rfl 1 _ _ rfl (cenc (lowL G d)) rfl (by exact Try.sizeOf43) (rfl) (one_cells rfl) ?_; clear S; intro w' S; simp only [List.set_cons_zero, List.set_cons_succ] at S) | (refine W_storeW S rfl _ _ _ rfl br rfl 2 _ _ rfl (cenc (lowL G d)) rfl (by exact Try.sizeOf43) (rfl) (one_cells rfl) ?_; clear S; intro w' S; simp only [List.set_cons_zero, List.set_cons_succ] at S) | (refine W_storeW S rfl _ _ _ rfl br rfl 3 _ _ rfl (cenc (lowL G d)) rfl (by exact Try.sizeOf43) (rfl) (one_cells rfl) ?_; clear S; intro w' S; simp only [List.set_cons_zero, List.set_cons_succ] at S) | (refine W_storeW S rfl _ _ _ rfl br rfl 4 _ _ rfl (cenc (lowL G d)) rfl (by exact Try.sizeOf43) (rfl) (one_cells rfl) ?_; clear S; intro w' S; simp only [List.set_cons_zero, List.set_cons_succ] at S) | (refine W_storeW S rfl _ _ _ rfl br rfl 5 _ _ rfl (cenc (lowL G d)) rfl (by exact Try.sizeOf43) (rfl) (one_cells rfl) ?_; clear S; intro w' S; simp only [List.set_cons_zero, List.set_cons_succ] at S))))
      refine ⟨⟨_, S⟩, ?_⟩
      refine C_step (i := 5) (by kernel_rfl) rfl ?_
      go_wp2
      refine ⟨⟨_, S⟩, ?_⟩
      refine wpAnyH_done (by kernel_rfl) ?_ _
      go_wp2
      refine W_ret_ct rfl S _ rfl _ rfl rfl 2 _ _ rfl Try.isAgg43 Try.sizeOf43 ?_
      exact ⟨rfl, S.below⟩
end Go.Proofs.Ytpfmmbdddecphaa
