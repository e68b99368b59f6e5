/- The reference's walks of water: l04Fall, l04Run, l04Asked, RunFrom. -/
import Derived.Test.YtpfmmbdddecphaaFallJ
namespace Go.Proofs.Ytpfmmbdddecphaa
open Go.RowKit Go.Sort
set_option linter.unusedVariables false
set_option linter.unusedSimpArgs false

theorem shgt_c (G : Gnd) (hG : G.Ok) (v : Value) (gb : Nat) (e : Pt) (h : (0 ≤ e.1 ∧ e.1 ≤ 8) ∧ 0 ≤ e.2 ∧ e.2 ≤ 8) (w : World) (hg : Rd w (some ⟨gb, 0, none⟩) (gcs G v)) :
    Calls Try.prog 102 #[.pointer (some ⟨gb, 0, none⟩), .agg (cenc e).toArray] w fun e' w' => e' = .returned (.int .i64 (G.at e.1 e.2)) ∧ Below w.heap.size w w' := l04Height_any G hG v gb e.1 e.2 h.1 h.2 w hg

set_option maxRecDepth 100000 in
set_option maxHeartbeats 1000000 in
theorem l04Fall_any (G : Gnd) (hG : G.Ok) (V : ValidG G) (A0 : Option Addr) (c0 : Nat) (gb : Nat) (d : Pt) (hd : isCellB G.wide G.high d = true) (w : World) (hg : Rd w (some ⟨gb, 0, none⟩) (gcs G (.slice A0 G.gul.length c0))) (hR : Rd w A0 (ccs G.gul)) :
    Calls Try.prog 107 #[.pointer (some ⟨gb, 0, none⟩), cv d] w fun e w' => e = .returned (.tuple #[cv (fallTo G d), .bool (falls G d)]) ∧ Below w.heap.size w w' := by
  have S := St.refl w
  have hm := V.many
  have hr := cell_range V hd
  have h1 := fun w hg hR => l04Gully_any G hG hm A0 c0 gb d w hg hR
  by_cases hgu : d ∈ G.gul
  · have h0 : 0 ≤ gulI G d := gulI_pos.2 hgu
    rw [fallTo_gul hgu, falls_gul hgu]
    clear hgu
    go_enter Try.func107, Try.ntmps107
    go_wp2_with (first
      | ((with_reducible refine at_box_ 43 rfl rfl ?_); ((fail_if_success have hq := bc); refine W_box S rfl _ _ rfl (cv (d)) rfl ?_; clear S; intro bc w' S; change St _ _ (EB _ _ (cenc (d)) :: _) at S))
      | ((with_reducible refine at_alloc_ 43 rfl rfl ?_); ((fail_if_success have hq := br); refine W_alloc S rfl 43 rfl _ Try.zeroValue43 ?_; clear S; intro br w' S; change St _ _ (EB _ _ (cenc (0, 0)) :: _) at S))
      | ((with_reducible refine at_load_ 43 rfl rfl ?_); (first | (refine W_loadN S rfl _ _ rfl bc 0 rfl 0 _ _ rfl (cenc (d)) Try.isAgg43 (by exact Try.sizeOf43) (fun jq uq hq => by rw [Nat.zero_add]; exact hq) ?_) | (refine W_loadN S rfl _ _ rfl bc 0 rfl 1 _ _ rfl (cenc (d)) Try.isAgg43 (by exact Try.sizeOf43) (fun jq uq hq => by rw [Nat.zero_add]; exact hq) ?_) | (refine W_loadN S rfl _ _ rfl bc 0 rfl 2 _ _ rfl (cenc (d)) Try.isAgg43 (by exact Try.sizeOf43) (fun jq uq hq => by rw [Nat.zero_add]; exact hq) ?_) | (refine W_loadN S rfl _ _ rfl bc 0 rfl 3 _ _ rfl (cenc (d)) Try.isAgg43 (by exact Try.sizeOf43) (fun jq uq hq => by rw [Nat.zero_add]; exact hq) ?_) | (refine W_loadN S rfl _ _ rfl bc 0 rfl 4 _ _ rfl (cenc (d)) Try.isAgg43 (by exact Try.sizeOf43) (fun jq uq hq => by rw [Nat.zero_add]; exact hq) ?_) | (refine W_loadN S rfl _ _ rfl bc 0 rfl 5 _ _ rfl (cenc (d)) Try.isAgg43 (by exact Try.sizeOf43) (fun jq uq hq => by rw [Nat.zero_add]; exact hq) ?_) | (refine W_loadN S rfl _ _ rfl bc 0 rfl 6 _ _ rfl (cenc (d)) Try.isAgg43 (by exact Try.sizeOf43) (fun jq uq hq => by rw [Nat.zero_add]; exact hq) ?_) | (refine W_loadN S rfl _ _ rfl bc 0 rfl 7 _ _ rfl (cenc (d)) Try.isAgg43 (by exact Try.sizeOf43) (fun jq uq hq => by rw [Nat.zero_add]; exact hq) ?_) | (refine W_loadN S rfl _ _ rfl bc 0 rfl 8 _ _ rfl (cenc (d)) Try.isAgg43 (by exact Try.sizeOf43) (fun jq uq hq => by rw [Nat.zero_add]; exact hq) ?_) | (refine W_loadN S rfl _ _ rfl bc 0 rfl 9 _ _ rfl (cenc (d)) Try.isAgg43 (by exact Try.sizeOf43) (fun jq uq hq => by rw [Nat.zero_add]; exact hq) ?_)))
      | ((with_reducible refine at_store_ 43 rfl rfl ?_); (first | (refine W_storeW S rfl _ _ _ rfl br rfl 0 _ _ rfl (cenc (d)) rfl (by exact Try.sizeOf43) (rfl) (one_cells rfl) ?_; clear S; intro w' S; simp only [List.set_cons_zero, List.set_cons_succ] at S) | (refine W_storeW S rfl _ _ _ rfl br rfl 1 _ _ rfl (cenc (d)) rfl (by exact Try.sizeOf43) (rfl) (one_cells rfl) ?_; clear S; intro w' S; simp only [List.set_cons_zero, List.set_cons_succ] at S) | (refine W_storeW S rfl _ _ _ rfl br rfl 2 _ _ rfl (cenc (d)) rfl (by exact Try.sizeOf43) (rfl) (one_cells rfl) ?_; clear S; intro w' S; simp only [List.set_cons_zero, List.set_cons_succ] at S) | (refine W_storeW S rfl _ _ _ rfl br rfl 3 _ _ rfl (cenc (d)) rfl (by exact Try.sizeOf43) (rfl) (one_cells rfl) ?_; clear S; intro w' S; simp only [List.set_cons_zero, List.set_cons_succ] at S) | (refine W_storeW S rfl _ _ _ rfl br rfl 4 _ _ rfl (cenc (d)) rfl (by exact Try.sizeOf43) (rfl) (one_cells rfl) ?_; clear S; intro w' S; simp only [List.set_cons_zero, List.set_cons_succ] at S) | (refine W_storeW S rfl _ _ _ rfl br rfl 5 _ _ rfl (cenc (d)) rfl (by exact Try.sizeOf43) (rfl) (one_cells rfl) ?_; clear S; intro w' S; simp only [List.set_cons_zero, List.set_cons_succ] at S)))
      | (go_at_call 76; refine (h1 _ (hg.st S) (hR.st S)).mono ?_; rintro e w1 ⟨rfl, hb⟩; replace S := S.callB hb; clear hb))
    refine W_ret_ct rfl S _ rfl _ rfl rfl 0 _ _ rfl Try.isAgg43 Try.sizeOf43 ?_
    exact ⟨rfl, S.below⟩
  · have h0 : ¬ 0 ≤ gulI G d := fun h => hgu (gulI_pos.1 h)
    rw [fallTo_no hgu, falls_no hgu]
    clear hgu
    go_enter Try.func107, Try.ntmps107
    go_wp2_with (first
      | ((with_reducible refine at_box_ 43 rfl rfl ?_); ((fail_if_success have hq := bc); refine W_box S rfl _ _ rfl (cv (d)) rfl ?_; clear S; intro bc w' S; change St _ _ (EB _ _ (cenc (d)) :: _) at S))
      | ((with_reducible refine at_alloc_ 43 rfl rfl ?_); (first | ((fail_if_success have hq := br); refine W_alloc S rfl 43 rfl _ Try.zeroValue43 ?_; clear S; intro br w' S; change St _ _ (EB _ _ (cenc (0, 0)) :: _) at S) | ((fail_if_success have hq := bb); refine W_alloc S rfl 43 rfl _ Try.zeroValue43 ?_; clear S; intro bb w' S; change St _ _ (EB _ _ (cenc (0, 0)) :: _) at S)))
      | ((with_reducible refine at_load_ 43 rfl rfl ?_); (first | (refine W_loadN S rfl _ _ rfl bc 0 rfl 0 _ _ rfl (cenc (d)) Try.isAgg43 (by exact Try.sizeOf43) (fun jq uq hq => by rw [Nat.zero_add]; exact hq) ?_) | (refine W_loadN S rfl _ _ rfl bc 0 rfl 1 _ _ rfl (cenc (d)) Try.isAgg43 (by exact Try.sizeOf43) (fun jq uq hq => by rw [Nat.zero_add]; exact hq) ?_) | (refine W_loadN S rfl _ _ rfl bc 0 rfl 2 _ _ rfl (cenc (d)) Try.isAgg43 (by exact Try.sizeOf43) (fun jq uq hq => by rw [Nat.zero_add]; exact hq) ?_) | (refine W_loadN S rfl _ _ rfl bc 0 rfl 3 _ _ rfl (cenc (d)) Try.isAgg43 (by exact Try.sizeOf43) (fun jq uq hq => by rw [Nat.zero_add]; exact hq) ?_) | (refine W_loadN S rfl _ _ rfl bc 0 rfl 4 _ _ rfl (cenc (d)) Try.isAgg43 (by exact Try.sizeOf43) (fun jq uq hq => by rw [Nat.zero_add]; exact hq) ?_) | (refine W_loadN S rfl _ _ rfl bc 0 rfl 5 _ _ rfl (cenc (d)) Try.isAgg43 (by exact Try.sizeOf43) (fun jq uq hq => by rw [Nat.zero_add]; exact hq) ?_) | (refine W_loadN S rfl _ _ rfl bc 0 rfl 6 _ _ rfl (cenc (d)) Try.isAgg43 (by exact Try.sizeOf43) (fun jq uq hq => by rw [Nat.zero_add]; exact hq) ?_) | (refine W_loadN S rfl _ _ rfl bc 0 rfl 7 _ _ rfl (cenc (d)) Try.isAgg43 (by exact Try.sizeOf43) (fun jq uq hq => by rw [Nat.zero_add]; exact hq) ?_) | (refine W_loadN S rfl _ _ rfl bc 0 rfl 8 _ _ rfl (cenc (d)) Try.isAgg43 (by exact Try.sizeOf43) (fun jq uq hq => by rw [Nat.zero_add]; exact hq) ?_) | (refine W_loadN S rfl _ _ rfl bc 0 rfl 9 _ _ rfl (cenc (d)) Try.isAgg43 (by exact Try.sizeOf43) (fun jq uq hq => by rw [Nat.zero_add]; exact hq) ?_)))
      | ((with_reducible refine at_store_ 43 rfl rfl ?_); (first | (refine W_storeW S rfl _ _ _ rfl bb rfl 0 _ _ rfl (cenc (d)) rfl (by exact Try.sizeOf43) (rfl) (one_cells rfl) ?_; clear S; intro w' S; simp only [List.set_cons_zero, List.set_cons_succ] at S) | (refine W_storeW S rfl _ _ _ rfl bb rfl 1 _ _ rfl (cenc (d)) rfl (by exact Try.sizeOf43) (rfl) (one_cells rfl) ?_; clear S; intro w' S; simp only [List.set_cons_zero, List.set_cons_succ] at S) | (refine W_storeW S rfl _ _ _ rfl bb rfl 2 _ _ rfl (cenc (d)) rfl (by exact Try.sizeOf43) (rfl) (one_cells rfl) ?_; clear S; intro w' S; simp only [List.set_cons_zero, List.set_cons_succ] at S) | (refine W_storeW S rfl _ _ _ rfl bb rfl 3 _ _ rfl (cenc (d)) rfl (by exact Try.sizeOf43) (rfl) (one_cells rfl) ?_; clear S; intro w' S; simp only [List.set_cons_zero, List.set_cons_succ] at S) | (refine W_storeW S rfl _ _ _ rfl bb rfl 4 _ _ rfl (cenc (d)) rfl (by exact Try.sizeOf43) (rfl) (one_cells rfl) ?_; clear S; intro w' S; simp only [List.set_cons_zero, List.set_cons_succ] at S) | (refine W_storeW S rfl _ _ _ rfl bb rfl 5 _ _ rfl (cenc (d)) rfl (by exact Try.sizeOf43) (rfl) (one_cells rfl) ?_; clear S; intro w' S; simp only [List.set_cons_zero, List.set_cons_succ] at S)))
      | (go_at_call 76; refine (h1 _ (hg.st S) (hR.st S)).mono ?_; rintro e w1 ⟨rfl, hb⟩; replace S := S.callB hb; clear hb)
      | (go_at_call 101; refine Calls.mono (l04Beside_any G hG _ gb d.1 d.2 (by omega) (by omega) _ (hg.st S)) ?_; rintro e w1 ⟨A, c, rfl, S2⟩; replace S := S.call S2; clear S2; simp only [List.cons_append, List.nil_append] at S))
    clear h0 h1
    have hnl : (besideL G d).length ≤ 4 := by unfold besideL kept; exact List.length_filter_le _ _
    replace S : St w w1 [ER 43 2 (.slice A (besideL G d).length c) (besideL G d).length (ccs (besideL G d)), EB bb 43 (cenc d), EB br 43 (cenc (0, 0)), EB bc 43 (cenc d)] := S
    go_loopw [8] (fun i wr => ∃ k : Nat, i = .int .i64 k ∧ k ≤ (besideL G d).length ∧ St w wr [ER 43 2 (.slice A (besideL G d).length c) (besideL G d).length (ccs (besideL G d)), EB bb 43 (cenc (((besideL G d).take k).foldl (lowS G) d)), EB br 43 (cenc (0, 0)), EB bc 43 (cenc d)]) (fun i _ => (besideL G d).length - (intOf i).toNat)
    case atStart => exact ⟨0, rfl, by omega, S⟩
    case round =>
      clear S
      obtain ⟨k, rfl, hk, S⟩ := hrel
      by_cases hkl : k < (besideL G d).length
      · obtain ⟨e, he⟩ : ∃ e, (besideL G d)[k]? = some e := ⟨_, List.getElem?_eq_getElem hkl⟩
        have hec := beside_cell (List.mem_of_getElem? he)
        have her := cell_range V hec
        have hbc := low_cell hd k
        have hbr := cell_range V hbc
        have HF := Lib.hid (fold_more (f := lowS G) (b := d) he)
        have HE := Lib.hid he; clear he hec hbc
        have hP : Rd wr A (ccs (besideL G d)) := S.rd (k := 0) rfl
        obtain ⟨bi, oi, hA⟩ := hP.1 (ccs_ne HE.out)
        subst hA
        generalize ((besideL G d).take k).foldl (lowS G) d = b at S HF hbr
        go_wp2
        have hgs := hg.st S
        have hE := fun w' h => shgt_c G hG (.slice A0 G.gul.length c0) gb e her w' h
        have hB := fun w' h => shgt_c G hG (.slice A0 G.gul.length c0) gb b hbr w' h
        try (simp only [Act.put, List.setIfInBounds_toArray, List.set_cons_succ, List.set_cons_zero])
        refine wp_region_mix (by kernel_rfl) (by kernel_rfl) ?_
        repeat (first
          | go_big_quiet_skip
          | (go_big_quiet_want; refine Q_loadN S _ _ rfl bb 0 rfl 1 _ _ rfl (cenc (b)) Try.isAgg43 Try.sizeOf43 (fun jq uq hq => by rw [Nat.zero_add]; exact hq) ?_; simp only [Act.put, List.setIfInBounds_toArray, List.set_cons_succ, List.set_cons_zero]; go_big_quiet_on)
          | (go_big_quiet_want; refine Q_index _ _ _ rfl bi oi _ _ rfl (k) ?_ _ Try.underlying32 _ Try.sizeOf43 ?_ ?_ ?_; rfl; omega; omega; simp only [Act.put, List.setIfInBounds_toArray, List.set_cons_succ, List.set_cons_zero]; go_big_quiet_on)
          | (go_big_quiet_want; refine Q_elem cenc _ _ rfl bi oi (k) 2 ?_ (besideL G d) ?_ (fun _ => rfl) (e) ?_ Try.isAgg43 Try.sizeOf43 ?_; rfl; exact hP; exact HE.out; simp only [Act.put, List.setIfInBounds_toArray, List.set_cons_succ, List.set_cons_zero]; go_big_quiet_on)
          | (go_big_quiet_want; go_big_quiet_op; go_big_quiet_on)
          | (go_big_quiet_want; go_big_quiet_op; go_big_quiet_call (first | with_reducible exact calls_mix (hE _ (hgs.below (mix_below _ _ _))) | with_reducible exact calls_mix (hB _ (hgs.below (mix_below _ _ _))))))
        refine wpQuiet_nil ?_
        intro _ hw'
        obtain ⟨⟨nq, osq⟩, rfl⟩ := hw'
        replace S := S.callB (mix_below _ nq osq)
        generalize grow (sd _ nq) osq = wq at S ⊢
        clear hE hB hP hgs
        cases hde : decide (G.at e.1 e.2 < G.at b.1 b.2) with
        | true =>
          have HS : Hid (lowS G b e = e) := by show _ = _; exact lowS_yes (of_decide_eq_true hde)
          have hP : Rd wq (some ⟨bi, oi, none⟩) (ccs (besideL G d)) := S.rd (k := 0) rfl
          go_wp2_with (first
            | (refine W_elem cenc rfl _ _ rfl bi oi (k) 2 ?_ (besideL G d) ?_ (fun _ => rfl) (e) ?_ Try.isAgg43 Try.sizeOf43 ?_; rfl; exact hP; exact HE.out)
            | ((with_reducible refine at_store_ 43 rfl rfl ?_); (first | (refine W_storeW S rfl _ _ _ rfl bb rfl 0 _ _ rfl (cenc (e)) rfl (by exact Try.sizeOf43) (rfl) (one_cells rfl) ?_; clear S; intro w' S; simp only [List.set_cons_zero, List.set_cons_succ] at S) | (refine W_storeW S rfl _ _ _ rfl bb rfl 1 _ _ rfl (cenc (e)) rfl (by exact Try.sizeOf43) (rfl) (one_cells rfl) ?_; clear S; intro w' S; simp only [List.set_cons_zero, List.set_cons_succ] at S) | (refine W_storeW S rfl _ _ _ rfl bb rfl 2 _ _ rfl (cenc (e)) rfl (by exact Try.sizeOf43) (rfl) (one_cells rfl) ?_; clear S; intro w' S; simp only [List.set_cons_zero, List.set_cons_succ] at S) | (refine W_storeW S rfl _ _ _ rfl bb rfl 3 _ _ rfl (cenc (e)) rfl (by exact Try.sizeOf43) (rfl) (one_cells rfl) ?_; clear S; intro w' S; simp only [List.set_cons_zero, List.set_cons_succ] at S) | (refine W_storeW S rfl _ _ _ rfl bb rfl 4 _ _ rfl (cenc (e)) rfl (by exact Try.sizeOf43) (rfl) (one_cells rfl) ?_; clear S; intro w' S; simp only [List.set_cons_zero, List.set_cons_succ] at S) | (refine W_storeW S rfl _ _ _ rfl bb rfl 5 _ _ rfl (cenc (e)) rfl (by exact Try.sizeOf43) (rfl) (one_cells rfl) ?_; clear S; intro w' S; simp only [List.set_cons_zero, List.set_cons_succ] at S))))
          refine ⟨⟨k + 1, by go_num, by omega, by rw [HF.out, HS.out]; exact S⟩, ?_⟩
          simp [intOf]; omega
        | false =>
          have HS : Hid (lowS G b e = b) := by show _ = _; exact lowS_no (of_decide_eq_false hde)
          go_wp2
          refine ⟨⟨k + 1, by go_num, by omega, by rw [HF.out, HS.out]; exact S⟩, ?_⟩
          simp [intOf]; omega
      · have hke : k = (besideL G d).length := by omega
        subst hke
        rw [List.take_length] at S
        change St w wr [_, EB bb 43 (cenc (lowL G d)), _, _] at S
        go_wp2
        try (simp only [Act.put, List.setIfInBounds_toArray, List.set_cons_succ, List.set_cons_zero])
        refine C_begin (C := fun w' => ∃ u, St w w' [ER 43 2 (.slice A (besideL G d).length c) (besideL G d).length (ccs (besideL G d)), EB bb 43 (cenc (lowL G d)), EB br 43 (cenc u), EB bc 43 (cenc d)]) (by kernel_rfl) (fun w' hb => ⟨(0, 0), S.callB hb⟩) ?_; intro wh hch
        (refine C_loadN 0 rfl (by kernel_rfl) (by kernel_rfl) (by kernel_rfl) rfl _ _ rfl bb 0 rfl _ _ (fun w' ⟨u, S'⟩ => S'.get (k := 1) rfl) (cenc (lowL G d)) Try.isAgg43 Try.sizeOf43 (fun jq uq hq => by rw [Nat.zero_add]; exact hq) hch (fun _ _ _ h => h) ?_; simp only [List.getElem_toArray, List.getElem_cons_succ, List.getElem_cons_zero, Act.put, List.setIfInBounds_toArray, List.set_cons_succ, List.set_cons_zero])
        (refine C_loadN 1 rfl (by kernel_rfl) (by kernel_rfl) (by kernel_rfl) rfl _ _ rfl bb 0 rfl _ _ (fun w' ⟨u, S'⟩ => S'.get (k := 1) rfl) (cenc (lowL G d)) Try.isAgg43 Try.sizeOf43 (fun jq uq hq => by rw [Nat.zero_add]; exact hq) hch (fun _ _ _ h => h) ?_; simp only [List.getElem_toArray, List.getElem_cons_succ, List.getElem_cons_zero, Act.put, List.setIfInBounds_toArray, List.set_cons_succ, List.set_cons_zero])
        (refine C_loadN 2 rfl (by kernel_rfl) (by kernel_rfl) (by kernel_rfl) rfl _ _ rfl bc 0 rfl _ _ (fun w' ⟨u, S'⟩ => S'.get (k := 3) rfl) (cenc (d)) Try.isAgg43 Try.sizeOf43 (fun jq uq hq => by rw [Nat.zero_add]; exact hq) hch (fun _ _ _ h => h) ?_; simp only [List.getElem_toArray, List.getElem_cons_succ, List.getElem_cons_zero, Act.put, List.setIfInBounds_toArray, List.set_cons_succ, List.set_cons_zero])
        (refine C_take (i := 3) rfl (by kernel_rfl) (by kernel_rfl) (by kernel_rfl) rfl (.bool (neC (lowL G d) d)) (fun _ _ _ h => h) (fun w' _ => exec_neC _ rfl _ _ _ rfl (lowL G d) d rfl rfl) hch ?_; simp only [List.getElem_toArray, List.getElem_cons_succ, List.getElem_cons_zero, Act.put, List.setIfInBounds_toArray, List.set_cons_succ, List.set_cons_zero])
        clear S
        obtain ⟨u, S⟩ := hch
        refine C_step (i := 4) (by kernel_rfl) rfl ?_
        go_wp2_with (first
          | ((with_reducible refine at_store_ 43 rfl rfl ?_); (first | (refine W_storeW S rfl _ _ _ rfl br rfl 0 _ _ rfl (cenc (lowL G d)) rfl (by exact Try.sizeOf43) (rfl) (one_cells rfl) ?_; clear S; intro w' S; simp only [List.set_cons_zero, List.set_cons_succ] at S) | (refine W_storeW S rfl _ _ _ rfl br rfl 1 _ _ rfl (cenc (lowL G d)) rfl (by exact Try.sizeOf43) (rfl) (one_cells rfl) ?_; clear S; intro w' S; simp only [List.set_cons_zero, List.set_cons_succ] at S) | (refine W_storeW S rfl _ _ _ rfl br rfl 2 _ _ rfl (cenc (lowL G d)) rfl (by exact Try.sizeOf43) (rfl) (one_cells rfl) ?_; clear S; intro w' S; simp only [List.set_cons_zero, List.set_cons_succ] at S) | (refine W_storeW S rfl _ _ _ rfl br rfl 3 _ _ rfl (cenc (lowL G d)) rfl (by exact Try.sizeOf43) (rfl) (one_cells rfl) ?_; clear S; intro w' S; simp only [List.set_cons_zero, List.set_cons_succ] at S) | (refine W_storeW S rfl _ _ _ rfl br rfl 4 _ _ rfl (cenc (lowL G d)) rfl (by exact Try.sizeOf43) (rfl) (one_cells rfl) ?_; clear S; intro w' S; simp only [List.set_cons_zero, List.set_cons_succ] at S) | (refine W_storeW S rfl _ _ _ rfl br rfl 5 _ _ rfl (cenc (lowL G d)) rfl (by exact Try.sizeOf43) (rfl) (one_cells rfl) ?_; clear S; intro w' S; simp only [List.set_cons_zero, List.set_cons_succ] at S))))
        refine ⟨⟨_, S⟩, ?_⟩
        refine C_step (i := 5) (by kernel_rfl) rfl ?_
        go_wp2
        refine ⟨⟨_, S⟩, ?_⟩
        refine wpAnyH_done (by kernel_rfl) ?_ _
        go_wp2
        refine W_ret_ct rfl S _ rfl _ rfl rfl 2 _ _ rfl Try.isAgg43 Try.sizeOf43 ?_
        exact ⟨rfl, S.below⟩

set_option maxRecDepth 100000 in
set_option maxHeartbeats 1000000 in
theorem l04Run_any (G : Gnd) (hG : G.Ok) (V : ValidG G) (A0 : Option Addr) (c0 : Nat) (gb : Nat) (d : Pt) (hd : isCellB G.wide G.high d = true) (w : World) (hg : Rd w (some ⟨gb, 0, none⟩) (gcs G (.slice A0 G.gul.length c0))) (hR : Rd w A0 (ccs G.gul)) :
    Calls Try.prog 60 #[.pointer (some ⟨gb, 0, none⟩), cv d] w fun e w' => ∃ A c, e = .returned (.slice A (runG G d).length c) ∧ St w w' [ER 43 2 (.slice A (runG G d).length c) (runG G d).length (ccs (runG G d))] := by
  have S := St.refl w
  go_enter Try.func60, Try.ntmps60
  go_wp2_with (first
    | ((with_reducible refine at_box_ 43 rfl rfl ?_); ((fail_if_success have hq := bc); refine W_box S rfl _ _ rfl (cv (d)) rfl ?_; clear S; intro bc w' S; change St _ _ (EB _ _ (cenc (d)) :: _) at S))
    | ((with_reducible refine at_load_ 43 rfl rfl ?_); (first | (refine W_loadN S rfl _ _ rfl bc 0 rfl 0 _ _ rfl (cenc (d)) Try.isAgg43 (by exact Try.sizeOf43) (fun jq uq hq => by rw [Nat.zero_add]; exact hq) ?_) | (refine W_loadN S rfl _ _ rfl bc 0 rfl 1 _ _ rfl (cenc (d)) Try.isAgg43 (by exact Try.sizeOf43) (fun jq uq hq => by rw [Nat.zero_add]; exact hq) ?_) | (refine W_loadN S rfl _ _ rfl bc 0 rfl 2 _ _ rfl (cenc (d)) Try.isAgg43 (by exact Try.sizeOf43) (fun jq uq hq => by rw [Nat.zero_add]; exact hq) ?_) | (refine W_loadN S rfl _ _ rfl bc 0 rfl 3 _ _ rfl (cenc (d)) Try.isAgg43 (by exact Try.sizeOf43) (fun jq uq hq => by rw [Nat.zero_add]; exact hq) ?_) | (refine W_loadN S rfl _ _ rfl bc 0 rfl 4 _ _ rfl (cenc (d)) Try.isAgg43 (by exact Try.sizeOf43) (fun jq uq hq => by rw [Nat.zero_add]; exact hq) ?_) | (refine W_loadN S rfl _ _ rfl bc 0 rfl 5 _ _ rfl (cenc (d)) Try.isAgg43 (by exact Try.sizeOf43) (fun jq uq hq => by rw [Nat.zero_add]; exact hq) ?_) | (refine W_loadN S rfl _ _ rfl bc 0 rfl 6 _ _ rfl (cenc (d)) Try.isAgg43 (by exact Try.sizeOf43) (fun jq uq hq => by rw [Nat.zero_add]; exact hq) ?_) | (refine W_loadN S rfl _ _ rfl bc 0 rfl 7 _ _ rfl (cenc (d)) Try.isAgg43 (by exact Try.sizeOf43) (fun jq uq hq => by rw [Nat.zero_add]; exact hq) ?_) | (refine W_loadN S rfl _ _ rfl bc 0 rfl 8 _ _ rfl (cenc (d)) Try.isAgg43 (by exact Try.sizeOf43) (fun jq uq hq => by rw [Nat.zero_add]; exact hq) ?_) | (refine W_loadN S rfl _ _ rfl bc 0 rfl 9 _ _ rfl (cenc (d)) Try.isAgg43 (by exact Try.sizeOf43) (fun jq uq hq => by rw [Nat.zero_add]; exact hq) ?_)))
    | (refine W_bslice S rfl _ (1) _ rfl 43 (cenc d) ?_ ?_; exact (fun w => by simp [go_sem, Instr.buildSlice, Try.underlying32, Try.sizeOf43, Try.zeroValue43] <;> rfl); clear S; intro bl w' S))
  replace S := S.own 0 bl _ _ rfl 2 1 1 (cenc d) rfl (Nat.le_refl _) (by decide) rfl rfl
  simp only [List.set_cons_zero] at S
  go_loopg [5] ((G.h d).toNat) (fun g u wr => ∃ (at' : Pt) (l : List Pt) (A : Option Addr) (c : Nat), u = .slice A l.length c ∧ Hid (g = (G.h at').toNat) ∧ Hid (RunAt G d l at') ∧ St w wr [ER 43 2 (.slice A l.length c) l.length (ccs l), EB bc 43 (cenc at')])
  case atStart => exact ⟨d, [d], _, _, rfl, rfl, RunAt.start V hd, S⟩
  case round =>
    clear S
    obtain ⟨p, l, A, c, rfl, HG, HR, S⟩ := hrel
    have hpc := HR.out.cell
    cases hf : falls G p with
    | false =>
      have h1 := fun w hg hR => l04Fall_any G hG V A0 c0 gb p hpc w hg hR
      rw [hf] at h1
      have HE := Lib.hid (HR.out.stop hf)
      clear hf
      go_wp2_with (first
        | ((with_reducible refine at_load_ 43 rfl rfl ?_); (first | (refine W_loadN S rfl _ _ rfl bc 0 rfl 0 _ _ rfl (cenc (p)) Try.isAgg43 (by exact Try.sizeOf43) (fun jq uq hq => by rw [Nat.zero_add]; exact hq) ?_) | (refine W_loadN S rfl _ _ rfl bc 0 rfl 1 _ _ rfl (cenc (p)) Try.isAgg43 (by exact Try.sizeOf43) (fun jq uq hq => by rw [Nat.zero_add]; exact hq) ?_) | (refine W_loadN S rfl _ _ rfl bc 0 rfl 2 _ _ rfl (cenc (p)) Try.isAgg43 (by exact Try.sizeOf43) (fun jq uq hq => by rw [Nat.zero_add]; exact hq) ?_) | (refine W_loadN S rfl _ _ rfl bc 0 rfl 3 _ _ rfl (cenc (p)) Try.isAgg43 (by exact Try.sizeOf43) (fun jq uq hq => by rw [Nat.zero_add]; exact hq) ?_) | (refine W_loadN S rfl _ _ rfl bc 0 rfl 4 _ _ rfl (cenc (p)) Try.isAgg43 (by exact Try.sizeOf43) (fun jq uq hq => by rw [Nat.zero_add]; exact hq) ?_) | (refine W_loadN S rfl _ _ rfl bc 0 rfl 5 _ _ rfl (cenc (p)) Try.isAgg43 (by exact Try.sizeOf43) (fun jq uq hq => by rw [Nat.zero_add]; exact hq) ?_) | (refine W_loadN S rfl _ _ rfl bc 0 rfl 6 _ _ rfl (cenc (p)) Try.isAgg43 (by exact Try.sizeOf43) (fun jq uq hq => by rw [Nat.zero_add]; exact hq) ?_) | (refine W_loadN S rfl _ _ rfl bc 0 rfl 7 _ _ rfl (cenc (p)) Try.isAgg43 (by exact Try.sizeOf43) (fun jq uq hq => by rw [Nat.zero_add]; exact hq) ?_) | (refine W_loadN S rfl _ _ rfl bc 0 rfl 8 _ _ rfl (cenc (p)) Try.isAgg43 (by exact Try.sizeOf43) (fun jq uq hq => by rw [Nat.zero_add]; exact hq) ?_) | (refine W_loadN S rfl _ _ rfl bc 0 rfl 9 _ _ rfl (cenc (p)) Try.isAgg43 (by exact Try.sizeOf43) (fun jq uq hq => by rw [Nat.zero_add]; exact hq) ?_)))
        | ((with_reducible refine at_alloc_ 43 rfl rfl ?_); ((fail_if_success have hq := bn); refine W_alloc S rfl 43 rfl _ Try.zeroValue43 ?_; clear S; intro bn w' S; change St _ _ (EB _ _ (cenc (0, 0)) :: _) at S))
        | ((with_reducible refine at_store_ 43 rfl rfl ?_); (first | (refine W_storeW S rfl _ _ _ rfl bn rfl 0 _ _ rfl (cenc (fallTo G p)) rfl (by exact Try.sizeOf43) (rfl) (one_cells rfl) ?_; clear S; intro w' S; simp only [List.set_cons_zero, List.set_cons_succ] at S) | (refine W_storeW S rfl _ _ _ rfl bn rfl 1 _ _ rfl (cenc (fallTo G p)) rfl (by exact Try.sizeOf43) (rfl) (one_cells rfl) ?_; clear S; intro w' S; simp only [List.set_cons_zero, List.set_cons_succ] at S) | (refine W_storeW S rfl _ _ _ rfl bn rfl 2 _ _ rfl (cenc (fallTo G p)) rfl (by exact Try.sizeOf43) (rfl) (one_cells rfl) ?_; clear S; intro w' S; simp only [List.set_cons_zero, List.set_cons_succ] at S) | (refine W_storeW S rfl _ _ _ rfl bn rfl 3 _ _ rfl (cenc (fallTo G p)) rfl (by exact Try.sizeOf43) (rfl) (one_cells rfl) ?_; clear S; intro w' S; simp only [List.set_cons_zero, List.set_cons_succ] at S) | (refine W_storeW S rfl _ _ _ rfl bn rfl 4 _ _ rfl (cenc (fallTo G p)) rfl (by exact Try.sizeOf43) (rfl) (one_cells rfl) ?_; clear S; intro w' S; simp only [List.set_cons_zero, List.set_cons_succ] at S) | (refine W_storeW S rfl _ _ _ rfl bn rfl 5 _ _ rfl (cenc (fallTo G p)) rfl (by exact Try.sizeOf43) (rfl) (one_cells rfl) ?_; clear S; intro w' S; simp only [List.set_cons_zero, List.set_cons_succ] at S)))
        | (go_at_call 107; refine (h1 _ (hg.st S) (hR.st S)).mono ?_; rintro e w1 ⟨rfl, hb⟩; replace S := S.callB hb; clear hb))
      go_ret
      rw [← HE.out]
      exact ⟨A, c, rfl, S.only (k := 1) rfl⟩
    | true =>
      have h1 := fun w hg hR => l04Fall_any G hG V A0 c0 gb p hpc w hg hR
      rw [hf] at h1
      have HN := Lib.hid (HR.out.on V hf)
      have HL := Lib.hid (falls_lt hf)
      have h2 := V.h_le (fallTo_cell hpc)
      have hlen := Lib.hid HR.out.len
      clear hf
      go_wp2_with (first
        | (have hq := bn; clear hq; ((with_reducible refine at_load_ 43 rfl rfl ?_); (first | ((first | (refine W_loadN S rfl _ _ rfl bn 0 rfl 0 _ _ rfl (cenc (fallTo G p)) Try.isAgg43 (by exact Try.sizeOf43) (fun jq uq hq => by rw [Nat.zero_add]; exact hq) ?_) | (refine W_loadN S rfl _ _ rfl bn 0 rfl 1 _ _ rfl (cenc (fallTo G p)) Try.isAgg43 (by exact Try.sizeOf43) (fun jq uq hq => by rw [Nat.zero_add]; exact hq) ?_) | (refine W_loadN S rfl _ _ rfl bn 0 rfl 2 _ _ rfl (cenc (fallTo G p)) Try.isAgg43 (by exact Try.sizeOf43) (fun jq uq hq => by rw [Nat.zero_add]; exact hq) ?_) | (refine W_loadN S rfl _ _ rfl bn 0 rfl 3 _ _ rfl (cenc (fallTo G p)) Try.isAgg43 (by exact Try.sizeOf43) (fun jq uq hq => by rw [Nat.zero_add]; exact hq) ?_) | (refine W_loadN S rfl _ _ rfl bn 0 rfl 4 _ _ rfl (cenc (fallTo G p)) Try.isAgg43 (by exact Try.sizeOf43) (fun jq uq hq => by rw [Nat.zero_add]; exact hq) ?_) | (refine W_loadN S rfl _ _ rfl bn 0 rfl 5 _ _ rfl (cenc (fallTo G p)) Try.isAgg43 (by exact Try.sizeOf43) (fun jq uq hq => by rw [Nat.zero_add]; exact hq) ?_) | (refine W_loadN S rfl _ _ rfl bn 0 rfl 6 _ _ rfl (cenc (fallTo G p)) Try.isAgg43 (by exact Try.sizeOf43) (fun jq uq hq => by rw [Nat.zero_add]; exact hq) ?_) | (refine W_loadN S rfl _ _ rfl bn 0 rfl 7 _ _ rfl (cenc (fallTo G p)) Try.isAgg43 (by exact Try.sizeOf43) (fun jq uq hq => by rw [Nat.zero_add]; exact hq) ?_) | (refine W_loadN S rfl _ _ rfl bn 0 rfl 8 _ _ rfl (cenc (fallTo G p)) Try.isAgg43 (by exact Try.sizeOf43) (fun jq uq hq => by rw [Nat.zero_add]; exact hq) ?_) | (refine W_loadN S rfl _ _ rfl bn 0 rfl 9 _ _ rfl (cenc (fallTo G p)) Try.isAgg43 (by exact Try.sizeOf43) (fun jq uq hq => by rw [Nat.zero_add]; exact hq) ?_))) | ((first | (refine W_loadN S rfl _ _ rfl bc 0 rfl 0 _ _ rfl (cenc (fallTo G p)) Try.isAgg43 (by exact Try.sizeOf43) (fun jq uq hq => by rw [Nat.zero_add]; exact hq) ?_) | (refine W_loadN S rfl _ _ rfl bc 0 rfl 1 _ _ rfl (cenc (fallTo G p)) Try.isAgg43 (by exact Try.sizeOf43) (fun jq uq hq => by rw [Nat.zero_add]; exact hq) ?_) | (refine W_loadN S rfl _ _ rfl bc 0 rfl 2 _ _ rfl (cenc (fallTo G p)) Try.isAgg43 (by exact Try.sizeOf43) (fun jq uq hq => by rw [Nat.zero_add]; exact hq) ?_) | (refine W_loadN S rfl _ _ rfl bc 0 rfl 3 _ _ rfl (cenc (fallTo G p)) Try.isAgg43 (by exact Try.sizeOf43) (fun jq uq hq => by rw [Nat.zero_add]; exact hq) ?_) | (refine W_loadN S rfl _ _ rfl bc 0 rfl 4 _ _ rfl (cenc (fallTo G p)) Try.isAgg43 (by exact Try.sizeOf43) (fun jq uq hq => by rw [Nat.zero_add]; exact hq) ?_) | (refine W_loadN S rfl _ _ rfl bc 0 rfl 5 _ _ rfl (cenc (fallTo G p)) Try.isAgg43 (by exact Try.sizeOf43) (fun jq uq hq => by rw [Nat.zero_add]; exact hq) ?_) | (refine W_loadN S rfl _ _ rfl bc 0 rfl 6 _ _ rfl (cenc (fallTo G p)) Try.isAgg43 (by exact Try.sizeOf43) (fun jq uq hq => by rw [Nat.zero_add]; exact hq) ?_) | (refine W_loadN S rfl _ _ rfl bc 0 rfl 7 _ _ rfl (cenc (fallTo G p)) Try.isAgg43 (by exact Try.sizeOf43) (fun jq uq hq => by rw [Nat.zero_add]; exact hq) ?_) | (refine W_loadN S rfl _ _ rfl bc 0 rfl 8 _ _ rfl (cenc (fallTo G p)) Try.isAgg43 (by exact Try.sizeOf43) (fun jq uq hq => by rw [Nat.zero_add]; exact hq) ?_) | (refine W_loadN S rfl _ _ rfl bc 0 rfl 9 _ _ rfl (cenc (fallTo G p)) Try.isAgg43 (by exact Try.sizeOf43) (fun jq uq hq => by rw [Nat.zero_add]; exact hq) ?_))))))
        | ((with_reducible refine at_load_ 43 rfl rfl ?_); (first | (refine W_loadN S rfl _ _ rfl bc 0 rfl 0 _ _ rfl (cenc (p)) Try.isAgg43 (by exact Try.sizeOf43) (fun jq uq hq => by rw [Nat.zero_add]; exact hq) ?_) | (refine W_loadN S rfl _ _ rfl bc 0 rfl 1 _ _ rfl (cenc (p)) Try.isAgg43 (by exact Try.sizeOf43) (fun jq uq hq => by rw [Nat.zero_add]; exact hq) ?_) | (refine W_loadN S rfl _ _ rfl bc 0 rfl 2 _ _ rfl (cenc (p)) Try.isAgg43 (by exact Try.sizeOf43) (fun jq uq hq => by rw [Nat.zero_add]; exact hq) ?_) | (refine W_loadN S rfl _ _ rfl bc 0 rfl 3 _ _ rfl (cenc (p)) Try.isAgg43 (by exact Try.sizeOf43) (fun jq uq hq => by rw [Nat.zero_add]; exact hq) ?_) | (refine W_loadN S rfl _ _ rfl bc 0 rfl 4 _ _ rfl (cenc (p)) Try.isAgg43 (by exact Try.sizeOf43) (fun jq uq hq => by rw [Nat.zero_add]; exact hq) ?_) | (refine W_loadN S rfl _ _ rfl bc 0 rfl 5 _ _ rfl (cenc (p)) Try.isAgg43 (by exact Try.sizeOf43) (fun jq uq hq => by rw [Nat.zero_add]; exact hq) ?_) | (refine W_loadN S rfl _ _ rfl bc 0 rfl 6 _ _ rfl (cenc (p)) Try.isAgg43 (by exact Try.sizeOf43) (fun jq uq hq => by rw [Nat.zero_add]; exact hq) ?_) | (refine W_loadN S rfl _ _ rfl bc 0 rfl 7 _ _ rfl (cenc (p)) Try.isAgg43 (by exact Try.sizeOf43) (fun jq uq hq => by rw [Nat.zero_add]; exact hq) ?_) | (refine W_loadN S rfl _ _ rfl bc 0 rfl 8 _ _ rfl (cenc (p)) Try.isAgg43 (by exact Try.sizeOf43) (fun jq uq hq => by rw [Nat.zero_add]; exact hq) ?_) | (refine W_loadN S rfl _ _ rfl bc 0 rfl 9 _ _ rfl (cenc (p)) Try.isAgg43 (by exact Try.sizeOf43) (fun jq uq hq => by rw [Nat.zero_add]; exact hq) ?_)))
        | ((with_reducible refine at_alloc_ 43 rfl rfl ?_); ((fail_if_success have hq := bn); refine W_alloc S rfl 43 rfl _ Try.zeroValue43 ?_; clear S; intro bn w' S; change St _ _ (EB _ _ (cenc (0, 0)) :: _) at S))
        | ((with_reducible refine at_store_ 43 rfl rfl ?_); (first | (first | (refine W_storeW S rfl _ _ _ rfl bn rfl 0 _ _ rfl (cenc (fallTo G p)) rfl (by exact Try.sizeOf43) (rfl) (one_cells rfl) ?_; clear S; intro w' S; simp only [List.set_cons_zero, List.set_cons_succ] at S) | (refine W_storeW S rfl _ _ _ rfl bn rfl 1 _ _ rfl (cenc (fallTo G p)) rfl (by exact Try.sizeOf43) (rfl) (one_cells rfl) ?_; clear S; intro w' S; simp only [List.set_cons_zero, List.set_cons_succ] at S) | (refine W_storeW S rfl _ _ _ rfl bn rfl 2 _ _ rfl (cenc (fallTo G p)) rfl (by exact Try.sizeOf43) (rfl) (one_cells rfl) ?_; clear S; intro w' S; simp only [List.set_cons_zero, List.set_cons_succ] at S) | (refine W_storeW S rfl _ _ _ rfl bn rfl 3 _ _ rfl (cenc (fallTo G p)) rfl (by exact Try.sizeOf43) (rfl) (one_cells rfl) ?_; clear S; intro w' S; simp only [List.set_cons_zero, List.set_cons_succ] at S) | (refine W_storeW S rfl _ _ _ rfl bn rfl 4 _ _ rfl (cenc (fallTo G p)) rfl (by exact Try.sizeOf43) (rfl) (one_cells rfl) ?_; clear S; intro w' S; simp only [List.set_cons_zero, List.set_cons_succ] at S) | (refine W_storeW S rfl _ _ _ rfl bn rfl 5 _ _ rfl (cenc (fallTo G p)) rfl (by exact Try.sizeOf43) (rfl) (one_cells rfl) ?_; clear S; intro w' S; simp only [List.set_cons_zero, List.set_cons_succ] at S)) | ((first | (refine W_storeW S rfl _ _ _ rfl bc rfl 0 _ _ rfl (cenc (fallTo G p)) rfl (by exact Try.sizeOf43) (rfl) (one_cells rfl) ?_; clear S; intro w' S; simp only [List.set_cons_zero, List.set_cons_succ] at S) | (refine W_storeW S rfl _ _ _ rfl bc rfl 1 _ _ rfl (cenc (fallTo G p)) rfl (by exact Try.sizeOf43) (rfl) (one_cells rfl) ?_; clear S; intro w' S; simp only [List.set_cons_zero, List.set_cons_succ] at S) | (refine W_storeW S rfl _ _ _ rfl bc rfl 2 _ _ rfl (cenc (fallTo G p)) rfl (by exact Try.sizeOf43) (rfl) (one_cells rfl) ?_; clear S; intro w' S; simp only [List.set_cons_zero, List.set_cons_succ] at S) | (refine W_storeW S rfl _ _ _ rfl bc rfl 3 _ _ rfl (cenc (fallTo G p)) rfl (by exact Try.sizeOf43) (rfl) (one_cells rfl) ?_; clear S; intro w' S; simp only [List.set_cons_zero, List.set_cons_succ] at S) | (refine W_storeW S rfl _ _ _ rfl bc rfl 4 _ _ rfl (cenc (fallTo G p)) rfl (by exact Try.sizeOf43) (rfl) (one_cells rfl) ?_; clear S; intro w' S; simp only [List.set_cons_zero, List.set_cons_succ] at S) | (refine W_storeW S rfl _ _ _ rfl bc rfl 5 _ _ rfl (cenc (fallTo G p)) rfl (by exact Try.sizeOf43) (rfl) (one_cells rfl) ?_; clear S; intro w' S; simp only [List.set_cons_zero, List.set_cons_succ] at S)); replace S := S.tail)))
        | (go_at_call 107; refine (h1 _ (hg.st S) (hR.st S)).mono ?_; rintro e w1 ⟨rfl, hb⟩; replace S := S.callB hb; clear hb)
        | (refine W_bslice S rfl _ (1) _ rfl 43 (cenc (fallTo G p)) ?_ ?_; exact (fun w => by simp [go_sem, Instr.buildSlice, Try.underlying32, Try.sizeOf43, Try.zeroValue43] <;> rfl); clear S; intro bm w' S)
        | (refine W_append S rfl _ _ _ rfl 1 43 2 _ _ _ rfl rfl 0 _ _ _ rfl 1 1 rfl default _ 2 Try.underlying32 cellInfo rfl (by decide) rfl (one_cells rfl) ?_ ?_ ?_; (first | (have := hlen.out; unfold maxLen; omega) | (have := hlen.out; omega)); (first | (have := hlen.out; unfold maxLen; omega) | (have := hlen.out; omega)); clear S; intro A' c' w' S; simp only [List.set_cons_zero, List.set_cons_succ] at S; replace S := S.tail))
      go_roundg ((G.h (fallTo G p)).toNat)
      case measure => rw [HG.out]; have := HL.out; omega
      case rel => exact ⟨fallTo G p, l ++ [fallTo G p], A', c', by rw [List.length_append]; rfl, rfl, HN, by rw [ccs_app, List.length_append]; exact S⟩

def askCode (v : Bool) (b : Bool) : Int := if v = true then (if b = true then 0 else 2) else 1
theorem ptCode_ask (G : Gnd) (d : Pt) : ptCode G d = askCode (validB G) (isCellB G.wide G.high d) := rfl
set_option maxRecDepth 100000 in
set_option maxHeartbeats 1000000 in
theorem l04Asked_any (G : Gnd) (hG : G.Ok) (A : Option Addr) (c : Nat) (gb : Nat) (b : Bool) (w : World) (hg : Rd w (some ⟨gb, 0, none⟩) (gcs G (.slice A G.gul.length c))) (hR : Rd w A (ccs G.gul)) :
    Calls Try.prog 58 #[.pointer (some ⟨gb, 0, none⟩), .bool b] w fun e w' => e = .returned (.int .i64 (askCode (validB G) b)) ∧ Below w.heap.size w w' := by
  have S := St.refl w
  have hvg := fun w' (hb : Below w.heap.size w w') => l04Ok_any G hG A c gb w' (hg.below hb) (hR.below hb)
  cases hv : validB G with
  | true =>
    rw [hv] at hvg
    cases b
    all_goals
      go_enter Try.func58, Try.ntmps58
      go_wp2_with (first
        | (go_at_call 75; refine (hvg _ S.below).mono ?_; rintro e w1 ⟨rfl, hb⟩; replace S := S.callB hb; clear hb))
      go_ret; exact ⟨rfl, S.below⟩
  | false =>
    rw [hv] at hvg
    go_enter Try.func58, Try.ntmps58
    go_wp2_with (first
      | (go_at_call 75; refine (hvg _ S.below).mono ?_; rintro e w1 ⟨rfl, hb⟩; replace S := S.callB hb; clear hb))
    go_ret; exact ⟨rfl, S.below⟩

set_option maxRecDepth 100000 in
set_option maxHeartbeats 1000000 in
theorem sRunFrom_any (G : Gnd) (hG : G.Ok) (A0 : Option Addr) (c0 : Nat) (d : Pt) (hd : (-128 ≤ d.1 ∧ d.1 ≤ 127) ∧ -128 ≤ d.2 ∧ d.2 ≤ 127) (w : World) (hR : Rd w A0 (ccs G.gul)) :
    Calls Try.prog 16 #[gv G (.slice A0 G.gul.length c0), cv d] w fun e w' => ∃ A c, e = .returned (.tuple #[.slice A (runR G d).length c, .int .i64 (ptCode G d)]) ∧ St w w' [ER 43 2 (.slice A (runR G d).length c) (runR G d).length (ccs (runR G d))] := by
  have S := St.refl w
  have his := fun gb w' h => l04Is_any G hG (.slice A0 G.gul.length c0) gb d.1 d.2 hd.1 hd.2 w' h
  have hac := fun gb w' h1 h2 => l04Asked_any G hG A0 c0 gb (isCellB G.wide G.high d) w' h1 h2
  rw [← ptCode_ask] at hac
  by_cases hv : ptCode G d = 0
  · obtain ⟨V, hdc⟩ := ptCode_0.1 hv
    rw [runR_0 hv]
    rw [hv, hdc] at hac; rw [hv]
    clear hv
    go_enter Try.func16, Try.ntmps16
    go_wp2_with (first
      | ((with_reducible refine at_box_ 34 rfl rfl ?_); (refine W_box S rfl _ _ rfl (gv G (.slice A0 G.gul.length c0)) rfl ?_; clear S; intro bg w' S; change St _ _ (EB _ _ (gcs G (.slice A0 G.gul.length c0)) :: _) at S))
      | ((with_reducible refine at_box_ 43 rfl rfl ?_); ((fail_if_success have hq := bc); refine W_box S rfl _ _ rfl (cv (d)) rfl ?_; clear S; intro bc w' S; change St _ _ (EB _ _ (cenc (d)) :: _) at S))
      | ((with_reducible refine at_load_ 43 rfl rfl ?_); (first | (refine W_loadN S rfl _ _ rfl bc 0 rfl 0 _ _ rfl (cenc (d)) Try.isAgg43 (by exact Try.sizeOf43) (fun jq uq hq => by rw [Nat.zero_add]; exact hq) ?_) | (refine W_loadN S rfl _ _ rfl bc 0 rfl 1 _ _ rfl (cenc (d)) Try.isAgg43 (by exact Try.sizeOf43) (fun jq uq hq => by rw [Nat.zero_add]; exact hq) ?_) | (refine W_loadN S rfl _ _ rfl bc 0 rfl 2 _ _ rfl (cenc (d)) Try.isAgg43 (by exact Try.sizeOf43) (fun jq uq hq => by rw [Nat.zero_add]; exact hq) ?_) | (refine W_loadN S rfl _ _ rfl bc 0 rfl 3 _ _ rfl (cenc (d)) Try.isAgg43 (by exact Try.sizeOf43) (fun jq uq hq => by rw [Nat.zero_add]; exact hq) ?_) | (refine W_loadN S rfl _ _ rfl bc 0 rfl 4 _ _ rfl (cenc (d)) Try.isAgg43 (by exact Try.sizeOf43) (fun jq uq hq => by rw [Nat.zero_add]; exact hq) ?_) | (refine W_loadN S rfl _ _ rfl bc 0 rfl 5 _ _ rfl (cenc (d)) Try.isAgg43 (by exact Try.sizeOf43) (fun jq uq hq => by rw [Nat.zero_add]; exact hq) ?_) | (refine W_loadN S rfl _ _ rfl bc 0 rfl 6 _ _ rfl (cenc (d)) Try.isAgg43 (by exact Try.sizeOf43) (fun jq uq hq => by rw [Nat.zero_add]; exact hq) ?_) | (refine W_loadN S rfl _ _ rfl bc 0 rfl 7 _ _ rfl (cenc (d)) Try.isAgg43 (by exact Try.sizeOf43) (fun jq uq hq => by rw [Nat.zero_add]; exact hq) ?_) | (refine W_loadN S rfl _ _ rfl bc 0 rfl 8 _ _ rfl (cenc (d)) Try.isAgg43 (by exact Try.sizeOf43) (fun jq uq hq => by rw [Nat.zero_add]; exact hq) ?_) | (refine W_loadN S rfl _ _ rfl bc 0 rfl 9 _ _ rfl (cenc (d)) Try.isAgg43 (by exact Try.sizeOf43) (fun jq uq hq => by rw [Nat.zero_add]; exact hq) ?_)))
      | (go_at_call 59; refine (his bg _ (rd_EB0 S (k := 1) rfl)).mono ?_; rintro e w1 ⟨rfl, hb⟩; replace S := S.callB hb; clear hb)
      | (go_at_call 58; refine (hac bg _ (rd_EB0 S (k := 1) rfl) (hR.st S)).mono ?_; rintro e w1 ⟨rfl, hb⟩; replace S := S.callB hb; clear hb)
      | (go_at_call 60; refine Calls.mono (l04Run_any G hG V A0 c0 bg d hdc _ (rd_EB0 S (k := 1) rfl) (hR.st S)) ?_; rintro e w1 ⟨A, c, rfl, S2⟩; replace S := S.call S2; clear S2; simp only [List.cons_append, List.nil_append] at S))
    go_ret2
    exact ⟨A, c, rfl, S.only (k := 0) rfl⟩
  · have hne : (ptCode G d == 0) = false := by simpa using hv
    rw [runR_no hv]
    clear hv
    go_enter Try.func16, Try.ntmps16
    go_wp2_with (first
      | ((with_reducible refine at_box_ 34 rfl rfl ?_); (refine W_box S rfl _ _ rfl (gv G (.slice A0 G.gul.length c0)) rfl ?_; clear S; intro bg w' S; change St _ _ (EB _ _ (gcs G (.slice A0 G.gul.length c0)) :: _) at S))
      | ((with_reducible refine at_box_ 43 rfl rfl ?_); ((fail_if_success have hq := bc); refine W_box S rfl _ _ rfl (cv (d)) rfl ?_; clear S; intro bc w' S; change St _ _ (EB _ _ (cenc (d)) :: _) at S))
      | ((with_reducible refine at_load_ 43 rfl rfl ?_); (first | (refine W_loadN S rfl _ _ rfl bc 0 rfl 0 _ _ rfl (cenc (d)) Try.isAgg43 (by exact Try.sizeOf43) (fun jq uq hq => by rw [Nat.zero_add]; exact hq) ?_) | (refine W_loadN S rfl _ _ rfl bc 0 rfl 1 _ _ rfl (cenc (d)) Try.isAgg43 (by exact Try.sizeOf43) (fun jq uq hq => by rw [Nat.zero_add]; exact hq) ?_) | (refine W_loadN S rfl _ _ rfl bc 0 rfl 2 _ _ rfl (cenc (d)) Try.isAgg43 (by exact Try.sizeOf43) (fun jq uq hq => by rw [Nat.zero_add]; exact hq) ?_) | (refine W_loadN S rfl _ _ rfl bc 0 rfl 3 _ _ rfl (cenc (d)) Try.isAgg43 (by exact Try.sizeOf43) (fun jq uq hq => by rw [Nat.zero_add]; exact hq) ?_) | (refine W_loadN S rfl _ _ rfl bc 0 rfl 4 _ _ rfl (cenc (d)) Try.isAgg43 (by exact Try.sizeOf43) (fun jq uq hq => by rw [Nat.zero_add]; exact hq) ?_) | (refine W_loadN S rfl _ _ rfl bc 0 rfl 5 _ _ rfl (cenc (d)) Try.isAgg43 (by exact Try.sizeOf43) (fun jq uq hq => by rw [Nat.zero_add]; exact hq) ?_) | (refine W_loadN S rfl _ _ rfl bc 0 rfl 6 _ _ rfl (cenc (d)) Try.isAgg43 (by exact Try.sizeOf43) (fun jq uq hq => by rw [Nat.zero_add]; exact hq) ?_) | (refine W_loadN S rfl _ _ rfl bc 0 rfl 7 _ _ rfl (cenc (d)) Try.isAgg43 (by exact Try.sizeOf43) (fun jq uq hq => by rw [Nat.zero_add]; exact hq) ?_) | (refine W_loadN S rfl _ _ rfl bc 0 rfl 8 _ _ rfl (cenc (d)) Try.isAgg43 (by exact Try.sizeOf43) (fun jq uq hq => by rw [Nat.zero_add]; exact hq) ?_) | (refine W_loadN S rfl _ _ rfl bc 0 rfl 9 _ _ rfl (cenc (d)) Try.isAgg43 (by exact Try.sizeOf43) (fun jq uq hq => by rw [Nat.zero_add]; exact hq) ?_)))
      | (go_at_call 59; refine (his bg _ (rd_EB0 S (k := 1) rfl)).mono ?_; rintro e w1 ⟨rfl, hb⟩; replace S := S.callB hb; clear hb)
      | (go_at_call 58; refine (hac bg _ (rd_EB0 S (k := 1) rfl) (hR.st S)).mono ?_; rintro e w1 ⟨rfl, hb⟩; replace S := S.callB hb; clear hb)
      | (refine W_bslice S rfl _ (0) _ rfl 43 ([]) ?_ ?_; exact (fun w => by simp [go_sem, Instr.buildSlice, Try.underlying32, Try.sizeOf43, Try.zeroValue43] <;> rfl); clear S; intro bl w' S))
    replace S := S.own 0 bl _ _ rfl 2 0 0 [] rfl (Nat.le_refl _) (by decide) rfl rfl
    simp only [List.set_cons_zero] at S
    go_ret2
    exact ⟨_, 0, rfl, S.only (k := 0) rfl⟩
end Go.Proofs.Ytpfmmbdddecphaa
