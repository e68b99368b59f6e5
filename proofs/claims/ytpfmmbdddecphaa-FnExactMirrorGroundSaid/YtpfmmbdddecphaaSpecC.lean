/- The reference's l04Ok, l04Pools. -/
import Derived.Test.YtpfmmbdddecphaaSpecB
import Derived.Test.YtpfmmbdddecphaaLev
namespace Go.Proofs.Ytpfmmbdddecphaa
open Go.RowKit Go.Sort
set_option linter.unusedVariables false
set_option linter.unusedSimpArgs false

theorem ok_row {G : Gnd} {x y : Nat} (hw : within (G.at x y) 0 200 = true) (h : G.at x y = 0 ∨ isCellB G.wide G.high ((x : Int), (y : Int)) = true) : 0 ≤ G.at x y ∧ G.at x y ≤ if isCellB G.wide G.high ((x : Int), (y : Int)) = true then 200 else 0 := by
  have := within_t.1 hw
  rcases h with h | h
  · split <;> omega
  · rw [if_pos h]; exact this
theorem ok_bad1 {G : Gnd} {x y : Nat} (hx : x < 9) (hy : y < 9) (hw : within (G.at x y) 0 200 = false) : validB G = false :=
  validB_f.2 fun V => by
    have h1 := V.hs x y hx hy
    have h2 := within_f.1 hw
    split at h1 <;> omega
theorem ok_bad2 {G : Gnd} {x y : Nat} (hx : x < 9) (hy : y < 9) (h0 : ¬ G.at x y = 0) (hc : isCellB G.wide G.high ((x : Int), (y : Int)) = false) : validB G = false :=
  validB_f.2 fun V => by
    have h1 := V.hs x y hx hy
    rw [if_neg (by rw [hc]; simp)] at h1
    omega

set_option maxRecDepth 100000 in
set_option maxHeartbeats 4000000 in
theorem l04Ok_any (G : Gnd) (hG : G.Ok) (A : Option Addr) (c : Nat) (gb : Nat) (w : World) (hg : Rd w (some ⟨gb, 0, none⟩) (gcs G (.slice A G.gul.length c))) (hR : Rd w A (ccs G.gul)) :
    Calls Try.prog 75 #[.pointer (some ⟨gb, 0, none⟩)] w fun e w' => e = .returned (.bool (validB G)) ∧ Below w.heap.size w w' := by
  have S := St.refl w
  have b1 := hG.wide
  have b2 := hG.high
  have c1 := fun w => l00In_any G.wide 1 9 w
  have c2 := fun w => l00In_any G.high 1 9 w
  cases h1 : within G.wide 1 9 with
  | true =>
    rw [h1] at c1
    cases h2 : within G.high 1 9 with
    | true =>
      rw [h2] at c2
      by_cases h3 : G.gul.length ≤ 8
      · go_enter Try.func75, Try.ntmps75
        go_wp2_with (first
          | (refine W_load1C rfl _ _ rfl ⟨gb, 0, none⟩ rfl (.int .i8 G.wide) Try.isAgg22 ?_ ?_; exact (hg.st S).at0 (rfl)) | (refine W_load1C rfl _ _ rfl ⟨gb, 1, none⟩ rfl (.int .i8 G.high) Try.isAgg22 ?_ ?_; exact (hg.st S).at0 (rfl)) | (refine W_load1C rfl _ _ rfl ⟨gb, 83, none⟩ rfl (.slice A G.gul.length c) Try.isAgg32 ?_ ?_; exact (hg.st S).at0 (gcs_gul hG.len _))
          | (go_at_call 65; (first | with_reducible refine Calls.mono (c1 _) ?_ | with_reducible refine Calls.mono (c2 _) ?_); rintro e w1 ⟨rfl, rfl⟩))
        go_loopw [3] (fun i wr => ∃ y : Nat, y ≤ 9 ∧ i = .int .i8 y ∧ Hid (∀ y', y' < y → Row9 G y') ∧ St w wr []) (fun i _ => 9 - (intOf i).toNat)
        case atStart => exact ⟨0, by omega, rfl, fun y' h => absurd h (by omega), S⟩
        case round =>
          obtain ⟨y, hy, rfl, HR, S⟩ := hrel
          by_cases hlt : y < 9
          · have hlt' : (y : Int) < 9 := by omega
            go_wp2
            go_loopw [4] (fun i wr => ∃ x : Nat, x ≤ 9 ∧ i = .int .i8 x ∧ Hid (∀ x', x' < x → 0 ≤ G.at x' y ∧ G.at x' y ≤ if isCellB G.wide G.high ((x' : Int), (y : Int)) = true then 200 else 0) ∧ St w wr []) (fun i _ => 9 - (intOf i).toNat)
            case atStart => exact ⟨0, by omega, rfl, fun y' h => absurd h (by omega), S⟩
            case round =>
              obtain ⟨x, hx, rfl, HX, S⟩ := hrel
              by_cases hxl : x < 9
              · have b3 := hG.at x y
                have hw' := fun w => l00In_any (G.at x y) 0 200 w
                have hi' := fun w' h => l04Is_any G hG (.slice A G.gul.length c) gb (x : Int) (y : Int) (by omega) (by omega) w' h
                cases hwi : within (G.at x y) 0 200 with
                | true =>
                  rw [hwi] at hw'
                  by_cases hz : G.at x y = 0
                  · have HZ := Lib.hid hz
                    have hzn : (G.at x y != 0) = false := by simpa using hz
                    clear hz
                    go_wp2_with (first
                      | (refine W_load1C rfl _ _ rfl _ rfl (.int .i16 (G.at x y)) Try.isAgg23 ?_ ?_; exact (hg.st S).at0 (gcs_at hG.len _ (x := (x : Int)) (y := (y : Int)) (by omega) (by omega)))
                      | (go_at_call 65; refine (hw' _).mono ?_; rintro e w1 ⟨rfl, rfl⟩)
                      | (go_at_call 59; refine Calls.mono (hi' _ (hg.st S)) ?_; rintro e w1 ⟨rfl, hb⟩; replace S := S.callB hb; clear hb))
                    refine ⟨⟨x + 1, by omega, by go_num, vg_more HX.out (ok_row hwi (.inl HZ.out)), S⟩, ?_⟩; simp [intOf]; omega
                  · have hzn : (G.at x y != 0) = true := by simpa using hz
                    cases hc : isCellB G.wide G.high ((x : Int), (y : Int)) with
                    | true =>
                      have hi' := fun w' h => by have := hi' w' h; rwa [hc] at this
                      go_wp2_with (first
                        | (refine W_load1C rfl _ _ rfl _ rfl (.int .i16 (G.at x y)) Try.isAgg23 ?_ ?_; exact (hg.st S).at0 (gcs_at hG.len _ (x := (x : Int)) (y := (y : Int)) (by omega) (by omega)))
                        | (go_at_call 65; refine (hw' _).mono ?_; rintro e w1 ⟨rfl, rfl⟩)
                        | (go_at_call 59; refine Calls.mono (hi' _ (hg.st S)) ?_; rintro e w1 ⟨rfl, hb⟩; replace S := S.callB hb; clear hb))
                      refine ⟨⟨x + 1, by omega, by go_num, vg_more HX.out (ok_row hwi (.inr hc)), S⟩, ?_⟩; simp [intOf]; omega
                    | false =>
                      have hi' := fun w' h => by have := hi' w' h; rwa [hc] at this
                      go_wp2_with (first
                        | (refine W_load1C rfl _ _ rfl _ rfl (.int .i16 (G.at x y)) Try.isAgg23 ?_ ?_; exact (hg.st S).at0 (gcs_at hG.len _ (x := (x : Int)) (y := (y : Int)) (by omega) (by omega)))
                        | (go_at_call 65; refine (hw' _).mono ?_; rintro e w1 ⟨rfl, rfl⟩)
                        | (go_at_call 59; refine Calls.mono (hi' _ (hg.st S)) ?_; rintro e w1 ⟨rfl, hb⟩; replace S := S.callB hb; clear hb))
                      go_ret; exact ⟨ret_b (ok_bad2 hxl hlt hz hc).symm, S.below⟩
                | false =>
                  rw [hwi] at hw'
                  go_wp2_with (first
                    | (refine W_load1C rfl _ _ rfl _ rfl (.int .i16 (G.at x y)) Try.isAgg23 ?_ ?_; exact (hg.st S).at0 (gcs_at hG.len _ (x := (x : Int)) (y := (y : Int)) (by omega) (by omega)))
                    | (go_at_call 65; refine (hw' _).mono ?_; rintro e w1 ⟨rfl, rfl⟩)
                    | (go_at_call 59; refine Calls.mono (hi' _ (hg.st S)) ?_; rintro e w1 ⟨rfl, hb⟩; replace S := S.callB hb; clear hb))
                  go_ret; exact ⟨ret_b (ok_bad1 hxl hlt hwi).symm, S.below⟩
              · have hx9 : x = 9 := by omega
                subst hx9
                go_wp2
                refine ⟨⟨y + 1, by omega, by go_num, vg_row HR.out HX.out, S⟩, ?_⟩
                simp [intOf]; omega
          · have hge : ¬ (y : Int) < 9 := by omega
            have HR : Hid (∀ y', y' < 9 → Row9 G y') := fun y' h => HR.out y' (by omega)
            go_wp2
            go_loopw [6] (fun i wr => ∃ k : Nat, k ≤ G.gul.length ∧ i = .int .i64 k ∧ Hid (∀ i, i < k → GulOk G i) ∧ St w wr []) (fun i _ => G.gul.length - (intOf i).toNat)
            case atStart => exact ⟨0, by omega, rfl, fun y' h => absurd h (by omega), S⟩
            case round =>
              obtain ⟨k, hk, rfl, HK, S⟩ := hrel
              by_cases hkl : k < G.gul.length
              · obtain ⟨d, hd⟩ : ∃ d, G.gul[k]? = some d := ⟨_, List.getElem?_eq_getElem hkl⟩
                have hdr := hG.gul d (List.mem_of_getElem? hd)
                obtain ⟨d1, d2⟩ := d
                have HD := Lib.hid hd; clear hd
                obtain ⟨bi, oi, hA⟩ := hR.1 (ccs_ne HD.out)
                subst hA
                have hgs := hg.st S
                go_wp2_with (first
                  | (refine W_load1C rfl _ _ rfl ⟨gb, 83, none⟩ rfl (.slice (some ⟨bi, oi, none⟩) G.gul.length c) Try.isAgg32 ?_ ?_; exact (hg.st S).at0 (gcs_gul hG.len _)))
                have hcl := fun w' h => l04Is_any G hG (.slice (some ⟨bi, oi, none⟩) G.gul.length c) gb d1 d2 hdr.1 hdr.2 w' h
                by_cases hc : isCellB G.wide G.high (d1, d2) = true
                · simp only [hc] at hcl
                  by_cases hk0 : k = 0
                  · have hkd : decide (0 < k) = false := by simp [hk0]
                    refine wp_region_mix (by kernel_rfl) (by kernel_rfl) ?_
                    repeat (first
                      | go_big_quiet_skip
                      | (go_big_quiet_want; refine Q_ldR _ _ rfl gb 83 rfl _ hgs (.slice (some ⟨bi, oi, none⟩) G.gul.length c) Try.isAgg32 (gcs_gul hG.len _) ?_; simp only [Act.put, List.setIfInBounds_toArray, List.set_cons_succ, List.set_cons_zero]; go_big_quiet_on)
                      | (go_big_quiet_want; refine Q_index _ _ _ rfl bi oi _ _ rfl (k) ?_ _ Try.underlying32 _ Try.sizeOf43 ?_ ?_ ?_; rfl; omega; omega; simp only [Act.put, List.setIfInBounds_toArray, List.set_cons_succ, List.set_cons_zero]; go_big_quiet_on)
                      | (go_big_quiet_want; refine Q_elem cenc _ _ rfl bi oi (k) 2 ?_ (G.gul) ?_ (fun _ => rfl) ((d1, d2)) ?_ Try.isAgg43 Try.sizeOf43 ?_; rfl; exact (hR.st S); exact HD.out; simp only [Act.put, List.setIfInBounds_toArray, List.set_cons_succ, List.set_cons_zero]; go_big_quiet_on)
                      | (rw [hkd]) | (go_big_quiet_want; go_big_quiet_op; go_big_quiet_on)
                      | (go_big_quiet_want; go_big_quiet_op; go_big_quiet_call (first | exact calls_mix (hcl _ (hgs.below (mix_below _ _ _))))))
                    refine wpQuiet_nil ?_
                    intro _ hw'
                    obtain ⟨⟨nq, osq⟩, rfl⟩ := hw'
                    replace S := S.callB (mix_below _ nq osq)
                    generalize grow (sd _ nq) osq = wq at S ⊢
                    go_wp2
                    refine ⟨⟨k + 1, by omega, by go_num, vg_more HK.out (by subst hk0; exact gk_0 HD.out hc), S⟩, ?_⟩
                    simp [intOf]; omega
                  · obtain ⟨cp, hcp⟩ : ∃ d, G.gul[k - 1]? = some d := ⟨_, List.getElem?_eq_getElem (by omega)⟩
                    have HP := Lib.hid hcp; clear hcp
                    have hkd : decide (0 < k) = true := by simp; omega
                    have hkm : ((k : Int) - 1).toNat = k - 1 := by omega
                    have hbf := fun w => l04Before_any cp (d1, d2) w
                    cases hbv : beforeB cp (d1, d2) with
                    | true =>
                      rw [hbv] at hbf
                      refine wp_region_mix (by kernel_rfl) (by kernel_rfl) ?_
                      repeat (first
                        | go_big_quiet_skip
                        | (go_big_quiet_want; refine Q_ldR _ _ rfl gb 83 rfl _ hgs (.slice (some ⟨bi, oi, none⟩) G.gul.length c) Try.isAgg32 (gcs_gul hG.len _) ?_; simp only [Act.put, List.setIfInBounds_toArray, List.set_cons_succ, List.set_cons_zero]; go_big_quiet_on)
                        | (go_big_quiet_want; refine Q_index _ _ _ rfl bi oi _ _ rfl (k) ?_ _ Try.underlying32 _ Try.sizeOf43 ?_ ?_ ?_; rfl; omega; omega; simp only [Act.put, List.setIfInBounds_toArray, List.set_cons_succ, List.set_cons_zero]; go_big_quiet_on)
                        | (go_big_quiet_want; refine Q_elem cenc _ _ rfl bi oi (k) 2 ?_ (G.gul) ?_ (fun _ => rfl) ((d1, d2)) ?_ Try.isAgg43 Try.sizeOf43 ?_; rfl; exact (hR.st S); exact HD.out; simp only [Act.put, List.setIfInBounds_toArray, List.set_cons_succ, List.set_cons_zero]; go_big_quiet_on)
                        | (rw [hkd]) | (rw [hkm]) | (go_big_quiet_want; refine Q_index _ _ _ rfl bi oi _ _ rfl (k - 1) ?_ _ Try.underlying32 _ Try.sizeOf43 ?_ ?_ ?_; rfl; omega; omega; simp only [Act.put, List.setIfInBounds_toArray, List.set_cons_succ, List.set_cons_zero]; go_big_quiet_on) | (go_big_quiet_want; refine Q_elem cenc _ _ rfl bi oi (k - 1) 2 ?_ (G.gul) ?_ (fun _ => rfl) (cp) ?_ Try.isAgg43 Try.sizeOf43 ?_; rfl; exact (hR.st S); exact HP.out; simp only [Act.put, List.setIfInBounds_toArray, List.set_cons_succ, List.set_cons_zero]; go_big_quiet_on)
                        | (go_big_quiet_want; go_big_quiet_op; go_big_quiet_on)
                        | (go_big_quiet_want; go_big_quiet_op; go_big_quiet_call (first | exact calls_mix (hcl _ (hgs.below (mix_below _ _ _))) | exact calls_mix (hbf _))))
                      refine wpQuiet_nil ?_
                      intro _ hw'
                      obtain ⟨⟨nq, osq⟩, rfl⟩ := hw'
                      replace S := S.callB (mix_below _ nq osq)
                      generalize grow (sd _ nq) osq = wq at S ⊢
                      go_wp2
                      refine ⟨⟨k + 1, by omega, by go_num, vg_more HK.out (gk_s HD.out hc HP.out (by rw [before_cmp] at hbv; simpa using hbv)), S⟩, ?_⟩
                      simp [intOf]; omega
                    | false =>
                      rw [hbv] at hbf
                      refine wp_region_mix (by kernel_rfl) (by kernel_rfl) ?_
                      repeat (first
                        | go_big_quiet_skip
                        | (go_big_quiet_want; refine Q_ldR _ _ rfl gb 83 rfl _ hgs (.slice (some ⟨bi, oi, none⟩) G.gul.length c) Try.isAgg32 (gcs_gul hG.len _) ?_; simp only [Act.put, List.setIfInBounds_toArray, List.set_cons_succ, List.set_cons_zero]; go_big_quiet_on)
                        | (go_big_quiet_want; refine Q_index _ _ _ rfl bi oi _ _ rfl (k) ?_ _ Try.underlying32 _ Try.sizeOf43 ?_ ?_ ?_; rfl; omega; omega; simp only [Act.put, List.setIfInBounds_toArray, List.set_cons_succ, List.set_cons_zero]; go_big_quiet_on)
                        | (go_big_quiet_want; refine Q_elem cenc _ _ rfl bi oi (k) 2 ?_ (G.gul) ?_ (fun _ => rfl) ((d1, d2)) ?_ Try.isAgg43 Try.sizeOf43 ?_; rfl; exact (hR.st S); exact HD.out; simp only [Act.put, List.setIfInBounds_toArray, List.set_cons_succ, List.set_cons_zero]; go_big_quiet_on)
                        | (rw [hkd]) | (rw [hkm]) | (go_big_quiet_want; refine Q_index _ _ _ rfl bi oi _ _ rfl (k - 1) ?_ _ Try.underlying32 _ Try.sizeOf43 ?_ ?_ ?_; rfl; omega; omega; simp only [Act.put, List.setIfInBounds_toArray, List.set_cons_succ, List.set_cons_zero]; go_big_quiet_on) | (go_big_quiet_want; refine Q_elem cenc _ _ rfl bi oi (k - 1) 2 ?_ (G.gul) ?_ (fun _ => rfl) (cp) ?_ Try.isAgg43 Try.sizeOf43 ?_; rfl; exact (hR.st S); exact HP.out; simp only [Act.put, List.setIfInBounds_toArray, List.set_cons_succ, List.set_cons_zero]; go_big_quiet_on)
                        | (go_big_quiet_want; go_big_quiet_op; go_big_quiet_on)
                        | (go_big_quiet_want; go_big_quiet_op; go_big_quiet_call (first | exact calls_mix (hcl _ (hgs.below (mix_below _ _ _))) | exact calls_mix (hbf _))))
                      refine wpQuiet_nil ?_
                      intro _ hw'
                      obtain ⟨⟨nq, osq⟩, rfl⟩ := hw'
                      replace S := S.callB (mix_below _ nq osq)
                      generalize grow (sd _ nq) osq = wq at S ⊢
                      go_wp2
                      go_ret; exact ⟨ret_b (gk_bad2 HD.out hk0 HP.out (by rw [before_cmp] at hbv; simpa using hbv)).symm, S.below⟩
                · simp only [hc] at hcl
                  refine wp_region_mix (by kernel_rfl) (by kernel_rfl) ?_
                  repeat (first
                    | go_big_quiet_skip
                    | (go_big_quiet_want; refine Q_ldR _ _ rfl gb 83 rfl _ hgs (.slice (some ⟨bi, oi, none⟩) G.gul.length c) Try.isAgg32 (gcs_gul hG.len _) ?_; simp only [Act.put, List.setIfInBounds_toArray, List.set_cons_succ, List.set_cons_zero]; go_big_quiet_on)
                    | (go_big_quiet_want; refine Q_index _ _ _ rfl bi oi _ _ rfl (k) ?_ _ Try.underlying32 _ Try.sizeOf43 ?_ ?_ ?_; rfl; omega; omega; simp only [Act.put, List.setIfInBounds_toArray, List.set_cons_succ, List.set_cons_zero]; go_big_quiet_on)
                    | (go_big_quiet_want; refine Q_elem cenc _ _ rfl bi oi (k) 2 ?_ (G.gul) ?_ (fun _ => rfl) ((d1, d2)) ?_ Try.isAgg43 Try.sizeOf43 ?_; rfl; exact (hR.st S); exact HD.out; simp only [Act.put, List.setIfInBounds_toArray, List.set_cons_succ, List.set_cons_zero]; go_big_quiet_on)
                    | (go_big_quiet_want; go_big_quiet_op; go_big_quiet_on)
                    | (go_big_quiet_want; go_big_quiet_op; go_big_quiet_call (first | exact calls_mix (hcl _ (hgs.below (mix_below _ _ _))))))
                  refine wpQuiet_nil ?_
                  intro _ hw'
                  obtain ⟨⟨nq, osq⟩, rfl⟩ := hw'
                  replace S := S.callB (mix_below _ nq osq)
                  generalize grow (sd _ nq) osq = wq at S ⊢
                  go_wp2
                  go_ret; exact ⟨ret_b (gk_bad1 HD.out hc).symm, S.below⟩
              · have hke : k = G.gul.length := by omega
                subst hke
                go_wp2_with (first
                  | (refine W_load1C rfl _ _ rfl ⟨gb, 83, none⟩ rfl (.slice A G.gul.length c) Try.isAgg32 ?_ ?_; exact (hg.st S).at0 (gcs_gul hG.len _)))
                go_ret; exact ⟨ret_b (gk_all h1 h2 h3 HR.out HK.out).symm, S.below⟩
      · go_enter Try.func75, Try.ntmps75
        go_wp2_with (first
          | (refine W_load1C rfl _ _ rfl ⟨gb, 0, none⟩ rfl (.int .i8 G.wide) Try.isAgg22 ?_ ?_; exact (hg.st S).at0 (rfl)) | (refine W_load1C rfl _ _ rfl ⟨gb, 1, none⟩ rfl (.int .i8 G.high) Try.isAgg22 ?_ ?_; exact (hg.st S).at0 (rfl)) | (refine W_load1C rfl _ _ rfl ⟨gb, 83, none⟩ rfl (.slice A G.gul.length c) Try.isAgg32 ?_ ?_; exact (hg.st S).at0 (gcs_gul hG.len _))
          | (go_at_call 65; (first | with_reducible refine Calls.mono (c1 _) ?_ | with_reducible refine Calls.mono (c2 _) ?_); rintro e w1 ⟨rfl, rfl⟩))
        go_ret; exact ⟨ret_b (gk_no3 h3).symm, S.below⟩
    | false =>
      rw [h2] at c2
      go_enter Try.func75, Try.ntmps75
      go_wp2_with (first
        | (refine W_load1C rfl _ _ rfl ⟨gb, 0, none⟩ rfl (.int .i8 G.wide) Try.isAgg22 ?_ ?_; exact (hg.st S).at0 (rfl)) | (refine W_load1C rfl _ _ rfl ⟨gb, 1, none⟩ rfl (.int .i8 G.high) Try.isAgg22 ?_ ?_; exact (hg.st S).at0 (rfl)) | (refine W_load1C rfl _ _ rfl ⟨gb, 83, none⟩ rfl (.slice A G.gul.length c) Try.isAgg32 ?_ ?_; exact (hg.st S).at0 (gcs_gul hG.len _))
        | (go_at_call 65; (first | with_reducible refine Calls.mono (c1 _) ?_ | with_reducible refine Calls.mono (c2 _) ?_); rintro e w1 ⟨rfl, rfl⟩))
      go_ret; exact ⟨ret_b (gk_no2 (by rw [h2]; simp)).symm, S.below⟩
  | false =>
    rw [h1] at c1
    go_enter Try.func75, Try.ntmps75
    go_wp2_with (first
      | (refine W_load1C rfl _ _ rfl ⟨gb, 0, none⟩ rfl (.int .i8 G.wide) Try.isAgg22 ?_ ?_; exact (hg.st S).at0 (rfl)) | (refine W_load1C rfl _ _ rfl ⟨gb, 1, none⟩ rfl (.int .i8 G.high) Try.isAgg22 ?_ ?_; exact (hg.st S).at0 (rfl)) | (refine W_load1C rfl _ _ rfl ⟨gb, 83, none⟩ rfl (.slice A G.gul.length c) Try.isAgg32 ?_ ?_; exact (hg.st S).at0 (gcs_gul hG.len _))
      | (go_at_call 65; (first | with_reducible refine Calls.mono (c1 _) ?_ | with_reducible refine Calls.mono (c2 _) ?_); rintro e w1 ⟨rfl, rfl⟩))
    go_ret; exact ⟨ret_b (gk_no1 (by rw [h1]; simp)).symm, S.below⟩

theorem gul_nil {G : Gnd} : G.gul = [] ↔ G.gul.length = 0 := by rw [List.length_eq_zero_iff]
set_option maxRecDepth 100000 in
set_option maxHeartbeats 1000000 in
theorem l04Pools_any (G : Gnd) (hG : G.Ok) (A : Option Addr) (c : Nat) (gb : Nat) (w : World) (hg : Rd w (some ⟨gb, 0, none⟩) (gcs G (.slice A G.gul.length c))) (hR : Rd w A (ccs G.gul)) :
    Calls Try.prog 51 #[.pointer (some ⟨gb, 0, none⟩)] w fun e w' => e = .returned (.int .i64 (levCode G)) ∧ Below w.heap.size w w' := by
  have S := St.refl w
  have hvg := fun w' (hb : Below w.heap.size w w') => l04Ok_any G hG A c gb w' (hg.below hb) (hR.below hb)
  cases hv : validB G with
  | true =>
    rw [hv] at hvg
    by_cases h0 : G.gul.length = 0
    · have HC : Hid (levCode G = 6) := by
        show levCode G = _
        unfold levCode
        rw [if_pos hv, if_pos (gul_nil.2 h0)]
      have h0' : ((G.gul.length : Int) == 0) = true := by simp [h0]
      clear h0
      go_enter Try.func51, Try.ntmps51
      go_wp2_with (first
        | (refine W_load1C rfl _ _ rfl ⟨gb, 83, none⟩ rfl (.slice A G.gul.length c) Try.isAgg32 ?_ ?_; exact (hg.st S).at0 (gcs_gul hG.len _))
        | (go_at_call 75; refine (hvg _ S.below).mono ?_; rintro e w1 ⟨rfl, hb⟩; replace S := S.callB hb; clear hb))
      all_goals (first | (go_ret; exact ⟨ret_i HC.out.symm, S.below⟩) | (exfalso; simp_all))
    · have HC : Hid (levCode G = 0) := by
        show levCode G = _
        unfold levCode
        rw [if_pos hv, if_neg (fun h => h0 (gul_nil.1 h))]
      have h0' : ((G.gul.length : Int) == 0) = false := by simp; intro h; exact h0 (by rw [h]; rfl)
      clear h0
      go_enter Try.func51, Try.ntmps51
      go_wp2_with (first
        | (refine W_load1C rfl _ _ rfl ⟨gb, 83, none⟩ rfl (.slice A G.gul.length c) Try.isAgg32 ?_ ?_; exact (hg.st S).at0 (gcs_gul hG.len _))
        | (go_at_call 75; refine (hvg _ S.below).mono ?_; rintro e w1 ⟨rfl, hb⟩; replace S := S.callB hb; clear hb))
      all_goals (first | (go_ret; exact ⟨ret_i HC.out.symm, S.below⟩) | (exfalso; simp_all))
  | false =>
    rw [hv] at hvg
    have HC : Hid (levCode G = 1) := by
      show levCode G = _
      unfold levCode
      rw [if_neg (by rw [hv]; simp)]
    go_enter Try.func51, Try.ntmps51
    go_wp2_with (first
      | (go_at_call 75; refine (hvg _ S.below).mono ?_; rintro e w1 ⟨rfl, hb⟩; replace S := S.callB hb; clear hb))
    go_ret
    exact ⟨ret_i HC.out.symm, S.below⟩
end Go.Proofs.Ytpfmmbdddecphaa
