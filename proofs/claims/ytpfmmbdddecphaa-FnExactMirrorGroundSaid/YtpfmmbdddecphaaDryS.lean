/- The reference's DrySquare. -/
import Derived.Test.YtpfmmbdddecphaaDry
namespace Go.Proofs.Ytpfmmbdddecphaa
open Go.RowKit Go.Sort
set_option linter.unusedVariables false
set_option linter.unusedSimpArgs false

theorem gcs_take83 {G : Gnd} (h : G.hs.length = 81) (v u : Value) : gcs G u = (gcs G v).set 83 u := (gcs_setG G v u h).symm

set_option maxRecDepth 100000 in
set_option maxHeartbeats 1000000 in
theorem l04Own_any (G : Gnd) (hG : G.Ok) (b c gb : Nat) (hn : G.gul.length ≤ 4000000) (w : World) (hg : Rd w (some ⟨gb, 0, none⟩) (gcs G (.slice (some ⟨b, 0, none⟩) G.gul.length c))) (hR : Rd w (some ⟨b, 0, none⟩) (ccs G.gul)) :
    Calls Try.prog 73 #[.pointer (some ⟨gb, 0, none⟩)] w fun e w' => ∃ A' c', e = .returned (gv G (.slice A' G.gul.length c')) ∧ St w w' [ER 43 2 (.slice A' G.gul.length c') G.gul.length (ccs G.gul)] := by
  have S := St.refl w
  have hcl := ccs_length G.gul
  go_enter Try.func73, Try.ntmps73
  go_wp2_with (first
    | ((with_reducible refine at_alloc_ 34 rfl rfl ?_); (first | ((fail_if_success have hq := br); refine W_alloc S rfl 34 rfl _ Try.zeroValue34 ?_; clear S; intro br w' S; change St _ _ (EB _ _ (gcs Gnd.zero (.slice none 0 0)) :: _) at S) | ((fail_if_success have hq := bo); refine W_alloc S rfl 34 rfl _ Try.zeroValue34 ?_; clear S; intro bo w' S; change St _ _ (EB _ _ (gcs Gnd.zero (.slice none 0 0)) :: _) at S)))
    | ((fail_if_success have hq := bo); ((with_reducible refine at_load_ 34 rfl rfl ?_); (refine W_loadC rfl _ _ rfl gb 0 rfl (gcs G (.slice (some ⟨b, 0, none⟩) G.gul.length c)) Try.isAgg34 (by rw [gcs_length hG]; exact Try.sizeOf34) ?_ ?_; exact (fun jq uq hq => (hg.st S).2 gb 0 rfl jq uq hq))))
    | ((fail_if_success have hq := bl); ((with_reducible refine at_store_ 34 rfl rfl ?_); (first | (refine W_storeW S rfl _ _ _ rfl bo rfl 0 _ _ rfl (gcs G (.slice (some ⟨b, 0, none⟩) G.gul.length c)) rfl (by rw [gcs_length hG]; exact Try.sizeOf34) (by rw [gcs_length hG]; rfl) (gcs_one rfl) ?_; clear S; intro w' S; simp only [List.set_cons_zero, List.set_cons_succ] at S) | (refine W_storeW S rfl _ _ _ rfl bo rfl 1 _ _ rfl (gcs G (.slice (some ⟨b, 0, none⟩) G.gul.length c)) rfl (by rw [gcs_length hG]; exact Try.sizeOf34) (by rw [gcs_length hG]; rfl) (gcs_one rfl) ?_; clear S; intro w' S; simp only [List.set_cons_zero, List.set_cons_succ] at S) | (refine W_storeW S rfl _ _ _ rfl bo rfl 2 _ _ rfl (gcs G (.slice (some ⟨b, 0, none⟩) G.gul.length c)) rfl (by rw [gcs_length hG]; exact Try.sizeOf34) (by rw [gcs_length hG]; rfl) (gcs_one rfl) ?_; clear S; intro w' S; simp only [List.set_cons_zero, List.set_cons_succ] at S) | (refine W_storeW S rfl _ _ _ rfl bo rfl 3 _ _ rfl (gcs G (.slice (some ⟨b, 0, none⟩) G.gul.length c)) rfl (by rw [gcs_length hG]; exact Try.sizeOf34) (by rw [gcs_length hG]; rfl) (gcs_one rfl) ?_; clear S; intro w' S; simp only [List.set_cons_zero, List.set_cons_succ] at S) | (refine W_storeW S rfl _ _ _ rfl bo rfl 4 _ _ rfl (gcs G (.slice (some ⟨b, 0, none⟩) G.gul.length c)) rfl (by rw [gcs_length hG]; exact Try.sizeOf34) (by rw [gcs_length hG]; rfl) (gcs_one rfl) ?_; clear S; intro w' S; simp only [List.set_cons_zero, List.set_cons_succ] at S) | (refine W_storeW S rfl _ _ _ rfl bo rfl 5 _ _ rfl (gcs G (.slice (some ⟨b, 0, none⟩) G.gul.length c)) rfl (by rw [gcs_length hG]; exact Try.sizeOf34) (by rw [gcs_length hG]; rfl) (gcs_one rfl) ?_; clear S; intro w' S; simp only [List.set_cons_zero, List.set_cons_succ] at S))))
    | ((fail_if_success have hq := bl); (refine W_bslice S rfl _ (0) _ rfl 43 ([]) ?_ ?_; exact (fun w => by simp [go_sem, Instr.buildSlice, Try.underlying32, Try.sizeOf43, Try.zeroValue43] <;> rfl); clear S; intro bl w' S); replace S := S.own 0 bl _ _ rfl 2 0 0 [] rfl (Nat.le_refl _) (by decide) rfl rfl; simp only [List.set_cons_zero] at S)
    | ((with_reducible refine at_load_ 32 rfl rfl ?_); (refine W_load1C rfl _ _ rfl ⟨gb, 83, none⟩ rfl (.slice (some ⟨b, 0, none⟩) G.gul.length c) Try.isAgg32 ?_ ?_; exact (hg.st S).at0 (gcs_gul hG.len _)))
    | (refine W_appendR S rfl _ _ _ rfl 0 43 2 _ 0 [] rfl rfl b 0 G.gul.length c rfl (ccs G.gul) (hR.st S) default _ 2 Try.underlying32 cellInfo rfl (by decide) ?_ (ccs_one G.gul) ?_ ?_ ?_; omega; (unfold maxLen; omega); omega; clear S; intro A' c' w' S; simp only [List.set_cons_zero, List.nil_append, Nat.zero_add] at S)
    | ((with_reducible refine at_store_ 32 rfl rfl ?_); (refine W_store1 S rfl 32 _ _ rfl bo 83 rfl 1 _ _ rfl (.slice A' G.gul.length c') rfl rfl Try.sizeOf32 rfl (by rw [gcs_h]; simp [hvl, hG.len]) ?_; clear S; intro w' S; simp only [List.set_cons_zero, List.set_cons_succ] at S; rw [gcs_setG _ _ _ (by exact hG.len)] at S))
    | (have hq := bl; clear hq; ((with_reducible refine at_load_ 34 rfl rfl ?_); (first | (refine W_loadN S rfl _ _ rfl bo 0 rfl 0 _ _ rfl (gcs G (.slice A' G.gul.length c')) Try.isAgg34 (by rw [gcs_length hG]; exact Try.sizeOf34) (fun jq uq hq => by rw [Nat.zero_add]; exact hq) ?_) | (refine W_loadN S rfl _ _ rfl bo 0 rfl 1 _ _ rfl (gcs G (.slice A' G.gul.length c')) Try.isAgg34 (by rw [gcs_length hG]; exact Try.sizeOf34) (fun jq uq hq => by rw [Nat.zero_add]; exact hq) ?_) | (refine W_loadN S rfl _ _ rfl bo 0 rfl 2 _ _ rfl (gcs G (.slice A' G.gul.length c')) Try.isAgg34 (by rw [gcs_length hG]; exact Try.sizeOf34) (fun jq uq hq => by rw [Nat.zero_add]; exact hq) ?_) | (refine W_loadN S rfl _ _ rfl bo 0 rfl 3 _ _ rfl (gcs G (.slice A' G.gul.length c')) Try.isAgg34 (by rw [gcs_length hG]; exact Try.sizeOf34) (fun jq uq hq => by rw [Nat.zero_add]; exact hq) ?_) | (refine W_loadN S rfl _ _ rfl bo 0 rfl 4 _ _ rfl (gcs G (.slice A' G.gul.length c')) Try.isAgg34 (by rw [gcs_length hG]; exact Try.sizeOf34) (fun jq uq hq => by rw [Nat.zero_add]; exact hq) ?_) | (refine W_loadN S rfl _ _ rfl bo 0 rfl 5 _ _ rfl (gcs G (.slice A' G.gul.length c')) Try.isAgg34 (by rw [gcs_length hG]; exact Try.sizeOf34) (fun jq uq hq => by rw [Nat.zero_add]; exact hq) ?_) | (refine W_loadN S rfl _ _ rfl bo 0 rfl 6 _ _ rfl (gcs G (.slice A' G.gul.length c')) Try.isAgg34 (by rw [gcs_length hG]; exact Try.sizeOf34) (fun jq uq hq => by rw [Nat.zero_add]; exact hq) ?_) | (refine W_loadN S rfl _ _ rfl bo 0 rfl 7 _ _ rfl (gcs G (.slice A' G.gul.length c')) Try.isAgg34 (by rw [gcs_length hG]; exact Try.sizeOf34) (fun jq uq hq => by rw [Nat.zero_add]; exact hq) ?_) | (refine W_loadN S rfl _ _ rfl bo 0 rfl 8 _ _ rfl (gcs G (.slice A' G.gul.length c')) Try.isAgg34 (by rw [gcs_length hG]; exact Try.sizeOf34) (fun jq uq hq => by rw [Nat.zero_add]; exact hq) ?_) | (refine W_loadN S rfl _ _ rfl bo 0 rfl 9 _ _ rfl (gcs G (.slice A' G.gul.length c')) Try.isAgg34 (by rw [gcs_length hG]; exact Try.sizeOf34) (fun jq uq hq => by rw [Nat.zero_add]; exact hq) ?_))))
    | (have hq := bl; clear hq; ((with_reducible refine at_store_ 34 rfl rfl ?_); (first | (refine W_storeW S rfl _ _ _ rfl br rfl 0 _ _ rfl (gcs G (.slice A' G.gul.length c')) rfl (by rw [gcs_length hG]; exact Try.sizeOf34) (by rw [gcs_length hG]; rfl) (gcs_one rfl) ?_; clear S; intro w' S; simp only [List.set_cons_zero, List.set_cons_succ] at S) | (refine W_storeW S rfl _ _ _ rfl br rfl 1 _ _ rfl (gcs G (.slice A' G.gul.length c')) rfl (by rw [gcs_length hG]; exact Try.sizeOf34) (by rw [gcs_length hG]; rfl) (gcs_one rfl) ?_; clear S; intro w' S; simp only [List.set_cons_zero, List.set_cons_succ] at S) | (refine W_storeW S rfl _ _ _ rfl br rfl 2 _ _ rfl (gcs G (.slice A' G.gul.length c')) rfl (by rw [gcs_length hG]; exact Try.sizeOf34) (by rw [gcs_length hG]; rfl) (gcs_one rfl) ?_; clear S; intro w' S; simp only [List.set_cons_zero, List.set_cons_succ] at S) | (refine W_storeW S rfl _ _ _ rfl br rfl 3 _ _ rfl (gcs G (.slice A' G.gul.length c')) rfl (by rw [gcs_length hG]; exact Try.sizeOf34) (by rw [gcs_length hG]; rfl) (gcs_one rfl) ?_; clear S; intro w' S; simp only [List.set_cons_zero, List.set_cons_succ] at S) | (refine W_storeW S rfl _ _ _ rfl br rfl 4 _ _ rfl (gcs G (.slice A' G.gul.length c')) rfl (by rw [gcs_length hG]; exact Try.sizeOf34) (by rw [gcs_length hG]; rfl) (gcs_one rfl) ?_; clear S; intro w' S; simp only [List.set_cons_zero, List.set_cons_succ] at S) | (refine W_storeW S rfl _ _ _ rfl br rfl 5 _ _ rfl (gcs G (.slice A' G.gul.length c')) rfl (by rw [gcs_length hG]; exact Try.sizeOf34) (by rw [gcs_length hG]; rfl) (gcs_one rfl) ?_; clear S; intro w' S; simp only [List.set_cons_zero, List.set_cons_succ] at S)))))
  refine W_ret_c rfl S _ rfl rfl 2 _ _ rfl Try.isAgg34 (by rw [gcs_length hG]; exact Try.sizeOf34) ⟨A', c', rfl, S.only (k := 0) rfl⟩

set_option maxRecDepth 100000 in
set_option maxHeartbeats 1000000 in
theorem sDrySquare_any (G : Gnd) (hG : G.Ok) (b c : Nat) (w : World) (hR : Rd w (some ⟨b, 0, none⟩) (ccs G.gul)) :
    Calls Try.prog 27 #[gv G (.slice (some ⟨b, 0, none⟩) G.gul.length c)] w fun e w' => ∃ H k A' c', DryIs G H k ∧ e = .returned (.tuple #[gv H (.slice A' H.gul.length c'), .int .i64 k, .int .i64 (levCode G)]) ∧ St w w' [ER 43 2 (.slice A' H.gul.length c') H.gul.length (ccs H.gul)] := by
  have S := St.refl w
  have hlc := fun w' gb h1 h2 => l04Pools_any G hG (some ⟨b, 0, none⟩) c gb w' h1 h2
  by_cases hv : levCode G = 0
  · obtain ⟨V, hne⟩ := levCode_0.1 hv
    have hm8 := V.many
    have HV := Lib.hid hv
    rw [hv] at hlc; rw [hv]
    clear hv
    go_enter Try.func27, Try.ntmps27
    go_wp2_with (first
      | ((with_reducible refine at_box_ 34 rfl rfl ?_); (refine W_box S rfl _ _ rfl (gv G (.slice (some ⟨b, 0, none⟩) G.gul.length c)) rfl ?_; clear S; intro ba w' S; change St _ _ (EB _ _ (gcs G (.slice (some ⟨b, 0, none⟩) G.gul.length c)) :: _) at S))
      | ((with_reducible refine at_alloc_ 34 rfl rfl ?_); (first | ((fail_if_success have hq := br); refine W_alloc S rfl 34 rfl _ Try.zeroValue34 ?_; clear S; intro br w' S; change St _ _ (EB _ _ (gcs Gnd.zero (.slice none 0 0)) :: _) at S) | ((fail_if_success have hq := bo); refine W_alloc S rfl 34 rfl _ Try.zeroValue34 ?_; clear S; intro bo w' S; change St _ _ (EB _ _ (gcs Gnd.zero (.slice none 0 0)) :: _) at S)))
      | (go_at_call 51; refine Calls.mono (hlc _ ba (rd_EB0 S (k := 1) rfl) (hR.st S)) ?_; rintro e w1 ⟨rfl, hb⟩; replace S := S.callB hb; clear hb)
      | (go_at_call 73; refine Calls.mono (l04Own_any G hG b c ba (by omega) _ (rd_EB0 S (k := 1) rfl) (hR.st S)) ?_; rintro e w1 ⟨A', c', rfl, S2⟩; replace S := S.call S2; clear S2; simp only [List.cons_append, List.nil_append] at S)
      | ((with_reducible refine at_store_ 34 rfl rfl ?_); (first | (refine W_storeW S rfl _ _ _ rfl bo rfl 0 _ _ rfl (gcs G (.slice A' G.gul.length c')) rfl (by rw [gcs_length hG]; exact Try.sizeOf34) (by rw [gcs_length hG]; rfl) (gcs_one rfl) ?_; clear S; intro w' S; simp only [List.set_cons_zero, List.set_cons_succ] at S) | (refine W_storeW S rfl _ _ _ rfl bo rfl 1 _ _ rfl (gcs G (.slice A' G.gul.length c')) rfl (by rw [gcs_length hG]; exact Try.sizeOf34) (by rw [gcs_length hG]; rfl) (gcs_one rfl) ?_; clear S; intro w' S; simp only [List.set_cons_zero, List.set_cons_succ] at S) | (refine W_storeW S rfl _ _ _ rfl bo rfl 2 _ _ rfl (gcs G (.slice A' G.gul.length c')) rfl (by rw [gcs_length hG]; exact Try.sizeOf34) (by rw [gcs_length hG]; rfl) (gcs_one rfl) ?_; clear S; intro w' S; simp only [List.set_cons_zero, List.set_cons_succ] at S) | (refine W_storeW S rfl _ _ _ rfl bo rfl 3 _ _ rfl (gcs G (.slice A' G.gul.length c')) rfl (by rw [gcs_length hG]; exact Try.sizeOf34) (by rw [gcs_length hG]; rfl) (gcs_one rfl) ?_; clear S; intro w' S; simp only [List.set_cons_zero, List.set_cons_succ] at S) | (refine W_storeW S rfl _ _ _ rfl bo rfl 4 _ _ rfl (gcs G (.slice A' G.gul.length c')) rfl (by rw [gcs_length hG]; exact Try.sizeOf34) (by rw [gcs_length hG]; rfl) (gcs_one rfl) ?_; clear S; intro w' S; simp only [List.set_cons_zero, List.set_cons_succ] at S) | (refine W_storeW S rfl _ _ _ rfl bo rfl 5 _ _ rfl (gcs G (.slice A' G.gul.length c')) rfl (by rw [gcs_length hG]; exact Try.sizeOf34) (by rw [gcs_length hG]; rfl) (gcs_one rfl) ?_; clear S; intro w' S; simp only [List.set_cons_zero, List.set_cons_succ] at S)))
      | (go_at_call 52; refine Calls.mono (l04Levels_any G hG V (some ⟨b, 0, none⟩) c ba _ (by (first | exact S.rd (k := 0) rfl | exact S.rd (k := 1) rfl | exact S.rd (k := 2) rfl | exact S.rd (k := 3) rfl | exact S.rd (k := 4) rfl | exact S.rd (k := 5) rfl | exact S.rd (k := 6) rfl | exact S.rd (k := 7) rfl | exact S.rd (k := 8) rfl | exact S.rd (k := 9) rfl | exact S.rd (k := 10) rfl | exact S.rd (k := 11) rfl | exact rd_EB0 S (k := 0) rfl | exact rd_EB0 S (k := 1) rfl | exact rd_EB0 S (k := 2) rfl | exact rd_EB0 S (k := 3) rfl | exact rd_EB0 S (k := 4) rfl | exact rd_EB0 S (k := 5) rfl | exact rd_EB0 S (k := 6) rfl | exact rd_EB0 S (k := 7) rfl | exact rd_EB0 S (k := 8) rfl | exact rd_EB0 S (k := 9) rfl | exact rd_EB0 S (k := 10) rfl | exact rd_EB0 S (k := 11) rfl | exact S.rdE (k := 0) rfl | exact S.rdE (k := 1) rfl | exact S.rdE (k := 2) rfl | exact S.rdE (k := 3) rfl | exact S.rdE (k := 4) rfl | exact S.rdE (k := 5) rfl | exact S.rdE (k := 6) rfl | exact S.rdE (k := 7) rfl | exact S.rdE (k := 8) rfl | exact S.rdE (k := 9) rfl | exact S.rdE (k := 10) rfl | exact S.rdE (k := 11) rfl)) (hR.st S)) ?_; rintro e w1 ⟨ts, hts, rfl, hb⟩; replace S := S.callB hb; clear hb; have HT := Lib.hid hts; clear hts; have htl := Lib.hid (isLev_length HT.out))
      | ((with_reducible refine at_store_ 25 rfl rfl ?_); (refine W_storeN S rfl _ _ _ rfl bo 2 rfl 0 _ _ rfl (.agg (hvl ts).toArray) rfl (by show ∀ w, _ = Result.ok (hvl ts).length w; rw [hvl_length, htl.out]; exact Try.sizeOf25) (hvl_one _) (gcs (G.with ts) (.slice A' G.gul.length c')) ?_ (gcs_setH G _ ts hG.len htl.out) ?_; (show 2 + (hvl ts).length ≤ (gcs _ _).length; rw [hvl_length, htl.out, gcs_length hG]; omega); clear S; intro w' S; simp only [List.set_cons_zero, List.set_cons_succ] at S)))
    replace S : St w w' [EB bo 34 (gcs (G.with ts) (.slice A' G.gul.length c')), ER 43 2 (.slice A' G.gul.length c') G.gul.length (ccs G.gul), EB br 34 (gcs Gnd.zero (.slice none 0 0)), EB ba 34 (gcs G (.slice (some ⟨b, 0, none⟩) G.gul.length c))] := S
    go_loopw [7, 8] (fun v i wr => ∃ y : Nat, y ≤ 9 ∧ i = .int .i64 y ∧ v = .int .i64 (pcnt G ts (y * 9)) ∧ St w wr [EB bo 34 (gcs (G.with ts) (.slice A' G.gul.length c')), ER 43 2 (.slice A' G.gul.length c') G.gul.length (ccs G.gul), EB br 34 (gcs Gnd.zero (.slice none 0 0)), EB ba 34 (gcs G (.slice (some ⟨b, 0, none⟩) G.gul.length c))]) (fun _ i _ => 9 - (intOf i).toNat)
    case atStart => exact ⟨0, by omega, rfl, rfl, S⟩
    case round =>
      clear S
      obtain ⟨y, hy, rfl, rfl, S⟩ := hrel
      by_cases hlt : y < 9
      · go_wp2
        go_loopw [7, 9] (fun v i wr => ∃ x : Nat, x ≤ 9 ∧ i = .int .i64 x ∧ v = .int .i64 (pcnt G ts (y * 9 + x)) ∧ St w wr [EB bo 34 (gcs (G.with ts) (.slice A' G.gul.length c')), ER 43 2 (.slice A' G.gul.length c') G.gul.length (ccs G.gul), EB br 34 (gcs Gnd.zero (.slice none 0 0)), EB ba 34 (gcs G (.slice (some ⟨b, 0, none⟩) G.gul.length c))]) (fun _ i _ => 9 - (intOf i).toNat)
        case atStart => exact ⟨0, by omega, rfl, rfl, S⟩
        case round =>
          clear S
          obtain ⟨x, hx, rfl, rfl, S⟩ := hrel
          by_cases hxl : x < 9
          · obtain ⟨t0, h0, ht0, hh0, hd0, hd1, hb⟩ := at81 hG V HT.out (y * 9 + x) (by omega)
            have hp := pcnt_range G ts (y * 9 + x)
            have hc1 := pcnt_succ G ts (y * 9 + x)
            rw [hd1] at hc1
            have HT0 := Lib.hid (gcs_some (G := G.with ts) (v := .slice A' G.gul.length c') ht0)
            have HH0 := Lib.hid (gcs_some (v := .slice (some ⟨b, 0, none⟩) G.gul.length c) hh0)
            clear ht0 hh0 hd0 hd1
            by_cases hlt0 : h0 < t0
            · have hq : (t0 != h0) = true := by simp; omega
              have HC : Hid (pcnt G ts (y * 9 + x + 1) = pcnt G ts (y * 9 + x) + 1) := by show _ = _; rw [hc1, decide_eq_true hlt0]; rfl
              clear hc1 hlt0
              go_wp2
              try (simp only [Act.put, List.setIfInBounds_toArray, List.set_cons_succ, List.set_cons_zero])
              refine wp_region_mix (by kernel_rfl) (by kernel_rfl) ?_
              repeat (first
                | go_big_quiet_skip
                | (go_big_quiet_want; refine Q_load1 S _ _ rfl bo (2 + y * 9 + x) rfl 0 _ _ rfl (.int .i16 t0) Try.isAgg23 HT0.out ?_; simp only [Act.put, List.setIfInBounds_toArray, List.set_cons_succ, List.set_cons_zero]; go_big_quiet_on)
                | (go_big_quiet_want; refine Q_load1 S _ _ rfl ba (2 + y * 9 + x) rfl 3 _ _ rfl (.int .i16 h0) Try.isAgg23 HH0.out ?_; simp only [Act.put, List.setIfInBounds_toArray, List.set_cons_succ, List.set_cons_zero]; go_big_quiet_on)
                | (go_big_quiet_want; go_big_quiet_op; go_big_quiet_on))
              refine wpQuiet_nil ?_
              intro _ hw'
              obtain ⟨⟨nq, osq⟩, rfl⟩ := hw'
              replace S := S.callB (mix_below _ nq osq)
              generalize grow (sd _ nq) osq = wq at S ⊢
              go_wp2
              refine ⟨⟨x + 1, by omega, by go_num, by rw [← Nat.add_assoc, HC.out], S⟩, ?_⟩
              simp [intOf]; omega
            · have hq : (t0 != h0) = false := by simp; omega
              have HC : Hid (pcnt G ts (y * 9 + x + 1) = pcnt G ts (y * 9 + x)) := by show _ = _; rw [hc1, decide_eq_false hlt0]; simp [bitI]
              clear hc1 hlt0
              go_wp2
              try (simp only [Act.put, List.setIfInBounds_toArray, List.set_cons_succ, List.set_cons_zero])
              refine wp_region_mix (by kernel_rfl) (by kernel_rfl) ?_
              repeat (first
                | go_big_quiet_skip
                | (go_big_quiet_want; refine Q_load1 S _ _ rfl bo (2 + y * 9 + x) rfl 0 _ _ rfl (.int .i16 t0) Try.isAgg23 HT0.out ?_; simp only [Act.put, List.setIfInBounds_toArray, List.set_cons_succ, List.set_cons_zero]; go_big_quiet_on)
                | (go_big_quiet_want; refine Q_load1 S _ _ rfl ba (2 + y * 9 + x) rfl 3 _ _ rfl (.int .i16 h0) Try.isAgg23 HH0.out ?_; simp only [Act.put, List.setIfInBounds_toArray, List.set_cons_succ, List.set_cons_zero]; go_big_quiet_on)
                | (go_big_quiet_want; go_big_quiet_op; go_big_quiet_on))
              refine wpQuiet_nil ?_
              intro _ hw'
              obtain ⟨⟨nq, osq⟩, rfl⟩ := hw'
              replace S := S.callB (mix_below _ nq osq)
              generalize grow (sd _ nq) osq = wq at S ⊢
              go_wp2
              refine ⟨⟨x + 1, by omega, by go_num, by rw [← Nat.add_assoc, HC.out], S⟩, ?_⟩
              simp [intOf]; omega
          · have hx9 : x = 9 := by omega
            subst hx9
            go_wp2
            refine ⟨⟨y + 1, by omega, by go_num, by rw [Nat.succ_mul], S⟩, ?_⟩
            simp [intOf]; omega
      · have hy9 : y = 9 := by omega
        subst hy9
        have hl8 : (gcs (G.with ts) (.slice A' G.gul.length c')).length = 84 := gcs_len htl.out _
        go_wp2_with (first
          | ((with_reducible refine at_load_ 34 rfl rfl ?_); (first | (refine W_loadN S rfl _ _ rfl bo 0 rfl 0 _ _ rfl (gcs (G.with ts) (.slice A' G.gul.length c')) Try.isAgg34 (by rw [hl8]; exact Try.sizeOf34) (fun jq uq hq => by rw [Nat.zero_add]; exact hq) ?_) | (refine W_loadN S rfl _ _ rfl bo 0 rfl 1 _ _ rfl (gcs (G.with ts) (.slice A' G.gul.length c')) Try.isAgg34 (by rw [hl8]; exact Try.sizeOf34) (fun jq uq hq => by rw [Nat.zero_add]; exact hq) ?_) | (refine W_loadN S rfl _ _ rfl bo 0 rfl 2 _ _ rfl (gcs (G.with ts) (.slice A' G.gul.length c')) Try.isAgg34 (by rw [hl8]; exact Try.sizeOf34) (fun jq uq hq => by rw [Nat.zero_add]; exact hq) ?_) | (refine W_loadN S rfl _ _ rfl bo 0 rfl 3 _ _ rfl (gcs (G.with ts) (.slice A' G.gul.length c')) Try.isAgg34 (by rw [hl8]; exact Try.sizeOf34) (fun jq uq hq => by rw [Nat.zero_add]; exact hq) ?_) | (refine W_loadN S rfl _ _ rfl bo 0 rfl 4 _ _ rfl (gcs (G.with ts) (.slice A' G.gul.length c')) Try.isAgg34 (by rw [hl8]; exact Try.sizeOf34) (fun jq uq hq => by rw [Nat.zero_add]; exact hq) ?_) | (refine W_loadN S rfl _ _ rfl bo 0 rfl 5 _ _ rfl (gcs (G.with ts) (.slice A' G.gul.length c')) Try.isAgg34 (by rw [hl8]; exact Try.sizeOf34) (fun jq uq hq => by rw [Nat.zero_add]; exact hq) ?_) | (refine W_loadN S rfl _ _ rfl bo 0 rfl 6 _ _ rfl (gcs (G.with ts) (.slice A' G.gul.length c')) Try.isAgg34 (by rw [hl8]; exact Try.sizeOf34) (fun jq uq hq => by rw [Nat.zero_add]; exact hq) ?_) | (refine W_loadN S rfl _ _ rfl bo 0 rfl 7 _ _ rfl (gcs (G.with ts) (.slice A' G.gul.length c')) Try.isAgg34 (by rw [hl8]; exact Try.sizeOf34) (fun jq uq hq => by rw [Nat.zero_add]; exact hq) ?_) | (refine W_loadN S rfl _ _ rfl bo 0 rfl 8 _ _ rfl (gcs (G.with ts) (.slice A' G.gul.length c')) Try.isAgg34 (by rw [hl8]; exact Try.sizeOf34) (fun jq uq hq => by rw [Nat.zero_add]; exact hq) ?_) | (refine W_loadN S rfl _ _ rfl bo 0 rfl 9 _ _ rfl (gcs (G.with ts) (.slice A' G.gul.length c')) Try.isAgg34 (by rw [hl8]; exact Try.sizeOf34) (fun jq uq hq => by rw [Nat.zero_add]; exact hq) ?_)))
          | ((with_reducible refine at_store_ 34 rfl rfl ?_); (first | (refine W_storeW S rfl _ _ _ rfl br rfl 0 _ _ rfl (gcs (G.with ts) (.slice A' G.gul.length c')) rfl (by rw [hl8]; exact Try.sizeOf34) (by rw [hl8]; rfl) (gcs_one rfl) ?_; clear S; intro w' S; simp only [List.set_cons_zero, List.set_cons_succ] at S) | (refine W_storeW S rfl _ _ _ rfl br rfl 1 _ _ rfl (gcs (G.with ts) (.slice A' G.gul.length c')) rfl (by rw [hl8]; exact Try.sizeOf34) (by rw [hl8]; rfl) (gcs_one rfl) ?_; clear S; intro w' S; simp only [List.set_cons_zero, List.set_cons_succ] at S) | (refine W_storeW S rfl _ _ _ rfl br rfl 2 _ _ rfl (gcs (G.with ts) (.slice A' G.gul.length c')) rfl (by rw [hl8]; exact Try.sizeOf34) (by rw [hl8]; rfl) (gcs_one rfl) ?_; clear S; intro w' S; simp only [List.set_cons_zero, List.set_cons_succ] at S) | (refine W_storeW S rfl _ _ _ rfl br rfl 3 _ _ rfl (gcs (G.with ts) (.slice A' G.gul.length c')) rfl (by rw [hl8]; exact Try.sizeOf34) (by rw [hl8]; rfl) (gcs_one rfl) ?_; clear S; intro w' S; simp only [List.set_cons_zero, List.set_cons_succ] at S) | (refine W_storeW S rfl _ _ _ rfl br rfl 4 _ _ rfl (gcs (G.with ts) (.slice A' G.gul.length c')) rfl (by rw [hl8]; exact Try.sizeOf34) (by rw [hl8]; rfl) (gcs_one rfl) ?_; clear S; intro w' S; simp only [List.set_cons_zero, List.set_cons_succ] at S) | (refine W_storeW S rfl _ _ _ rfl br rfl 5 _ _ rfl (gcs (G.with ts) (.slice A' G.gul.length c')) rfl (by rw [hl8]; exact Try.sizeOf34) (by rw [hl8]; rfl) (gcs_one rfl) ?_; clear S; intro w' S; simp only [List.set_cons_zero, List.set_cons_succ] at S))))
        refine W_ret_ctt rfl S _ rfl _ _ rfl rfl rfl 2 _ _ rfl Try.isAgg34 (by rw [hl8]; exact Try.sizeOf34) ?_
        exact ⟨G.with ts, _, A', c', ⟨fun _ => ⟨ts, HT.out, rfl, rfl⟩, fun h => absurd HV.out h⟩, rfl, S.only (k := 1) rfl⟩
  · have hne : (levCode G == 0) = false := by simpa using hv
    have HV := Lib.hid hv
    clear hv
    go_enter Try.func27, Try.ntmps27
    go_wp2_with (first
      | ((with_reducible refine at_box_ 34 rfl rfl ?_); (refine W_box S rfl _ _ rfl (gv G (.slice (some ⟨b, 0, none⟩) G.gul.length c)) rfl ?_; clear S; intro ba w' S; change St _ _ (EB _ _ (gcs G (.slice (some ⟨b, 0, none⟩) G.gul.length c)) :: _) at S))
      | ((with_reducible refine at_alloc_ 34 rfl rfl ?_); (first | ((fail_if_success have hq := br); refine W_alloc S rfl 34 rfl _ Try.zeroValue34 ?_; clear S; intro br w' S; change St _ _ (EB _ _ (gcs Gnd.zero (.slice none 0 0)) :: _) at S) | ((fail_if_success have hq := bo); refine W_alloc S rfl 34 rfl _ Try.zeroValue34 ?_; clear S; intro bo w' S; change St _ _ (EB _ _ (gcs Gnd.zero (.slice none 0 0)) :: _) at S)))
      | (go_at_call 51; refine Calls.mono (hlc _ ba (rd_EB0 S (k := 1) rfl) (hR.st S)) ?_; rintro e w1 ⟨rfl, hb⟩; replace S := S.callB hb; clear hb)
      | ((with_reducible refine at_build_ 34 rfl rfl ?_); (refine W_build rfl _ _ rfl (gv Gnd.zero (.slice none 0 0)) #[] ?_ (run_build0 _) ?_; simp [go_sem]))
      | ((with_reducible refine at_store_ 34 rfl rfl ?_); (first | (refine W_storeW S rfl _ _ _ rfl br rfl 0 _ _ rfl (gcs Gnd.zero (.slice none 0 0)) rfl (by rw [gcs_len rfl]; exact Try.sizeOf34) (rfl) (gcs_one rfl) ?_; clear S; intro w' S; simp only [List.set_cons_zero, List.set_cons_succ] at S) | (refine W_storeW S rfl _ _ _ rfl br rfl 1 _ _ rfl (gcs Gnd.zero (.slice none 0 0)) rfl (by rw [gcs_len rfl]; exact Try.sizeOf34) (rfl) (gcs_one rfl) ?_; clear S; intro w' S; simp only [List.set_cons_zero, List.set_cons_succ] at S) | (refine W_storeW S rfl _ _ _ rfl br rfl 2 _ _ rfl (gcs Gnd.zero (.slice none 0 0)) rfl (by rw [gcs_len rfl]; exact Try.sizeOf34) (rfl) (gcs_one rfl) ?_; clear S; intro w' S; simp only [List.set_cons_zero, List.set_cons_succ] at S) | (refine W_storeW S rfl _ _ _ rfl br rfl 3 _ _ rfl (gcs Gnd.zero (.slice none 0 0)) rfl (by rw [gcs_len rfl]; exact Try.sizeOf34) (rfl) (gcs_one rfl) ?_; clear S; intro w' S; simp only [List.set_cons_zero, List.set_cons_succ] at S) | (refine W_storeW S rfl _ _ _ rfl br rfl 4 _ _ rfl (gcs Gnd.zero (.slice none 0 0)) rfl (by rw [gcs_len rfl]; exact Try.sizeOf34) (rfl) (gcs_one rfl) ?_; clear S; intro w' S; simp only [List.set_cons_zero, List.set_cons_succ] at S) | (refine W_storeW S rfl _ _ _ rfl br rfl 5 _ _ rfl (gcs Gnd.zero (.slice none 0 0)) rfl (by rw [gcs_len rfl]; exact Try.sizeOf34) (rfl) (gcs_one rfl) ?_; clear S; intro w' S; simp only [List.set_cons_zero, List.set_cons_succ] at S))))
    refine W_ret_ctt rfl S _ rfl _ _ rfl rfl rfl 0 _ _ rfl Try.isAgg34 (by rw [gcs_len rfl]; exact Try.sizeOf34) ?_
    exact ⟨Gnd.zero, 0, none, 0, ⟨fun h => absurd h HV.out, fun _ => ⟨rfl, rfl⟩⟩, rfl, (S.nil _ _).only (k := 0) rfl⟩
end Go.Proofs.Ytpfmmbdddecphaa
