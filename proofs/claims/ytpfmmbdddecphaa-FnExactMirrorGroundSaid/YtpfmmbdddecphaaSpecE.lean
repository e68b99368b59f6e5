/- The walk of the reference's l04Levels; its FillLevels. -/
import Derived.Test.YtpfmmbdddecphaaSpecD
namespace Go.Proofs.Ytpfmmbdddecphaa
open Go.RowKit Go.Sort
set_option linter.unusedVariables false
set_option linter.unusedSimpArgs false

theorem rd_xy {w : World} {b off : Nat} {xs : List Pt} (hr : Rd w (some ⟨b, off, none⟩) (ccs xs)) {k : Nat} {d : Pt} (h : xs[k]? = some d) : w.cell? ⟨b, off + k * 2, none⟩ = some (.int .i8 d.1) ∧ w.cell? ⟨b, off + k * 2 + 1, none⟩ = some (.int .i8 d.2) := by
  have h0 := hr.2 b off rfl (k * 2 + 0) (.int .i8 d.1) (cells_mid cenc 2 (fun _ => rfl) xs k d h 0 _ rfl)
  have h1 := hr.2 b off rfl (k * 2 + 1) (.int .i8 d.2) (cells_mid cenc 2 (fun _ => rfl) xs k d h 1 _ rfl)
  exact ⟨by simpa using h0, by rw [Nat.add_assoc]; exact h1⟩

set_option maxRecDepth 100000 in
set_option maxHeartbeats 4000000 in
theorem l04Levels_any (G : Gnd) (hG : G.Ok) (V : ValidG G) (A : Option Addr) (c : Nat) (gb : Nat) (w : World) (hg : Rd w (some ⟨gb, 0, none⟩) (gcs G (.slice A G.gul.length c))) (hR : Rd w A (ccs G.gul)) :
    Calls Try.prog 52 #[.pointer (some ⟨gb, 0, none⟩)] w fun e w' => ∃ ts, IsLev G ts ∧ e = .returned (.agg (hvl ts).toArray) ∧ Below w.heap.size w w' := by
  have S := St.refl w
  have hnp : (pts G).length ≤ 81 := by
    rw [pts_length]
    have h1 : G.high.toNat * G.wide.toNat ≤ 9 * 9 := Nat.mul_le_mul (by have := V.high; omega) (by have := V.wide; omega)
    omega
  go_enter Try.func52, Try.ntmps52
  go_wp2_with (first
    | (have hq := b0; clear hq; refine W_alloc S rfl 25 rfl _ Try.zeroValue25 ?_; clear S; intro bt w' S; change St _ _ (EB _ _ (hvl (List.replicate 81 0)) :: _) at S)
    | (refine W_alloc S rfl 25 rfl _ Try.zeroValue25 ?_; clear S; intro b0 w' S; change St _ _ (EB _ _ (hvl (List.replicate 81 0)) :: _) at S)
    | (refine W_storeW S rfl _ _ _ rfl _ rfl 0 _ _ rfl (hvl (List.replicate 81 0)) rfl (by exact Try.sizeOf25) (rfl) (hvl_one _) ?_; clear S; intro w' S; simp only [List.set_cons_zero, List.set_cons_succ] at S)
    | (go_at_call 66; refine Calls.mono (l04All_any G hG _ gb _ (hg.st S)) ?_; rintro e w1 ⟨A2, c2, rfl, S2⟩; replace S := S.call S2; clear S2))
  replace S : St w w1 [ER 43 2 (.slice A2 (pts G).length c2) (pts G).length (ccs (pts G)), EB bt 25 (hvl (List.replicate 81 0)), EB b0 25 (hvl (List.replicate 81 0))] := S
  go_loopw [5] (fun i wr => ∃ (k : Nat) (ts : List Int), i = .int .i64 k ∧ k ≤ (pts G).length ∧ Hid (TBase G ts) ∧ Hid (InitTo G ts ((pts G).take k)) ∧ St w wr [ER 43 2 (.slice A2 (pts G).length c2) (pts G).length (ccs (pts G)), EB bt 25 (hvl ts), EB b0 25 (hvl (List.replicate 81 0))]) (fun i _ => (pts G).length - (intOf i).toNat)
  case atStart => exact ⟨0, _, rfl, by omega, TBase.start G, fun c h => by simp at h, S⟩
  case round =>
    clear S
    obtain ⟨k, ts, rfl, hk, HT, HI, S⟩ := hrel
    by_cases hkl : k < (pts G).length
    · obtain ⟨d, hd⟩ : ∃ d, (pts G)[k]? = some d := ⟨_, List.getElem?_eq_getElem hkl⟩
      have hdc := pts_mem.1 (List.mem_of_getElem? hd)
      have hdr := cell_range V hdc
      have hHd := V.h_le hdc
      have HD := Lib.hid hd; clear hd
      have hP : Rd wr A2 (ccs (pts G)) := S.rd (k := 0) rfl
      obtain ⟨bi, oi, hA⟩ := hP.1 (ccs_ne HD.out)
      subst hA
      have htl := HT.out.len
      have hx0 : 0 ≤ d.1 := by omega
      have hx9 : d.1 < 9 := by omega
      have hy0 : 0 ≤ d.2 := by omega
      have hy9 : d.2 < 9 := by omega
      have htx : tix d < ts.length := by rw [htl]; exact tix_lt V hdc
      have hst : ∀ v : Int, -32768 ≤ v ∧ v ≤ 32767 → v = initL G d → Hid (TBase G (ts.set (tix d) v)) ∧ Hid (InitTo G (ts.set (tix d) v) ((pts G).take (k + 1))) := fun v _ hv => ⟨HT.out.set V hdc v, by rw [take_more HD.out]; exact HI.out.more V HT.out (fun c hc => pts_mem.1 (List.mem_of_mem_take hc)) hdc hv⟩
      have hgl := fun w' h1 h2 => l04Gully_any G hG V.many A c gb d w' h1 h2
      by_cases hgu : d ∈ G.gul
      · have hge : 0 ≤ gulI G d := gulI_pos.2 hgu
        have hin : G.h d = initL G d := by unfold initL; rw [if_pos hgu]
        clear hgu
        go_wp2_with (first
          | (refine W_elem cenc rfl _ _ rfl bi oi (k) 2 ?_ (pts G) ?_ (fun _ => rfl) (d) ?_ Try.isAgg43 Try.sizeOf43 ?_; rfl; exact hP; exact HD.out)
          | (go_at_call 76; refine Calls.mono (hgl _ (hg.st S) (hR.st S)) ?_; rintro e w1 ⟨rfl, hb⟩; replace S := S.callB hb; clear hb))
        obtain ⟨hcx, hcy⟩ := rd_xy (S.rd (k := 0) rfl) HD.out
        have hgs := hg.st S
        refine wp_region_mix (by kernel_rfl) (by kernel_rfl) ?_
        repeat (first
          | go_big_quiet_skip
          | (go_big_quiet_want; refine Q_ldA _ _ rfl _ _ rfl (.int .i8 d.2) Try.isAgg22 (hcy) ?_; simp only [Act.put, List.setIfInBounds_toArray, List.set_cons_succ, List.set_cons_zero]; go_big_quiet_on) | (go_big_quiet_want; refine Q_ldA _ _ rfl _ _ rfl (.int .i8 d.1) Try.isAgg22 (hcx) ?_; simp only [Act.put, List.setIfInBounds_toArray, List.set_cons_succ, List.set_cons_zero]; go_big_quiet_on)
          | (go_big_quiet_want; refine Q_ldR _ _ rfl gb _ rfl _ hgs (.int .i16 (G.at d.1 d.2)) Try.isAgg23 (gcs_at hG.len _ hdr.1 hdr.2) ?_; simp only [Act.put, List.setIfInBounds_toArray, List.set_cons_succ, List.set_cons_zero]; go_big_quiet_on)
          | (go_big_quiet_want; go_big_quiet_op; go_big_quiet_on))
        refine wpQuiet_nil ?_
        intro _ hw'
        obtain ⟨⟨nq, osq⟩, rfl⟩ := hw'
        replace S := S.callB (mix_below _ nq osq)
        generalize grow (sd _ nq) osq = wq at S ⊢
        clear hcx hcy
        go_wp2
        have HH := hst (G.at d.1 d.2) (by have : G.h d = G.at d.1 d.2 := rfl; omega) hin
        clear hst
        replace S := S.callB (drew_below _)
        obtain ⟨hcx, hcy⟩ := rd_xy (S.rd (k := 0) rfl) HD.out
        refine wp_region_tail 13 (by kernel_rfl) (by kernel_rfl) ?_
        simp only [List.take_succ_cons, List.take_zero, List.drop_succ_cons, List.drop_zero]
        iterate 13 still_step
        refine wpStill_nil ?_
        clear hcx hcy
        refine W_storeN S rfl _ _ _ rfl bt (tix d) rfl 1 _ (hvl ts) rfl (.int .i16 (G.at d.1 d.2)) rfl Try.sizeOf23 (one_cells rfl) (hvl (ts.set (tix d) (G.at d.1 d.2))) (by rw [hvl_length]; exact htx) (hvl_set htx) ?_
        clear S; intro w' S; simp only [List.set_cons_zero, List.set_cons_succ] at S
        simp only [Act.put, List.setIfInBounds_toArray, List.set_cons_succ, List.set_cons_zero]
        go_wp2
        refine ⟨⟨k + 1, ts.set (tix d) (G.at d.1 d.2), by go_num, by omega, HH.1, HH.2, S⟩, ?_⟩
        simp [intOf]; omega
      · have hge : ¬ 0 ≤ gulI G d := fun h => hgu (gulI_pos.1 h)
        have hin : Hid ((200 : Int) = initL G d) := by show (200 : Int) = initL G d; unfold initL; rw [if_neg hgu]
        clear hgu
        go_wp2_with (first
          | (refine W_elem cenc rfl _ _ rfl bi oi (k) 2 ?_ (pts G) ?_ (fun _ => rfl) (d) ?_ Try.isAgg43 Try.sizeOf43 ?_; rfl; exact hP; exact HD.out)
          | (go_at_call 76; refine Calls.mono (hgl _ (hg.st S) (hR.st S)) ?_; rintro e w1 ⟨rfl, hb⟩; replace S := S.callB hb; clear hb))
        have HH := hst 200 (by omega) hin.out
        clear hst hin
        replace S := S.callB (drew_below _)
        obtain ⟨hcx, hcy⟩ := rd_xy (S.rd (k := 0) rfl) HD.out
        refine wp_region_tail 13 (by kernel_rfl) (by kernel_rfl) ?_
        simp only [List.take_succ_cons, List.take_zero, List.drop_succ_cons, List.drop_zero]
        iterate 13 still_step
        refine wpStill_nil ?_
        clear hcx hcy
        refine W_storeN S rfl _ _ _ rfl bt (tix d) rfl 1 _ (hvl ts) rfl (.int .i16 (200)) rfl Try.sizeOf23 (one_cells rfl) (hvl (ts.set (tix d) (200))) (by rw [hvl_length]; exact htx) (hvl_set htx) ?_
        clear S; intro w' S; simp only [List.set_cons_zero, List.set_cons_succ] at S
        simp only [Act.put, List.setIfInBounds_toArray, List.set_cons_succ, List.set_cons_zero]
        go_wp2
        refine ⟨⟨k + 1, ts.set (tix d) (200), by go_num, by omega, HH.1, HH.2, S⟩, ?_⟩
        simp [intOf]; omega
    · have hke : k = (pts G).length := by omega
      subst hke
      have HI' : Hid (TInv G ts) := by
        show TInv G ts
        refine TInv.start V HT.out ?_
        have := HI.out; rwa [List.take_length] at this
      clear HT HI
      go_wp2
      go_loopg [7] (muT G ts + 1) (fun g ch wr => ∃ (b : Bool) (ts : List Int), ch = .bool b ∧ Hid (TInv G ts) ∧ Hid (TOuter G ts b g) ∧ St w wr [ER 43 2 (.slice A2 (pts G).length c2) (pts G).length (ccs (pts G)), EB bt 25 (hvl ts), EB b0 25 (hvl (List.replicate 81 0))])
      case atStart => exact ⟨true, ts, rfl, HI', .go, S⟩
      case round =>
        clear HI' S
        obtain ⟨b, t0, rfl, HI, HO, S⟩ := hrel
        cases b with
        | true =>
          have hgk : Hid (gk = muT G t0 + 1) := by cases HO.out; rfl
          clear HO
          go_wp2
          go_loopw [7, 8] (fun ch i wr => ∃ (k : Nat) (b : Bool) (ts : List Int), i = .int .i64 k ∧ ch = .bool b ∧ k ≤ (pts G).length ∧ Hid (TInv G ts) ∧ Hid (TPass G t0 ts ((pts G).take k) b) ∧ St w wr [ER 43 2 (.slice A2 (pts G).length c2) (pts G).length (ccs (pts G)), EB bt 25 (hvl ts), EB b0 25 (hvl (List.replicate 81 0))]) (fun _ i _ => (pts G).length - (intOf i).toNat)
          case atStart => exact ⟨0, false, t0, rfl, rfl, by omega, HI, .same rfl (fun c hc => by simp at hc), S⟩
          case round =>
            clear HI S
            obtain ⟨k, b, ts, rfl, rfl, hk, HI, HP, S⟩ := hrel
            by_cases hkl : k < (pts G).length
            · obtain ⟨d, hd⟩ : ∃ d, (pts G)[k]? = some d := ⟨_, List.getElem?_eq_getElem hkl⟩
              have hdc := pts_mem.1 (List.mem_of_getElem? hd)
              have hdr := cell_range V hdc
              have hHd := V.h_le hdc
              have HD := Lib.hid hd; clear hd
              have hP : Rd wr A2 (ccs (pts G)) := S.rd (k := 0) rfl
              obtain ⟨bi, oi, hA⟩ := hP.1 (ccs_ne HD.out)
              subst hA
              have hx0 : 0 ≤ d.1 := by omega
              have hx9 : d.1 < 9 := by omega
              have hy0 : 0 ≤ d.2 := by omega
              have hy9 : d.2 < 9 := by omega
              go_wp2_with (first
                | (refine W_elem cenc rfl _ _ rfl bi oi (k) 2 ?_ (pts G) ?_ (fun _ => rfl) (d) ?_ Try.isAgg43 Try.sizeOf43 ?_; rfl; exact hP; exact HD.out)
                | (refine W_alloc S rfl _ rfl _ Try.zeroValue43 ?_; clear S; intro bc w' S; change St _ _ (EB _ _ ([.int .i8 0, .int .i8 0]) :: _) at S) | (refine W_storeN S rfl _ _ _ rfl _ _ rfl 0 _ _ rfl (.agg #[.int .i8 d.1, .int .i8 d.2]) rfl Try.sizeOf43 (one_cells rfl) [.int .i8 d.1, .int .i8 d.2] (Nat.le_refl _) rfl ?_; clear S; intro w' S; simp only [List.set_cons_zero, List.set_cons_succ] at S)
                | (refine W_loadN S rfl _ _ rfl _ _ rfl 0 _ _ rfl (cenc d) Try.isAgg43 Try.sizeOf43 (fun jq uq hq => by rw [Nat.zero_add]; exact hq) ?_)
                | (go_at_call 101; refine Calls.mono (l04Beside_any G hG _ gb d.1 d.2 (by omega) (by omega) _ (hg.st S)) ?_; rintro e w1 ⟨A3, c3, rfl, S2⟩; replace S := S.call S2; clear S2))
              have hnl : (besideL G (d.1, d.2)).length ≤ 4 := by unfold besideL kept; exact List.length_filter_le _ _
              go_loopw [7, 11] (fun ch i wr => ∃ (j : Nat) (b : Bool) (ts : List Int), i = .int .i64 j ∧ ch = .bool b ∧ j ≤ (besideL G (d.1, d.2)).length ∧ Hid (TInv G ts) ∧ Hid (TPass G t0 ts ((pts G).take k) b) ∧ Hid (b = false → ∀ i e, i < j → (besideL G (d.1, d.2))[i]? = some e → tat ts d ≤ max (G.h d) (tat ts e)) ∧ St w wr [ER 43 2 (.slice A3 (besideL G (d.1, d.2)).length c3) (besideL G (d.1, d.2)).length (ccs (besideL G (d.1, d.2))), EB bc 43 (cenc d), ER 43 2 (.slice (some ⟨bi, oi, none⟩) (pts G).length c2) (pts G).length (ccs (pts G)), EB bt 25 (hvl ts), EB b0 25 (hvl (List.replicate 81 0))]) (fun _ i _ => (besideL G (d.1, d.2)).length - (intOf i).toNat)
              case atStart => exact ⟨0, b, ts, rfl, rfl, by omega, HI, HP, fun _ i e h => absurd h (by omega), S⟩
              case round =>
                clear HI HP S hP
                obtain ⟨j, b, ts, rfl, rfl, hj, HI, HP, HS, S⟩ := hrel
                by_cases hjl : j < (besideL G (d.1, d.2)).length
                · obtain ⟨e, he⟩ : ∃ e, (besideL G (d.1, d.2))[j]? = some e := ⟨_, List.getElem?_eq_getElem hjl⟩
                  have hem : e ∈ besideL G d := List.mem_of_getElem? he
                  have hec := beside_cell hem
                  have her := cell_range V hec
                  have HE := Lib.hid he; clear he
                  have HEM := Lib.hid hem; clear hem
                  have hQ : Rd wr A3 (ccs (besideL G (d.1, d.2))) := S.rd (k := 0) rfl
                  obtain ⟨bj, oj, hA⟩ := hQ.1 (ccs_ne HE.out)
                  subst hA
                  have hd200 := HI.out.hi d hdc
                  have he200 := HI.out.hi e hec
                  have htl := HI.out.len
                  have htd : tix d < ts.length := by rw [htl]; exact tix_lt V hdc
                  have hte : tix e < ts.length := by rw [htl]; exact tix_lt V hec
                  have hu0 : 0 ≤ e.1 := by omega
                  have hu9 : e.1 < 9 := by omega
                  have hv0 : 0 ≤ e.2 := by omega
                  have hv9 : e.2 < 9 := by omega
                  go_wp2
                  obtain ⟨hcx, hcy⟩ := rd_xy (S.rd (k := 0) rfl) HE.out
                  have hgs := hg.st S
                  refine wp_region_mix (by kernel_rfl) (by kernel_rfl) ?_
                  repeat (first
                    | go_big_quiet_skip
                    | (go_big_quiet_want; refine Q_ldA _ _ rfl _ _ rfl (.int .i8 e.2) Try.isAgg22 (hcy) ?_; simp only [Act.put, List.setIfInBounds_toArray, List.set_cons_succ, List.set_cons_zero]; go_big_quiet_on) | (go_big_quiet_want; refine Q_ldA _ _ rfl _ _ rfl (.int .i8 e.1) Try.isAgg22 (hcx) ?_; simp only [Act.put, List.setIfInBounds_toArray, List.set_cons_succ, List.set_cons_zero]; go_big_quiet_on)
                    | (go_big_quiet_want; refine Q_loadN S _ _ rfl _ _ rfl 1 _ _ rfl (cenc d) Try.isAgg43 Try.sizeOf43 (fun jq uq hq => by rw [Nat.zero_add]; exact hq) ?_; simp only [Act.put, List.setIfInBounds_toArray, List.set_cons_succ, List.set_cons_zero]; go_big_quiet_on)
                    | (go_big_quiet_want; refine Q_load1 S _ _ rfl _ _ rfl 3 _ _ rfl (.int .i16 (tat ts e)) Try.isAgg23 (tat_at hte) ?_; simp only [Act.put, List.setIfInBounds_toArray, List.set_cons_succ, List.set_cons_zero]; go_big_quiet_on)
                    | (go_big_quiet_want; go_big_quiet_op; go_big_quiet_on)
                    | (go_big_quiet_want; go_big_quiet_op; go_big_quiet_call (first | exact calls_mix (l04Height_any G hG _ gb d.1 d.2 hdr.1 hdr.2 _ (hgs.below (mix_below _ _ _))) | exact calls_mix_same (l00Max_any _ _ _))))
                  refine wpQuiet_nil ?_
                  intro _ hw'
                  obtain ⟨⟨nq, osq⟩, rfl⟩ := hw'
                  replace S := S.callB (mix_below _ nq osq)
                  generalize grow (sd _ nq) osq = wq at S ⊢
                  clear hcx hcy
                  go_wp2
                  have hvr : 0 ≤ max (G.at d.1 d.2) (tat ts e) ∧ max (G.at d.1 d.2) (tat ts e) ≤ 200 := by have : G.h d = G.at d.1 d.2 := rfl; omega
                  have hve : max (G.at d.1 d.2) (tat ts e) = max (G.h d) (tat ts e) := rfl
                  generalize max (G.at d.1 d.2) (tat ts e) = v at hvr hve ⊢
                  have HV := Lib.hid hve; clear hve
                  by_cases hlt : v < tat ts d
                  · refine wp_region_mix (by kernel_rfl) (by kernel_rfl) ?_
                    repeat (first
                      | go_big_quiet_skip
                      | (go_big_quiet_want; refine Q_load1 S _ _ rfl _ _ rfl 1 _ _ rfl _ Try.isAgg22 rfl ?_; simp only [Act.put, List.setIfInBounds_toArray, List.set_cons_succ, List.set_cons_zero]; go_big_quiet_on)
                      | (go_big_quiet_want; refine Q_load1 S _ _ rfl _ _ rfl 3 _ _ rfl (.int .i16 (tat ts d)) Try.isAgg23 (tat_at htd) ?_; simp only [Act.put, List.setIfInBounds_toArray, List.set_cons_succ, List.set_cons_zero]; go_big_quiet_on)
                      | (go_big_quiet_want; go_big_quiet_op; go_big_quiet_on))
                    refine wpQuiet_nil ?_
                    intro _ hw'
                    obtain ⟨⟨nq, osq⟩, rfl⟩ := hw'
                    replace S := S.callB (mix_below _ nq osq)
                    generalize grow (sd _ nq) osq = wq at S ⊢
                    go_wp2
                    replace S := S.callB (drew_below _)
                    have hc0 := EB.cell (S.get (k := 1) rfl) (j := 0) rfl
                    have hc1 := EB.cell (S.get (k := 1) rfl) (j := 1) rfl
                    refine wp_region_tail 8 (by kernel_rfl) (by kernel_rfl) ?_
                    simp only [List.take_succ_cons, List.take_zero, List.drop_succ_cons, List.drop_zero]
                    iterate 8 still_step
                    refine wpStill_nil ?_
                    clear hc0 hc1
                    rw [IntWalk.i16_in v (by omega)]
                    have hlow := HI.out.lower V hdc HEM.out (by rw [← HV.out]; exact hlt)
                    rw [← HV.out] at hlow
                    have hmu := muT_lower V HI.out hdc hvr.1 hlt
                    have HI2 := Lib.hid hlow; clear hlow
                    have HM := Lib.hid hmu; clear hmu
                    refine W_storeN S rfl _ _ _ rfl bt (tix d) rfl 3 _ (hvl ts) rfl (.int .i16 v) rfl Try.sizeOf23 (one_cells rfl) (hvl (ts.set (tix d) v)) (by rw [hvl_length]; exact htd) (hvl_set htd) ?_
                    clear S; intro w' S; simp only [List.set_cons_zero, List.set_cons_succ] at S
                    simp only [Act.put, List.setIfInBounds_toArray, List.set_cons_succ, List.set_cons_zero]
                    go_wp2
                    refine ⟨⟨j + 1, true, ts.set (tix d) v, by go_num, rfl, by omega, HI2, HP.out.tells HM.out, fun h => absurd h (by simp), S⟩, ?_⟩
                    simp [intOf]; omega
                  · refine wp_region_mix (by kernel_rfl) (by kernel_rfl) ?_
                    repeat (first
                      | go_big_quiet_skip
                      | (go_big_quiet_want; refine Q_load1 S _ _ rfl _ _ rfl 1 _ _ rfl _ Try.isAgg22 rfl ?_; simp only [Act.put, List.setIfInBounds_toArray, List.set_cons_succ, List.set_cons_zero]; go_big_quiet_on)
                      | (go_big_quiet_want; refine Q_load1 S _ _ rfl _ _ rfl 3 _ _ rfl (.int .i16 (tat ts d)) Try.isAgg23 (tat_at htd) ?_; simp only [Act.put, List.setIfInBounds_toArray, List.set_cons_succ, List.set_cons_zero]; go_big_quiet_on)
                      | (go_big_quiet_want; go_big_quiet_op; go_big_quiet_on))
                    refine wpQuiet_nil ?_
                    intro _ hw'
                    obtain ⟨⟨nq, osq⟩, rfl⟩ := hw'
                    replace S := S.callB (mix_below _ nq osq)
                    generalize grow (sd _ nq) osq = wq at S ⊢
                    go_wp2
                    refine ⟨⟨j + 1, b, ts, by go_num, rfl, by omega, HI, HP, fun hb0 => upto_more (HS.out hb0) HE.out (by rw [← HV.out]; omega), S⟩, ?_⟩
                    simp [intOf]; omega
                · have hje : j = (besideL G (d.1, d.2)).length := by omega
                  subst hje
                  go_wp2
                  refine ⟨⟨k + 1, b, ts, by go_num, rfl, by omega, HI, by rw [take_more HD.out]; exact HP.out.more (fun hb0 => step_all (HS.out hb0)), S.tail.tail⟩, ?_⟩
                  simp [intOf]; omega
            · have hke : k = (pts G).length := by omega
              subst hke
              have HP' : Hid (TPass G t0 ts (pts G) b) := by have := HP.out; rwa [List.take_length] at this
              go_wp2
              obtain ⟨g', hg', hO'⟩ := HP'.out.ends
              go_roundg g'
              case measure => rw [hgk.out]; exact hg'
              case rel => exact ⟨b, ts, rfl, HI, hO', S⟩
        | false =>
          have HC : Hid (∀ c ∈ pts G, StepAt G t0 c) := by cases HO.out with | stop h => exact h
          have htl := HI.out.len
          clear HO
          go_wp2_with (first
            | (refine W_loadN S rfl _ _ rfl _ _ rfl 1 _ _ rfl (hvl t0) Try.isAgg25 (by rw [hvl_length, htl]; exact Try.sizeOf25) (fun jq uq hq => by rw [Nat.zero_add]; exact hq) ?_)
            | (refine W_storeW S rfl _ _ _ rfl _ rfl 2 _ _ rfl (hvl t0) rfl (by rw [hvl_length, htl]; exact Try.sizeOf25) (by rw [hvl_length, hvl_length, htl]; rfl) (hvl_one _) ?_; clear S; intro w' S; simp only [List.set_cons_zero, List.set_cons_succ] at S))
          refine W_ret_c rfl S _ rfl rfl 2 _ _ rfl Try.isAgg25 (by rw [hvl_length, htl]; exact Try.sizeOf25) ?_
          exact ⟨t0, HI.out.lev HC.out, rfl, S.below⟩
end Go.Proofs.Ytpfmmbdddecphaa
