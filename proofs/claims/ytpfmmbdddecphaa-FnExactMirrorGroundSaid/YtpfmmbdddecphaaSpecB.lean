/- The reference's functions on grounds: l04Gully, l04Beside, l04All, l04Height. -/
import Derived.Test.YtpfmmbdddecphaaSpec
import Derived.Test.YtpfmmbdddecphaaMap
import Derived.Test.YtpfmmbdddecphaaSprP
namespace Go.Proofs.Ytpfmmbdddecphaa
open Go.RowKit Go.Sort
set_option linter.unusedVariables false
set_option linter.unusedSimpArgs false

section
variable {o : Oper} {a : Act} {w : World}
theorem exec_eqC (T : TypeId) (hT : T = 43) (x y : Operand) (t0 : TypeId) (ho : o.op = .binOp .eql T x y t0) (c d : Pt) (hx : a.eval x = cv c) (hy : a.eval y = cv d) : (execOp a.eval o).run Try.prog w = .ok (.value (.bool (decide (c = d)))) w := by
  subst hT
  have hm : Try.prog.eqGuardType Try.prog.depth 43 = false := by kernel_rfl
  have he := run_eqC c d w
  unfold Op.equal Op.maxDepth at he
  unfold execOp
  simp only [ho, hx, hy]
  unfold cv at he ⊢
  simp [run_eqGuard_agg, hm, run_eql_struct, he, Sem.run_bind]
end
def gulI (G : Gnd) (c : Pt) : Int := firstI (fun g => decide (g = c)) G.gul

set_option maxRecDepth 100000 in
set_option maxHeartbeats 1000000 in
theorem l04Gully_any (G : Gnd) (hG : G.Ok) (hm8 : G.gul.length ≤ 8) (A : Option Addr) (c : Nat) (gb : Nat) (d : Pt) (w : World) (hg : Rd w (some ⟨gb, 0, none⟩) (gcs G (.slice A G.gul.length c))) (hR : Rd w A (ccs G.gul)) :
    Calls Try.prog 76 #[.pointer (some ⟨gb, 0, none⟩), cv d] w fun e w' => e = .returned (.int .i64 (gulI G d)) ∧ Below w.heap.size w w' := by
  have S := St.refl w
  go_enter Try.func76, Try.ntmps76
  go_wp2_with (first | (refine W_box S rfl _ _ rfl (.agg #[.int .i8 d.1, .int .i8 d.2]) rfl ?_; clear S; intro bd w' S; change St _ _ (EB _ _ ([.int .i8 d.1, .int .i8 d.2]) :: _) at S))
  go_loopw [5] (fun i wr => ∃ k : Nat, k ≤ G.gul.length ∧ i = .int .i64 k ∧ Hid (∀ j y, j < k → G.gul[j]? = some y → decide (y = d) = false) ∧ St w wr [EB bd 43 (cenc d)]) (fun i _ => G.gul.length - (intOf i).toNat)
  case atStart => exact ⟨0, by omega, rfl, fun j y h => absurd h (by omega), S⟩
  case round =>
    obtain ⟨k, hk, rfl, HK, S⟩ := hrel
    by_cases hkl : k < G.gul.length
    · obtain ⟨e, he⟩ : ∃ d, G.gul[k]? = some d := ⟨_, List.getElem?_eq_getElem hkl⟩
      have HD := Lib.hid he; clear he
      obtain ⟨bi, oi, hA⟩ := hR.1 (ccs_ne HD.out)
      subst hA
      have hgs := hg.st S
      go_wp2_with (first
        | (refine W_load1C rfl _ _ rfl ⟨gb, 83, none⟩ rfl (.slice (some ⟨bi, oi, none⟩) G.gul.length c) Try.isAgg32 ?_ ?_; exact (hg.st S).at0 (gcs_gul hG.len _)))
      refine wp_region_mix (by kernel_rfl) (by kernel_rfl) ?_
      repeat (first
        | go_big_quiet_skip
        | (go_big_quiet_want; refine Q_ldR _ _ rfl gb 83 rfl _ hgs (.slice (some ⟨bi, oi, none⟩) G.gul.length c) Try.isAgg32 (gcs_gul hG.len _) ?_; simp only [Act.put, List.setIfInBounds_toArray, List.set_cons_succ, List.set_cons_zero]; go_big_quiet_on)
        | (go_big_quiet_want; refine Q_index _ _ _ rfl bi oi _ _ rfl (k) ?_ _ Try.underlying32 _ Try.sizeOf43 ?_ ?_ ?_; rfl; omega; omega; simp only [Act.put, List.setIfInBounds_toArray, List.set_cons_succ, List.set_cons_zero]; go_big_quiet_on)
        | (go_big_quiet_want; refine Q_elem cenc _ _ rfl bi oi (k) 2 ?_ (G.gul) ?_ (fun _ => rfl) (e) ?_ Try.isAgg43 Try.sizeOf43 ?_; rfl; exact (hR.st S); exact HD.out; simp only [Act.put, List.setIfInBounds_toArray, List.set_cons_succ, List.set_cons_zero]; go_big_quiet_on)
        | (go_big_quiet_want; refine Q_loadN S _ _ rfl _ _ rfl 0 _ _ rfl (cenc d) Try.isAgg43 Try.sizeOf43 (fun jq uq hq => by rw [Nat.zero_add]; exact hq) ?_; simp only [Act.put, List.setIfInBounds_toArray, List.set_cons_succ, List.set_cons_zero]; go_big_quiet_on)
        | (go_big_quiet_want; refine Q_val (v := .bool (decide (e = d))) (fun w' _ => exec_eqC _ rfl _ _ _ rfl e d rfl rfl) ?_; simp only [Act.put, List.setIfInBounds_toArray, List.set_cons_succ, List.set_cons_zero]; go_big_quiet_on)
        | (go_big_quiet_want; go_big_quiet_op; go_big_quiet_on))
      refine wpQuiet_nil ?_
      intro _ hw'
      obtain ⟨⟨nq, osq⟩, rfl⟩ := hw'
      replace S := S.callB (mix_below _ nq osq)
      generalize grow (sd _ nq) osq = wq at S ⊢
      cases hde : decide (e = d) with
      | true =>
        go_wp2
        go_ret; exact ⟨ret_i (firstI_at HD.out hde HK.out).symm, S.below⟩
      | false =>
        go_wp2
        refine ⟨⟨k + 1, by omega, by go_num, upto_more HK.out HD.out hde, S⟩, ?_⟩
        simp [intOf]; omega
    · have hke : k = G.gul.length := by omega
      subst hke
      go_wp2_with (first
        | (refine W_load1C rfl _ _ rfl ⟨gb, 83, none⟩ rfl (.slice A G.gul.length c) Try.isAgg32 ?_ ?_; exact (hg.st S).at0 (gcs_gul hG.len _)))
      go_ret; exact ⟨ret_i (firstI_no HK.out).symm, S.below⟩

theorem gulI_range (G : Gnd) (c : Pt) : -1 ≤ gulI G c ∧ gulI G c < G.gul.length ∨ gulI G c = -1 := by
  rcases firstI_cases (fun g => decide (g = c)) G.gul with ⟨h, _⟩ | ⟨k, x, hx, _, h, _⟩
  · exact .inr h
  · left
    have hk : k < G.gul.length := by
      rcases Nat.lt_or_ge k G.gul.length with h' | h'
      · exact h'
      · rw [List.getElem?_eq_none h'] at hx; cases hx
    unfold gulI; rw [h]; omega
theorem gulI_pos {G : Gnd} {c : Pt} : 0 ≤ gulI G c ↔ c ∈ G.gul := by
  rcases firstI_cases (fun g => decide (g = c)) G.gul with ⟨h, ha⟩ | ⟨k, x, hx, hp, h, _⟩
  · unfold gulI; rw [h]
    constructor
    · intro h'; omega
    · intro hc; have := ha c hc; simp at this
  · unfold gulI; rw [h]
    have : x = c := by simpa using hp
    subst this
    exact ⟨fun _ => List.mem_of_getElem? hx, fun _ => by omega⟩

set_option maxRecDepth 100000 in
set_option maxHeartbeats 1000000 in
theorem l04Height_any (G : Gnd) (hG : G.Ok) (v : Value) (gb : Nat) (x y : Int) (h3 : 0 ≤ x ∧ x ≤ 8) (h4 : 0 ≤ y ∧ y ≤ 8) (w : World) (hg : Rd w (some ⟨gb, 0, none⟩) (gcs G v)) :
    Calls Try.prog 102 #[.pointer (some ⟨gb, 0, none⟩), cv (x, y)] w fun e w' => e = .returned (.int .i64 (G.at x y)) ∧ Below w.heap.size w w' := by
  have hr := hG.at x y
  have S := St.refl w
  go_enter Try.func102, Try.ntmps102
  go_wp2_with (first | (refine W_box S rfl _ _ rfl (.agg #[.int .i8 x, .int .i8 y]) rfl ?_; clear S; intro bc w' S; change St _ _ (EB _ _ ([.int .i8 x, .int .i8 y]) :: _) at S))
  have hgs := hg.st S
  refine wp_region_mix (by kernel_rfl) (by kernel_rfl) ?_
  repeat (first
    | go_big_quiet_skip | (go_big_quiet_want; refine Q_load1 S _ _ rfl _ _ rfl 0 _ _ rfl _ Try.isAgg22 rfl ?_; simp only [Act.put, List.setIfInBounds_toArray, List.set_cons_succ, List.set_cons_zero]; go_big_quiet_on) | (go_big_quiet_want; refine Q_ldR _ _ rfl gb _ rfl _ hgs (.int .i16 (G.at x y)) Try.isAgg23 (gcs_at hG.len v h3 h4) ?_; simp only [Act.put, List.setIfInBounds_toArray, List.set_cons_succ, List.set_cons_zero]; go_big_quiet_on) | (go_big_quiet_want; go_big_quiet_op; go_big_quiet_on))
  refine wpQuiet_nil ?_
  intro _ hw'
  obtain ⟨⟨nq, osq⟩, rfl⟩ := hw'
  replace S := S.callB (mix_below _ nq osq)
  generalize grow (sd _ nq) osq = wq at S ⊢
  go_wp2
  go_ret
  exact ⟨rfl, S.below⟩

set_option maxRecDepth 100000 in
set_option maxHeartbeats 1000000 in
theorem l04Beside_any (G : Gnd) (hG : G.Ok) (v : Value) (gb : Nat) (x y : Int) (h3 : 0 ≤ x ∧ x ≤ 100) (h4 : 0 ≤ y ∧ y ≤ 100) (w : World) (hg : Rd w (some ⟨gb, 0, none⟩) (gcs G v)) :
    Calls Try.prog 101 #[.pointer (some ⟨gb, 0, none⟩), cv (x, y)] w fun e w' => ∃ A c, e = .returned (.slice A (besideL G (x, y)).length c) ∧ St w w' [ER 43 2 (.slice A (besideL G (x, y)).length c) (besideL G (x, y)).length (ccs (besideL G (x, y)))] := by
  have S := St.refl w
  go_enter Try.func101, Try.ntmps101
  go_wp2_with (first
    | (refine W_box S rfl _ _ rfl (.agg #[.int .i8 x, .int .i8 y]) rfl ?_; clear S; intro bc w' S; change St _ _ (EB _ _ ([.int .i8 x, .int .i8 y]) :: _) at S)
    | (refine W_load1 S rfl _ _ rfl _ _ rfl 1 _ _ rfl _ Try.isAgg22 rfl ?_)
    | (refine W_bslice S rfl _ (4) _ rfl 43 (ccs (four x y)) ?_ ?_; exact (fun w => by simp [go_sem, Instr.buildSlice, Try.underlying32, Try.sizeOf43, Try.zeroValue43] <;> rfl); clear S; intro bl w' S)
    | (refine W_bslice S rfl _ (0) _ rfl 43 ([]) ?_ ?_; exact (fun w => by simp [go_sem, Instr.buildSlice, Try.underlying32, Try.sizeOf43, Try.zeroValue43] <;> rfl); clear S; intro bo w' S))
  replace S := S.own 1 bo _ _ rfl 2 0 0 [] rfl (Nat.le_refl _) (by decide) rfl rfl
  simp only [List.set_cons_zero, List.set_cons_succ] at S
  replace S := S.swap
  have h4l : (four x y).length = 4 := rfl
  go_loopw [5, 7] (fun u i wr => ∃ (k : Nat) (A : Option Addr) (c : Nat), i = .int .i64 k ∧ k ≤ 4 ∧ u = .slice A (kept (fun d => !isCellB G.wide G.high d) ((four x y).take k)).length c ∧ St w wr [ER 43 2 (.slice A (kept (fun d => !isCellB G.wide G.high d) ((four x y).take k)).length c) (kept (fun d => !isCellB G.wide G.high d) ((four x y).take k)).length (ccs (kept (fun d => !isCellB G.wide G.high d) ((four x y).take k))), EB bl 43 (ccs (four x y)), EB bc 43 [.int .i8 x, .int .i8 y]]) (fun _ i _ => 4 - (intOf i).toNat)
  case atStart => exact ⟨0, _, _, rfl, by omega, rfl, S⟩
  case round =>
    obtain ⟨k, A, c, rfl, hk, rfl, S⟩ := hrel
    by_cases hkl : k < 4
    · obtain ⟨d, hd⟩ : ∃ d, (four x y)[k]? = some d := ⟨_, List.getElem?_eq_getElem hkl⟩
      have hdr := four_range h3 h4 (List.mem_of_getElem? hd)
      have hst := kept_step (fun d => !isCellB G.wide G.high d) hd
      have hlen : (kept (fun d => !isCellB G.wide G.high d) ((four x y).take k)).length ≤ 4 := by
        refine Nat.le_trans (List.length_filter_le _ _) ?_
        rw [List.length_take]; omega
      have HL := Lib.hid hlen; clear hlen
      have HD := Lib.hid hd; clear hd
      have hi := l04Is_any G hG v gb d.1 d.2 hdr.1 hdr.2
      cases hc : isCellB G.wide G.high d with
      | true =>
        rw [if_neg (by rw [hc]; simp)] at hst
        have HS := Lib.hid hst; clear hst
        have hi' : ∀ w', Rd w' (some ⟨gb, 0, none⟩) (gcs G v) → Calls Try.prog 59 #[.pointer (some ⟨gb, 0, none⟩), cv (d.1, d.2)] w' fun e w'' => e = .returned (.bool true) ∧ Below w'.heap.size w' w'' := fun w' h => by have := hi w' h; rwa [show isCellB G.wide G.high (d.1, d.2) = true from hc] at this
        clear hi hc
        go_wp2_with (first
          | (refine W_loadN S rfl _ _ rfl _ (k * 2) ?_ 1 _ (ccs (four x y)) rfl (cenc (d)) Try.isAgg43 Try.sizeOf43 ?_ ?_; rfl; exact fun jq uq hq => cells_mid cenc 2 (fun _ => rfl) (four x y) (k) (d) (HD.out) jq uq hq)
          | (go_at_call 59; refine (hi' _ (hg.st S)).mono ?_; rintro e w1 ⟨rfl, hb⟩; replace S := S.callB hb; clear hb)
          | (refine W_bslice S rfl _ (1) _ rfl 43 (cenc d) ?_ ?_; exact (fun w => by simp [go_sem, Instr.buildSlice, Try.underlying32, Try.sizeOf43, Try.zeroValue43] <;> rfl); clear S; intro bn w' S)
          | (refine W_loadN S rfl _ _ rfl _ (k * 2) ?_ 2 _ (ccs (four x y)) rfl (cenc (d)) Try.isAgg43 Try.sizeOf43 ?_ ?_; rfl; exact fun jq uq hq => cells_mid cenc 2 (fun _ => rfl) (four x y) (k) (d) (HD.out) jq uq hq)
          | (refine W_append S rfl _ _ _ rfl 1 43 2 _ _ _ rfl rfl 0 _ _ _ rfl 1 1 rfl default _ 2 Try.underlying32 cellInfo rfl (by decide) rfl (one_cells rfl) ?_ ?_ ?_; (first | (have := HL.out; unfold maxLen; omega) | (have := HL.out; omega)); (first | (have := HL.out; unfold maxLen; omega) | (have := HL.out; omega)); clear S; intro A' c' w' S; simp only [List.set_cons_zero, List.set_cons_succ] at S; replace S := S.tail))
        refine ⟨⟨k + 1, A', c', by go_num, by omega, by rw [HS.out, List.length_append]; rfl, by rw [HS.out, ccs_app, List.length_append]; exact S⟩, ?_⟩
        simp [intOf]; omega
      | false =>
        rw [if_pos (by rw [hc]; rfl), List.append_nil] at hst
        have HS := Lib.hid hst; clear hst
        have hi' : ∀ w', Rd w' (some ⟨gb, 0, none⟩) (gcs G v) → Calls Try.prog 59 #[.pointer (some ⟨gb, 0, none⟩), cv (d.1, d.2)] w' fun e w'' => e = .returned (.bool false) ∧ Below w'.heap.size w' w'' := fun w' h => by have := hi w' h; rwa [show isCellB G.wide G.high (d.1, d.2) = false from hc] at this
        clear hi hc
        go_wp2_with (first
          | (refine W_loadN S rfl _ _ rfl _ (k * 2) ?_ 1 _ (ccs (four x y)) rfl (cenc (d)) Try.isAgg43 Try.sizeOf43 ?_ ?_; rfl; exact fun jq uq hq => cells_mid cenc 2 (fun _ => rfl) (four x y) (k) (d) (HD.out) jq uq hq)
          | (go_at_call 59; refine (hi' _ (hg.st S)).mono ?_; rintro e w1 ⟨rfl, hb⟩; replace S := S.callB hb; clear hb))
        refine ⟨⟨k + 1, A, c, by go_num, by omega, by rw [HS.out], by rw [HS.out]; exact S⟩, ?_⟩
        simp [intOf]; omega
    · have hke : k = 4 := by omega
      subst hke
      go_wp2
      go_ret
      exact ⟨A, c, rfl, S.only (k := 0) rfl⟩

set_option maxRecDepth 100000 in
set_option maxHeartbeats 1000000 in
theorem l04All_any (G : Gnd) (hG : G.Ok) (v : Value) (gb : Nat) (w : World) (hg : Rd w (some ⟨gb, 0, none⟩) (gcs G v)) :
    Calls Try.prog 66 #[.pointer (some ⟨gb, 0, none⟩)] w fun e w' => ∃ A c, e = .returned (.slice A (pts G).length c) ∧ St w w' [ER 43 2 (.slice A (pts G).length c) (pts G).length (ccs (pts G))] := by
  have S := St.refl w
  have h1 := hG.wide
  have h2 := hG.high
  have HP : Hid (pts G = pre (fun _ => true) G.wide.toNat G.high.toNat 0) := cellsL_eq _ _ _
  go_enter Try.func66, Try.ntmps66
  go_wp2_with (first
    | (refine W_bslice S rfl _ (0) _ rfl 43 ([]) ?_ ?_; exact (fun w => by simp [go_sem, Instr.buildSlice, Try.underlying32, Try.sizeOf43, Try.zeroValue43] <;> rfl); clear S; intro bl w' S))
  replace S := S.own 0 bl _ _ rfl 2 0 0 [] rfl (Nat.le_refl _) (by decide) rfl rfl
  simp only [List.set_cons_zero] at S
  go_loopw [3, 4] (fun u i wr => ∃ (y : Nat) (A : Option Addr) (c : Nat), i = .int .i8 y ∧ y ≤ G.high.toNat ∧ u = .slice A (pre (fun _ => true) G.wide.toNat y 0).length c ∧ St w wr [ER 43 2 (.slice A (pre (fun _ => true) G.wide.toNat y 0).length c) (pre (fun _ => true) G.wide.toNat y 0).length (ccs (pre (fun _ => true) G.wide.toNat y 0))]) (fun _ i _ => G.high.toNat - (intOf i).toNat)
  case atStart => exact ⟨0, _, _, rfl, by omega, rfl, S⟩
  case round =>
    obtain ⟨y, A, c, rfl, hy, rfl, S⟩ := hrel
    by_cases hyl : (y : Int) < G.high
    · go_wp2_with (first
        | (refine W_load1C rfl _ _ rfl ⟨gb, 1, none⟩ rfl (.int .i8 G.high) Try.isAgg22 ?_ ?_; exact (hg.st S).at0 (rfl)))
      go_loopw [3, 5] (fun u i wr => ∃ (x : Nat) (A : Option Addr) (c : Nat), i = .int .i8 x ∧ x ≤ G.wide.toNat ∧ u = .slice A (pre (fun _ => true) G.wide.toNat y x).length c ∧ St w wr [ER 43 2 (.slice A (pre (fun _ => true) G.wide.toNat y x).length c) (pre (fun _ => true) G.wide.toNat y x).length (ccs (pre (fun _ => true) G.wide.toNat y x))]) (fun _ i _ => G.wide.toNat - (intOf i).toNat)
      case atStart => exact ⟨0, A, c, rfl, by omega, rfl, S⟩
      case round =>
        obtain ⟨x, A, c, rfl, hx, rfl, S⟩ := hrel
        by_cases hxl : (x : Int) < G.wide
        · have hroom := Lib.hid (pre_room (p := fun _ => true) (wd := G.wide.toNat) (y := y) (x := x) (by omega) (by omega) (by omega))
          have hpx : (fun _ : Pt => true) ((x : Int), (y : Int)) = true := rfl
          go_wp2_with (first
            | (refine W_load1C rfl _ _ rfl ⟨gb, 0, none⟩ rfl (.int .i8 G.wide) Try.isAgg22 ?_ ?_; exact (hg.st S).at0 (rfl))
            | (refine W_bslice S rfl _ (1) _ rfl 43 ([.int .i8 x, .int .i8 y]) ?_ ?_; exact (fun w => by simp [go_sem, Instr.buildSlice, Try.underlying32, Try.sizeOf43, Try.zeroValue43] <;> rfl); clear S; intro bn w' S)
            | (refine W_append S rfl _ _ _ rfl 1 43 2 _ _ _ rfl rfl 0 _ _ _ rfl 1 1 rfl default _ 2 Try.underlying32 cellInfo rfl (by decide) rfl (one_cells rfl) ?_ ?_ ?_; (first | (have := hroom.out; unfold maxLen; omega) | (have := hroom.out; omega)); (first | (have := hroom.out; unfold maxLen; omega) | (have := hroom.out; omega)); clear S; intro A' c' w' S; simp only [List.set_cons_zero, List.set_cons_succ] at S; replace S := S.tail))
          refine ⟨⟨x + 1, A', c', by go_num, by omega, by rw [pre_yes hpx, List.length_append]; rfl, by rw [pre_yes hpx, ccs_app, List.length_append]; exact S⟩, ?_⟩
          simp [intOf]; omega
        · have hxe : x = G.wide.toNat := by omega
          subst hxe
          go_wp2_with (first
            | (refine W_load1C rfl _ _ rfl ⟨gb, 0, none⟩ rfl (.int .i8 G.wide) Try.isAgg22 ?_ ?_; exact (hg.st S).at0 (rfl)))
          refine ⟨⟨y + 1, A, c, by go_num, by omega, by rw [pre_row], by rw [← pre_row]; exact S⟩, ?_⟩
          simp [intOf]; omega
    · have hye : y = G.high.toNat := by omega
      subst hye
      go_wp2_with (first
        | (refine W_load1C rfl _ _ rfl ⟨gb, 1, none⟩ rfl (.int .i8 G.high) Try.isAgg22 ?_ ?_; exact (hg.st S).at0 (rfl)))
      go_ret
      rw [HP.out]
      exact ⟨A, c, rfl, S⟩
end Go.Proofs.Ytpfmmbdddecphaa
