/- Basins: drain, BasinOf of the program and of the reference. -/
import Derived.Test.YtpfmmbdddecphaaFallS
namespace Go.Proofs.Ytpfmmbdddecphaa
open Go.RowKit Go.Sort
set_option linter.unusedVariables false
set_option linter.unusedSimpArgs false

def lastD (l : List Pt) : Pt := l.getLastD (0, 0)
theorem lastD_at {l : List Pt} {m : Nat} (h : l.length = m + 1) : l[m]? = some (lastD l) := by
  have hne : l ≠ [] := by intro e; subst e; simp at h
  unfold lastD
  rw [List.getLastD_eq_getLast?, List.getLast?_eq_getElem?, h]
  simp only [Nat.add_sub_cancel]
  rw [List.getElem?_eq_getElem (by omega)]; rfl
/-- The index of the gully in which water goes away, -1 if it stands. -/
def drainI (G : Gnd) (d : Pt) : Int := gulI G (lastD (runG G d))
theorem runG_succ {G : Gnd} {d : Pt} : ∃ m, (runG G d).length = m + 1 := by
  have : (runG G d).length ≠ 0 := by
    intro h
    exact runG_ne (List.length_eq_zero_iff.1 h)
  exact ⟨(runG G d).length - 1, by omega⟩
theorem gulI_le (G : Gnd) (d : Pt) : -1 ≤ gulI G d ∧ gulI G d ≤ G.gul.length := by
  rcases gulI_range G d with h | h <;> omega

set_option maxRecDepth 100000 in
set_option maxHeartbeats 1000000 in
theorem drain_any (G : Gnd) (hG : G.Ok) (V : ValidG G) (A0 : Option Addr) (c0 : Nat) (d : Pt) (hd : isCellB G.wide G.high d = true) (w : World) (hR : Rd w A0 (ccs G.gul)) :
    Calls Try.prog 72 #[gv G (.slice A0 G.gul.length c0), cv d] w fun e w' => e = .returned (.int .i64 (drainI G d)) ∧ Below w.heap.size w w' := by
  have S := St.refl w
  have hm8 := V.many
  have hl201 := runG_length V hd
  obtain ⟨m, hm⟩ := runG_succ (G := G) (d := d)
  have hrun := fun w' h => run_any G hG V A0 c0 d hd w' h
  have HL := Lib.hid (lastD_at hm)
  have HDr : Hid (drainI G d = firstI (fun g => decide (g = lastD (runG G d))) G.gul) := rfl
  generalize runG G d = l at hrun hm HL HDr hl201
  have hm2 : m ≤ 200 := by omega
  have HM := Lib.hid hm
  rw [hm] at hrun
  clear hm hl201
  go_enter Try.func72, Try.ntmps72
  go_wp2_with (first
    | ((with_reducible refine at_box_ 34 rfl rfl ?_); (refine W_box S rfl _ _ rfl (gv G (.slice A0 G.gul.length c0)) rfl ?_; clear S; intro bg w' S; change St _ _ (EB _ _ (gcs G (.slice A0 G.gul.length c0)) :: _) at S))
    | ((with_reducible refine at_box_ 43 rfl rfl ?_); ((fail_if_success have hq := bc); refine W_box S rfl _ _ rfl (cv (d)) rfl ?_; clear S; intro bc w' S; change St _ _ (EB _ _ (cenc (d)) :: _) at S))
    | ((with_reducible refine at_load_ 34 rfl rfl ?_); (first | (refine W_loadN S rfl _ _ rfl bg 0 rfl 0 _ _ rfl (gcs G (.slice A0 G.gul.length c0)) Try.isAgg34 (by rw [gcs_length hG]; exact Try.sizeOf34) (fun jq uq hq => by rw [Nat.zero_add]; exact hq) ?_) | (refine W_loadN S rfl _ _ rfl bg 0 rfl 1 _ _ rfl (gcs G (.slice A0 G.gul.length c0)) Try.isAgg34 (by rw [gcs_length hG]; exact Try.sizeOf34) (fun jq uq hq => by rw [Nat.zero_add]; exact hq) ?_) | (refine W_loadN S rfl _ _ rfl bg 0 rfl 2 _ _ rfl (gcs G (.slice A0 G.gul.length c0)) Try.isAgg34 (by rw [gcs_length hG]; exact Try.sizeOf34) (fun jq uq hq => by rw [Nat.zero_add]; exact hq) ?_) | (refine W_loadN S rfl _ _ rfl bg 0 rfl 3 _ _ rfl (gcs G (.slice A0 G.gul.length c0)) Try.isAgg34 (by rw [gcs_length hG]; exact Try.sizeOf34) (fun jq uq hq => by rw [Nat.zero_add]; exact hq) ?_) | (refine W_loadN S rfl _ _ rfl bg 0 rfl 4 _ _ rfl (gcs G (.slice A0 G.gul.length c0)) Try.isAgg34 (by rw [gcs_length hG]; exact Try.sizeOf34) (fun jq uq hq => by rw [Nat.zero_add]; exact hq) ?_) | (refine W_loadN S rfl _ _ rfl bg 0 rfl 5 _ _ rfl (gcs G (.slice A0 G.gul.length c0)) Try.isAgg34 (by rw [gcs_length hG]; exact Try.sizeOf34) (fun jq uq hq => by rw [Nat.zero_add]; exact hq) ?_) | (refine W_loadN S rfl _ _ rfl bg 0 rfl 6 _ _ rfl (gcs G (.slice A0 G.gul.length c0)) Try.isAgg34 (by rw [gcs_length hG]; exact Try.sizeOf34) (fun jq uq hq => by rw [Nat.zero_add]; exact hq) ?_) | (refine W_loadN S rfl _ _ rfl bg 0 rfl 7 _ _ rfl (gcs G (.slice A0 G.gul.length c0)) Try.isAgg34 (by rw [gcs_length hG]; exact Try.sizeOf34) (fun jq uq hq => by rw [Nat.zero_add]; exact hq) ?_) | (refine W_loadN S rfl _ _ rfl bg 0 rfl 8 _ _ rfl (gcs G (.slice A0 G.gul.length c0)) Try.isAgg34 (by rw [gcs_length hG]; exact Try.sizeOf34) (fun jq uq hq => by rw [Nat.zero_add]; exact hq) ?_) | (refine W_loadN S rfl _ _ rfl bg 0 rfl 9 _ _ rfl (gcs G (.slice A0 G.gul.length c0)) Try.isAgg34 (by rw [gcs_length hG]; exact Try.sizeOf34) (fun jq uq hq => by rw [Nat.zero_add]; exact hq) ?_)))
    | ((with_reducible refine at_load_ 43 rfl rfl ?_); (first | (refine W_loadN S rfl _ _ rfl bc 0 rfl 0 _ _ rfl (cenc (d)) Try.isAgg43 (by exact Try.sizeOf43) (fun jq uq hq => by rw [Nat.zero_add]; exact hq) ?_) | (refine W_loadN S rfl _ _ rfl bc 0 rfl 1 _ _ rfl (cenc (d)) Try.isAgg43 (by exact Try.sizeOf43) (fun jq uq hq => by rw [Nat.zero_add]; exact hq) ?_) | (refine W_loadN S rfl _ _ rfl bc 0 rfl 2 _ _ rfl (cenc (d)) Try.isAgg43 (by exact Try.sizeOf43) (fun jq uq hq => by rw [Nat.zero_add]; exact hq) ?_) | (refine W_loadN S rfl _ _ rfl bc 0 rfl 3 _ _ rfl (cenc (d)) Try.isAgg43 (by exact Try.sizeOf43) (fun jq uq hq => by rw [Nat.zero_add]; exact hq) ?_) | (refine W_loadN S rfl _ _ rfl bc 0 rfl 4 _ _ rfl (cenc (d)) Try.isAgg43 (by exact Try.sizeOf43) (fun jq uq hq => by rw [Nat.zero_add]; exact hq) ?_) | (refine W_loadN S rfl _ _ rfl bc 0 rfl 5 _ _ rfl (cenc (d)) Try.isAgg43 (by exact Try.sizeOf43) (fun jq uq hq => by rw [Nat.zero_add]; exact hq) ?_) | (refine W_loadN S rfl _ _ rfl bc 0 rfl 6 _ _ rfl (cenc (d)) Try.isAgg43 (by exact Try.sizeOf43) (fun jq uq hq => by rw [Nat.zero_add]; exact hq) ?_) | (refine W_loadN S rfl _ _ rfl bc 0 rfl 7 _ _ rfl (cenc (d)) Try.isAgg43 (by exact Try.sizeOf43) (fun jq uq hq => by rw [Nat.zero_add]; exact hq) ?_) | (refine W_loadN S rfl _ _ rfl bc 0 rfl 8 _ _ rfl (cenc (d)) Try.isAgg43 (by exact Try.sizeOf43) (fun jq uq hq => by rw [Nat.zero_add]; exact hq) ?_) | (refine W_loadN S rfl _ _ rfl bc 0 rfl 9 _ _ rfl (cenc (d)) Try.isAgg43 (by exact Try.sizeOf43) (fun jq uq hq => by rw [Nat.zero_add]; exact hq) ?_)))
    | (go_at_call 62; refine Calls.mono (hrun _ (hR.st S)) ?_; rintro e w1 ⟨A, c, rfl, S2⟩; replace S := S.call S2; clear S2; simp only [List.cons_append, List.nil_append] at S))
  have hP : Rd w1 A (ccs l) := S.rd (k := 0) rfl
  obtain ⟨bi, oi, hA⟩ := hP.1 (ccs_ne HL.out)
  subst hA
  have hi := fun w' h => index_any A0 c0 G.gul (lastD l) w' h (by unfold maxLen; omega)
  have hRs := hR.st S
  try (simp only [Act.put, List.setIfInBounds_toArray, List.set_cons_succ, List.set_cons_zero])
  refine wp_region_mix (by kernel_rfl) (by kernel_rfl) ?_
  repeat (first
    | go_big_quiet_skip
    | (go_big_quiet_want; refine Q_load1 S _ _ rfl _ _ rfl 2 _ _ rfl (.slice A0 G.gul.length c0) Try.isAgg32 (gcs_gul hG.len _) ?_; simp only [Act.put, List.setIfInBounds_toArray, List.set_cons_succ, List.set_cons_zero]; go_big_quiet_on)
    | (go_big_quiet_want; refine Q_index _ _ _ rfl bi oi _ _ rfl (m) ?_ _ Try.underlying32 _ Try.sizeOf43 ?_ ?_ ?_; rfl; omega; omega; simp only [Act.put, List.setIfInBounds_toArray, List.set_cons_succ, List.set_cons_zero]; go_big_quiet_on)
    | (go_big_quiet_want; refine Q_elem cenc _ _ rfl bi oi (m) 2 ?_ (l) ?_ (fun _ => rfl) (lastD l) ?_ Try.isAgg43 Try.sizeOf43 ?_; rfl; exact hP; exact HL.out; simp only [Act.put, List.setIfInBounds_toArray, List.set_cons_succ, List.set_cons_zero]; go_big_quiet_on)
    | (go_big_quiet_want; go_big_quiet_op; go_big_quiet_on)
    | (go_big_quiet_want; go_big_quiet_op; go_big_quiet_call (exact calls_mix (hi _ (hRs.below (mix_below _ _ _))))))
  refine wpQuiet_nil ?_
  intro _ hw'
  obtain ⟨⟨nq, osq⟩, rfl⟩ := hw'
  replace S := S.callB (mix_below _ nq osq)
  generalize grow (sd _ nq) osq = wq at S ⊢
  go_wp2
  go_ret
  exact ⟨ret_i (by rw [HDr.out]), S.below⟩

set_option maxHeartbeats 400000 in
theorem size_any (A : Option Addr) (n c : Nat) (hn : n ≤ maxLen) (w : World) :
    Calls Try.prog 69 #[.slice A n c] w fun e w' => e = .returned (.int .i64 n) ∧ w = w' := by
  unfold maxLen at hn
  go_enter Try.func69, Try.ntmps69
  go_wp2
  go_ret
  exact ⟨rfl, rfl⟩

def basP (G : Gnd) (n : Int) (d : Pt) : Bool := decide (drainI G d = n)
noncomputable def basCode (G : Gnd) (n : Int) : Int := askCode (validB G) (within n 0 ((G.gul.length : Int) - 1))
theorem basCode_0 {G : Gnd} {n : Int} : basCode G n = 0 ↔ ValidG G ∧ within n 0 ((G.gul.length : Int) - 1) = true := by
  unfold basCode askCode
  by_cases h : validB G = true
  · rw [if_pos h]
    by_cases h2 : within n 0 ((G.gul.length : Int) - 1) = true <;> simp [h2, validB_t.1 h]
  · rw [if_neg h]
    simp only [Int.reduceEq, false_iff, not_and]
    intro hv; exact absurd (validB_t.2 hv) h
noncomputable def basR (G : Gnd) (n : Int) : List Pt := if basCode G n = 0 then cellsL (basP G n) G.wide G.high else []
theorem basR_0 {G : Gnd} {n : Int} (h : basCode G n = 0) : basR G n = cellsL (basP G n) G.wide G.high := if_pos h
theorem basR_no {G : Gnd} {n : Int} (h : ¬ basCode G n = 0) : basR G n = [] := if_neg h
theorem pts_81 {G : Gnd} (V : ValidG G) : (pts G).length ≤ 81 := by
  rw [pts_length]
  have h1 : G.high.toNat * G.wide.toNat ≤ 9 * 9 := Nat.mul_le_mul (by have := V.high; omega) (by have := V.wide; omega)
  omega
theorem pts_filter (G : Gnd) (p : Pt → Bool) : (pts G).filter p = cellsL p G.wide G.high := by
  unfold pts cellsL
  rw [List.filter_filter]
  simp
theorem cellsL_81 {G : Gnd} (V : ValidG G) (p : Pt → Bool) : (cellsL p G.wide G.high).length ≤ 81 := by
  rw [← pts_filter]
  exact Nat.le_trans (List.length_filter_le _ _) (pts_81 V)
theorem basR_length {G : Gnd} {n : Int} : (basR G n).length ≤ 81 := by
  by_cases h : basCode G n = 0
  · rw [basR_0 h]; exact cellsL_81 (basCode_0.1 h).1 _
  · rw [basR_no h]; simp

set_option maxRecDepth 100000 in
set_option maxHeartbeats 1000000 in
theorem basin1_any (G : Gnd) (hG : G.Ok) (V : ValidG G) (A0 : Option Addr) (c0 : Nat) (n : Int) (d : Pt) (hd : isCellB G.wide G.high d = true) (bg bn : Nat) (t : TypeId) (w0 w : World) (L : List Ent) (S0 : St w0 w L) (k : Nat) (hk : L[k]? = some (EB bg t (gcs G (.slice A0 G.gul.length c0)))) (j : Nat) (t' : TypeId) (hj : L[j]? = some (EB bn t' [.int .i64 n])) (hR : Rd w A0 (ccs G.gul)) :
    Calls Try.prog 71 #[cv d, .pointer (some ⟨bg, 0, none⟩), .pointer (some ⟨bn, 0, none⟩)] w fun e w' => e = .returned (.bool (basP G n d)) ∧ Below w.heap.size w w' := by
  have R := St.refl w
  have hg : Rd w (some ⟨bg, 0, none⟩) (gcs G (.slice A0 G.gul.length c0)) := Rd.EB S0 hk 0 (fun j u hu => by rw [Nat.zero_add]; exact hu)
  have hn : Rd w (some ⟨bn, 0, none⟩) [.int .i64 n] := Rd.EB S0 hj 0 (fun j u hu => by rw [Nat.zero_add]; exact hu)
  have hdr := fun w' h => drain_any G hG V A0 c0 d hd w' h
  clear S0 hk hj
  go_enter Try.func71, Try.ntmps71
  have S := R
  clear R
  go_wp2_with (first
    | ((with_reducible refine at_box_ 43 rfl rfl ?_); ((fail_if_success have hq := bc); refine W_box S rfl _ _ rfl (cv (d)) rfl ?_; clear S; intro bc w' S; change St _ _ (EB _ _ (cenc (d)) :: _) at S)))
  have hgs := hg.st S
  have hns := hn.st S
  have hRs := hR.st S
  try (simp only [Act.put, List.setIfInBounds_toArray, List.set_cons_succ, List.set_cons_zero])
  refine wp_region_mix (by kernel_rfl) (by kernel_rfl) ?_
  repeat (first
    | go_big_quiet_skip
    | (go_big_quiet_want; refine Q_loadC _ _ rfl bg 0 rfl (gcs G (.slice A0 G.gul.length c0)) Try.isAgg34 (by rw [gcs_length hG]; exact Try.sizeOf34) (fun jq uq hq => hgs.2 bg 0 rfl jq uq hq) ?_; simp only [Act.put, List.setIfInBounds_toArray, List.set_cons_succ, List.set_cons_zero]; go_big_quiet_on)
    | (go_big_quiet_want; refine Q_loadN S _ _ rfl bc 0 rfl 0 _ _ rfl (cenc (d)) Try.isAgg43 Try.sizeOf43 (fun jq uq hq => by rw [Nat.zero_add]; exact hq) ?_; simp only [Act.put, List.setIfInBounds_toArray, List.set_cons_succ, List.set_cons_zero]; go_big_quiet_on)
    | (go_big_quiet_want; refine Q_ldA _ _ rfl bn 0 rfl (.int .i64 n) Try.isAgg2 (hns.at0 rfl) ?_; simp only [Act.put, List.setIfInBounds_toArray, List.set_cons_succ, List.set_cons_zero]; go_big_quiet_on)
    | (go_big_quiet_want; go_big_quiet_op; go_big_quiet_on)
    | (go_big_quiet_want; go_big_quiet_op; go_big_quiet_call (exact calls_mix (hdr _ (hRs.below (mix_below _ _ _))))))
  refine wpQuiet_nil ?_
  intro _ hw'
  obtain ⟨⟨nq, osq⟩, rfl⟩ := hw'
  replace S := S.callB (mix_below _ nq osq)
  generalize grow (sd _ nq) osq = wq at S ⊢
  go_wp2
  go_ret
  exact ⟨ret_b (by unfold basP; rfl), S.below⟩
theorem basin1_eg : ∀ args w, (callFunc 71 args).run Try.prog w = .ok (.enter 71 args) w := enters_of Try.func71 (by kernel_rfl) rfl

theorem cell_of_nat {G : Gnd} {x y : Nat} (hx : x < G.wide.toNat) (hy : y < G.high.toNat) : isCellB G.wide G.high ((x : Int), (y : Int)) = true := cellXY.2 (by omega)

set_option maxRecDepth 100000 in
set_option maxHeartbeats 1000000 in
theorem basinOf_any (G : Gnd) (hG : G.Ok) (n : Int) (hn : -9223372036854775808 ≤ n ∧ n ≤ 9223372036854775807) (A0 : Option Addr) (c0 : Nat) (hl : G.gul.length ≤ maxLen) (w : World) (hR : Rd w A0 (ccs G.gul)) :
    Calls Try.prog 26 #[gv G (.slice A0 G.gul.length c0), .int .i64 n] w fun e w' => ∃ A c, e = .returned (.tuple #[.slice A (basR G n).length c, .int .i64 (basCode G n)]) ∧ St w w' [ER 43 2 (.slice A (basR G n).length c) (basR G n).length (ccs (basR G n))] := by
  have S := St.refl w
  have hvg := fun w' (hb : Below w.heap.size w w') => validGround_any G hG A0 c0 w' (hR.below hb)
  cases hv : validB G with
  | true =>
    rw [hv] at hvg
    have V := validB_t.1 hv
    have hm8 := V.many
    have hwi := fun w' => within_any n 0 ((G.gul.length : Int) - 1) w'
    have hsz := fun w' => size_any A0 G.gul.length c0 hl w'
    cases hwt : within n 0 ((G.gul.length : Int) - 1) with
    | true =>
      have h0 : basCode G n = 0 := by unfold basCode askCode; rw [hv, hwt]; rfl
      rw [basR_0 h0, h0]
      rw [hwt] at hwi
      clear hv hwt h0
      go_enter Try.func26, Try.ntmps26
      go_wp2_with (first
        | ((with_reducible refine at_box_ 34 rfl rfl ?_); (refine W_box S rfl _ _ rfl (gv G (.slice A0 G.gul.length c0)) rfl ?_; clear S; intro bg w' S; change St _ _ (EB _ _ (gcs G (.slice A0 G.gul.length c0)) :: _) at S))
        | ((with_reducible refine at_box_ 2 rfl rfl ?_); (refine W_box S rfl _ _ rfl (.int .i64 n) rfl ?_; clear S; intro bn w' S; change St _ _ (EB _ _ ([.int .i64 n]) :: _) at S))
        | ((with_reducible refine at_load_ 34 rfl rfl ?_); (first | (refine W_loadN S rfl _ _ rfl bg 0 rfl 0 _ _ rfl (gcs G (.slice A0 G.gul.length c0)) Try.isAgg34 (by rw [gcs_length hG]; exact Try.sizeOf34) (fun jq uq hq => by rw [Nat.zero_add]; exact hq) ?_) | (refine W_loadN S rfl _ _ rfl bg 0 rfl 1 _ _ rfl (gcs G (.slice A0 G.gul.length c0)) Try.isAgg34 (by rw [gcs_length hG]; exact Try.sizeOf34) (fun jq uq hq => by rw [Nat.zero_add]; exact hq) ?_) | (refine W_loadN S rfl _ _ rfl bg 0 rfl 2 _ _ rfl (gcs G (.slice A0 G.gul.length c0)) Try.isAgg34 (by rw [gcs_length hG]; exact Try.sizeOf34) (fun jq uq hq => by rw [Nat.zero_add]; exact hq) ?_) | (refine W_loadN S rfl _ _ rfl bg 0 rfl 3 _ _ rfl (gcs G (.slice A0 G.gul.length c0)) Try.isAgg34 (by rw [gcs_length hG]; exact Try.sizeOf34) (fun jq uq hq => by rw [Nat.zero_add]; exact hq) ?_) | (refine W_loadN S rfl _ _ rfl bg 0 rfl 4 _ _ rfl (gcs G (.slice A0 G.gul.length c0)) Try.isAgg34 (by rw [gcs_length hG]; exact Try.sizeOf34) (fun jq uq hq => by rw [Nat.zero_add]; exact hq) ?_) | (refine W_loadN S rfl _ _ rfl bg 0 rfl 5 _ _ rfl (gcs G (.slice A0 G.gul.length c0)) Try.isAgg34 (by rw [gcs_length hG]; exact Try.sizeOf34) (fun jq uq hq => by rw [Nat.zero_add]; exact hq) ?_) | (refine W_loadN S rfl _ _ rfl bg 0 rfl 6 _ _ rfl (gcs G (.slice A0 G.gul.length c0)) Try.isAgg34 (by rw [gcs_length hG]; exact Try.sizeOf34) (fun jq uq hq => by rw [Nat.zero_add]; exact hq) ?_) | (refine W_loadN S rfl _ _ rfl bg 0 rfl 7 _ _ rfl (gcs G (.slice A0 G.gul.length c0)) Try.isAgg34 (by rw [gcs_length hG]; exact Try.sizeOf34) (fun jq uq hq => by rw [Nat.zero_add]; exact hq) ?_) | (refine W_loadN S rfl _ _ rfl bg 0 rfl 8 _ _ rfl (gcs G (.slice A0 G.gul.length c0)) Try.isAgg34 (by rw [gcs_length hG]; exact Try.sizeOf34) (fun jq uq hq => by rw [Nat.zero_add]; exact hq) ?_) | (refine W_loadN S rfl _ _ rfl bg 0 rfl 9 _ _ rfl (gcs G (.slice A0 G.gul.length c0)) Try.isAgg34 (by rw [gcs_length hG]; exact Try.sizeOf34) (fun jq uq hq => by rw [Nat.zero_add]; exact hq) ?_)))
        | (go_at_call 44; refine (hvg _ S.below).mono ?_; rintro e w1 ⟨rfl, hb⟩; replace S := S.callB hb; clear hb))
      try (simp only [Act.put, List.setIfInBounds_toArray, List.set_cons_succ, List.set_cons_zero])
      refine wp_region_mix (by kernel_rfl) (by kernel_rfl) ?_
      repeat (first
        | go_big_quiet_skip
        | (go_big_quiet_want; refine Q_load1 S _ _ rfl bn 0 rfl 0 _ _ rfl (.int .i64 n) Try.isAgg2 rfl ?_; simp only [Act.put, List.setIfInBounds_toArray, List.set_cons_succ, List.set_cons_zero]; go_big_quiet_on)
        | (go_big_quiet_want; refine Q_load1 S _ _ rfl bg 83 rfl 1 _ _ rfl (.slice A0 G.gul.length c0) Try.isAgg32 (gcs_gul hG.len _) ?_; simp only [Act.put, List.setIfInBounds_toArray, List.set_cons_succ, List.set_cons_zero]; go_big_quiet_on)
        | (go_big_quiet_want; go_big_quiet_op; go_big_quiet_on)
        | (go_big_quiet_want; go_big_quiet_op; go_big_quiet_call (first | with_reducible exact calls_mix_same (hsz _) | with_reducible exact calls_mix_same (hwi _))))
      refine wpQuiet_nil ?_
      intro _ hw'
      obtain ⟨⟨nq, osq⟩, rfl⟩ := hw'
      replace S := S.callB (mix_below _ nq osq)
      generalize grow (sd _ nq) osq = wq at S ⊢
      go_wp2_with (first
        | ((with_reducible refine at_load_ 34 rfl rfl ?_); (first | (refine W_loadN S rfl _ _ rfl bg 0 rfl 0 _ _ rfl (gcs G (.slice A0 G.gul.length c0)) Try.isAgg34 (by rw [gcs_length hG]; exact Try.sizeOf34) (fun jq uq hq => by rw [Nat.zero_add]; exact hq) ?_) | (refine W_loadN S rfl _ _ rfl bg 0 rfl 1 _ _ rfl (gcs G (.slice A0 G.gul.length c0)) Try.isAgg34 (by rw [gcs_length hG]; exact Try.sizeOf34) (fun jq uq hq => by rw [Nat.zero_add]; exact hq) ?_) | (refine W_loadN S rfl _ _ rfl bg 0 rfl 2 _ _ rfl (gcs G (.slice A0 G.gul.length c0)) Try.isAgg34 (by rw [gcs_length hG]; exact Try.sizeOf34) (fun jq uq hq => by rw [Nat.zero_add]; exact hq) ?_) | (refine W_loadN S rfl _ _ rfl bg 0 rfl 3 _ _ rfl (gcs G (.slice A0 G.gul.length c0)) Try.isAgg34 (by rw [gcs_length hG]; exact Try.sizeOf34) (fun jq uq hq => by rw [Nat.zero_add]; exact hq) ?_) | (refine W_loadN S rfl _ _ rfl bg 0 rfl 4 _ _ rfl (gcs G (.slice A0 G.gul.length c0)) Try.isAgg34 (by rw [gcs_length hG]; exact Try.sizeOf34) (fun jq uq hq => by rw [Nat.zero_add]; exact hq) ?_) | (refine W_loadN S rfl _ _ rfl bg 0 rfl 5 _ _ rfl (gcs G (.slice A0 G.gul.length c0)) Try.isAgg34 (by rw [gcs_length hG]; exact Try.sizeOf34) (fun jq uq hq => by rw [Nat.zero_add]; exact hq) ?_) | (refine W_loadN S rfl _ _ rfl bg 0 rfl 6 _ _ rfl (gcs G (.slice A0 G.gul.length c0)) Try.isAgg34 (by rw [gcs_length hG]; exact Try.sizeOf34) (fun jq uq hq => by rw [Nat.zero_add]; exact hq) ?_) | (refine W_loadN S rfl _ _ rfl bg 0 rfl 7 _ _ rfl (gcs G (.slice A0 G.gul.length c0)) Try.isAgg34 (by rw [gcs_length hG]; exact Try.sizeOf34) (fun jq uq hq => by rw [Nat.zero_add]; exact hq) ?_) | (refine W_loadN S rfl _ _ rfl bg 0 rfl 8 _ _ rfl (gcs G (.slice A0 G.gul.length c0)) Try.isAgg34 (by rw [gcs_length hG]; exact Try.sizeOf34) (fun jq uq hq => by rw [Nat.zero_add]; exact hq) ?_) | (refine W_loadN S rfl _ _ rfl bg 0 rfl 9 _ _ rfl (gcs G (.slice A0 G.gul.length c0)) Try.isAgg34 (by rw [gcs_length hG]; exact Try.sizeOf34) (fun jq uq hq => by rw [Nat.zero_add]; exact hq) ?_)))
        | (go_at_call 70; refine Calls.mono (points_any G hG (.slice A0 G.gul.length c0) (basP G n) 71 #[.pointer (some ⟨bg, 0, none⟩), .pointer (some ⟨bn, 0, none⟩)] _ basin1_eg ?_) ?_; intro x y hx hy w2 hb; exact basin1_any G hG V A0 c0 n ((x : Int), (y : Int)) (cell_of_nat hx hy) bg bn _ w w2 _ (S.callB hb) 1 rfl 0 _ rfl ((hR.st S).below hb); rintro e w2 ⟨A, c, rfl, S2⟩; replace S := S.call S2; clear S2; simp only [List.cons_append, List.nil_append] at S))
      go_ret2
      exact ⟨A, c, rfl, S.only (k := 0) rfl⟩
    | false =>
      have h0 : basCode G n = 2 := by unfold basCode askCode; rw [hv, hwt]; rfl
      rw [basR_no (by rw [h0]; decide), h0]
      rw [hwt] at hwi
      clear hv hwt h0
      go_enter Try.func26, Try.ntmps26
      go_wp2_with (first
        | ((with_reducible refine at_box_ 34 rfl rfl ?_); (refine W_box S rfl _ _ rfl (gv G (.slice A0 G.gul.length c0)) rfl ?_; clear S; intro bg w' S; change St _ _ (EB _ _ (gcs G (.slice A0 G.gul.length c0)) :: _) at S))
        | ((with_reducible refine at_box_ 2 rfl rfl ?_); (refine W_box S rfl _ _ rfl (.int .i64 n) rfl ?_; clear S; intro bn w' S; change St _ _ (EB _ _ ([.int .i64 n]) :: _) at S))
        | ((with_reducible refine at_load_ 34 rfl rfl ?_); (first | (refine W_loadN S rfl _ _ rfl bg 0 rfl 0 _ _ rfl (gcs G (.slice A0 G.gul.length c0)) Try.isAgg34 (by rw [gcs_length hG]; exact Try.sizeOf34) (fun jq uq hq => by rw [Nat.zero_add]; exact hq) ?_) | (refine W_loadN S rfl _ _ rfl bg 0 rfl 1 _ _ rfl (gcs G (.slice A0 G.gul.length c0)) Try.isAgg34 (by rw [gcs_length hG]; exact Try.sizeOf34) (fun jq uq hq => by rw [Nat.zero_add]; exact hq) ?_) | (refine W_loadN S rfl _ _ rfl bg 0 rfl 2 _ _ rfl (gcs G (.slice A0 G.gul.length c0)) Try.isAgg34 (by rw [gcs_length hG]; exact Try.sizeOf34) (fun jq uq hq => by rw [Nat.zero_add]; exact hq) ?_) | (refine W_loadN S rfl _ _ rfl bg 0 rfl 3 _ _ rfl (gcs G (.slice A0 G.gul.length c0)) Try.isAgg34 (by rw [gcs_length hG]; exact Try.sizeOf34) (fun jq uq hq => by rw [Nat.zero_add]; exact hq) ?_) | (refine W_loadN S rfl _ _ rfl bg 0 rfl 4 _ _ rfl (gcs G (.slice A0 G.gul.length c0)) Try.isAgg34 (by rw [gcs_length hG]; exact Try.sizeOf34) (fun jq uq hq => by rw [Nat.zero_add]; exact hq) ?_) | (refine W_loadN S rfl _ _ rfl bg 0 rfl 5 _ _ rfl (gcs G (.slice A0 G.gul.length c0)) Try.isAgg34 (by rw [gcs_length hG]; exact Try.sizeOf34) (fun jq uq hq => by rw [Nat.zero_add]; exact hq) ?_) | (refine W_loadN S rfl _ _ rfl bg 0 rfl 6 _ _ rfl (gcs G (.slice A0 G.gul.length c0)) Try.isAgg34 (by rw [gcs_length hG]; exact Try.sizeOf34) (fun jq uq hq => by rw [Nat.zero_add]; exact hq) ?_) | (refine W_loadN S rfl _ _ rfl bg 0 rfl 7 _ _ rfl (gcs G (.slice A0 G.gul.length c0)) Try.isAgg34 (by rw [gcs_length hG]; exact Try.sizeOf34) (fun jq uq hq => by rw [Nat.zero_add]; exact hq) ?_) | (refine W_loadN S rfl _ _ rfl bg 0 rfl 8 _ _ rfl (gcs G (.slice A0 G.gul.length c0)) Try.isAgg34 (by rw [gcs_length hG]; exact Try.sizeOf34) (fun jq uq hq => by rw [Nat.zero_add]; exact hq) ?_) | (refine W_loadN S rfl _ _ rfl bg 0 rfl 9 _ _ rfl (gcs G (.slice A0 G.gul.length c0)) Try.isAgg34 (by rw [gcs_length hG]; exact Try.sizeOf34) (fun jq uq hq => by rw [Nat.zero_add]; exact hq) ?_)))
        | (go_at_call 44; refine (hvg _ S.below).mono ?_; rintro e w1 ⟨rfl, hb⟩; replace S := S.callB hb; clear hb))
      try (simp only [Act.put, List.setIfInBounds_toArray, List.set_cons_succ, List.set_cons_zero])
      refine wp_region_mix (by kernel_rfl) (by kernel_rfl) ?_
      repeat (first
        | go_big_quiet_skip
        | (go_big_quiet_want; refine Q_load1 S _ _ rfl bn 0 rfl 0 _ _ rfl (.int .i64 n) Try.isAgg2 rfl ?_; simp only [Act.put, List.setIfInBounds_toArray, List.set_cons_succ, List.set_cons_zero]; go_big_quiet_on)
        | (go_big_quiet_want; refine Q_load1 S _ _ rfl bg 83 rfl 1 _ _ rfl (.slice A0 G.gul.length c0) Try.isAgg32 (gcs_gul hG.len _) ?_; simp only [Act.put, List.setIfInBounds_toArray, List.set_cons_succ, List.set_cons_zero]; go_big_quiet_on)
        | (go_big_quiet_want; go_big_quiet_op; go_big_quiet_on)
        | (go_big_quiet_want; go_big_quiet_op; go_big_quiet_call (first | with_reducible exact calls_mix_same (hsz _) | with_reducible exact calls_mix_same (hwi _))))
      refine wpQuiet_nil ?_
      intro _ hw'
      obtain ⟨⟨nq, osq⟩, rfl⟩ := hw'
      replace S := S.callB (mix_below _ nq osq)
      generalize grow (sd _ nq) osq = wq at S ⊢
      go_wp2
      go_ret2
      exact ⟨none, 0, rfl, (S.nil _ _).only (k := 0) rfl⟩
  | false =>
    have h0 : basCode G n = 1 := by unfold basCode askCode; rw [hv]; rfl
    rw [basR_no (by rw [h0]; decide), h0]
    rw [hv] at hvg
    clear hv h0
    go_enter Try.func26, Try.ntmps26
    go_wp2_with (first
      | ((with_reducible refine at_box_ 34 rfl rfl ?_); (refine W_box S rfl _ _ rfl (gv G (.slice A0 G.gul.length c0)) rfl ?_; clear S; intro bg w' S; change St _ _ (EB _ _ (gcs G (.slice A0 G.gul.length c0)) :: _) at S))
      | ((with_reducible refine at_box_ 2 rfl rfl ?_); (refine W_box S rfl _ _ rfl (.int .i64 n) rfl ?_; clear S; intro bn w' S; change St _ _ (EB _ _ ([.int .i64 n]) :: _) at S))
      | ((with_reducible refine at_load_ 34 rfl rfl ?_); (first | (refine W_loadN S rfl _ _ rfl bg 0 rfl 0 _ _ rfl (gcs G (.slice A0 G.gul.length c0)) Try.isAgg34 (by rw [gcs_length hG]; exact Try.sizeOf34) (fun jq uq hq => by rw [Nat.zero_add]; exact hq) ?_) | (refine W_loadN S rfl _ _ rfl bg 0 rfl 1 _ _ rfl (gcs G (.slice A0 G.gul.length c0)) Try.isAgg34 (by rw [gcs_length hG]; exact Try.sizeOf34) (fun jq uq hq => by rw [Nat.zero_add]; exact hq) ?_) | (refine W_loadN S rfl _ _ rfl bg 0 rfl 2 _ _ rfl (gcs G (.slice A0 G.gul.length c0)) Try.isAgg34 (by rw [gcs_length hG]; exact Try.sizeOf34) (fun jq uq hq => by rw [Nat.zero_add]; exact hq) ?_) | (refine W_loadN S rfl _ _ rfl bg 0 rfl 3 _ _ rfl (gcs G (.slice A0 G.gul.length c0)) Try.isAgg34 (by rw [gcs_length hG]; exact Try.sizeOf34) (fun jq uq hq => by rw [Nat.zero_add]; exact hq) ?_) | (refine W_loadN S rfl _ _ rfl bg 0 rfl 4 _ _ rfl (gcs G (.slice A0 G.gul.length c0)) Try.isAgg34 (by rw [gcs_length hG]; exact Try.sizeOf34) (fun jq uq hq => by rw [Nat.zero_add]; exact hq) ?_) | (refine W_loadN S rfl _ _ rfl bg 0 rfl 5 _ _ rfl (gcs G (.slice A0 G.gul.length c0)) Try.isAgg34 (by rw [gcs_length hG]; exact Try.sizeOf34) (fun jq uq hq => by rw [Nat.zero_add]; exact hq) ?_) | (refine W_loadN S rfl _ _ rfl bg 0 rfl 6 _ _ rfl (gcs G (.slice A0 G.gul.length c0)) Try.isAgg34 (by rw [gcs_length hG]; exact Try.sizeOf34) (fun jq uq hq => by rw [Nat.zero_add]; exact hq) ?_) | (refine W_loadN S rfl _ _ rfl bg 0 rfl 7 _ _ rfl (gcs G (.slice A0 G.gul.length c0)) Try.isAgg34 (by rw [gcs_length hG]; exact Try.sizeOf34) (fun jq uq hq => by rw [Nat.zero_add]; exact hq) ?_) | (refine W_loadN S rfl _ _ rfl bg 0 rfl 8 _ _ rfl (gcs G (.slice A0 G.gul.length c0)) Try.isAgg34 (by rw [gcs_length hG]; exact Try.sizeOf34) (fun jq uq hq => by rw [Nat.zero_add]; exact hq) ?_) | (refine W_loadN S rfl _ _ rfl bg 0 rfl 9 _ _ rfl (gcs G (.slice A0 G.gul.length c0)) Try.isAgg34 (by rw [gcs_length hG]; exact Try.sizeOf34) (fun jq uq hq => by rw [Nat.zero_add]; exact hq) ?_)))
      | (go_at_call 44; refine (hvg _ S.below).mono ?_; rintro e w1 ⟨rfl, hb⟩; replace S := S.callB hb; clear hb))
    go_ret2
    exact ⟨none, 0, rfl, (S.nil _ _).only (k := 0) rfl⟩

set_option maxRecDepth 100000 in
set_option maxHeartbeats 1000000 in
theorem l04Drain_any (G : Gnd) (hG : G.Ok) (V : ValidG G) (A0 : Option Addr) (c0 : Nat) (gb : Nat) (d : Pt) (hd : isCellB G.wide G.high d = true) (w : World) (hg : Rd w (some ⟨gb, 0, none⟩) (gcs G (.slice A0 G.gul.length c0))) (hR : Rd w A0 (ccs G.gul)) :
    Calls Try.prog 67 #[.pointer (some ⟨gb, 0, none⟩), cv d] w fun e w' => e = .returned (.int .i64 (drainI G d)) ∧ Below w.heap.size w w' := by
  have S := St.refl w
  have hm8 := V.many
  have hl201 := runG_length V hd
  obtain ⟨m, hm⟩ := runG_succ (G := G) (d := d)
  have hrun := fun w' hg h => l04Run_any G hG V A0 c0 gb d hd w' hg h
  have HL := Lib.hid (lastD_at hm)
  have HDr : Hid (drainI G d = gulI G (lastD (runG G d))) := rfl
  generalize runG G d = l at hrun hm HL HDr hl201
  have hm2 : m ≤ 200 := by omega
  rw [hm] at hrun
  clear hm hl201
  go_enter Try.func67, Try.ntmps67
  go_wp2_with (first
    | ((with_reducible refine at_box_ 43 rfl rfl ?_); ((fail_if_success have hq := bc); refine W_box S rfl _ _ rfl (cv (d)) rfl ?_; clear S; intro bc w' S; change St _ _ (EB _ _ (cenc (d)) :: _) at S))
    | ((with_reducible refine at_load_ 43 rfl rfl ?_); (first | (refine W_loadN S rfl _ _ rfl bc 0 rfl 0 _ _ rfl (cenc (d)) Try.isAgg43 (by exact Try.sizeOf43) (fun jq uq hq => by rw [Nat.zero_add]; exact hq) ?_) | (refine W_loadN S rfl _ _ rfl bc 0 rfl 1 _ _ rfl (cenc (d)) Try.isAgg43 (by exact Try.sizeOf43) (fun jq uq hq => by rw [Nat.zero_add]; exact hq) ?_) | (refine W_loadN S rfl _ _ rfl bc 0 rfl 2 _ _ rfl (cenc (d)) Try.isAgg43 (by exact Try.sizeOf43) (fun jq uq hq => by rw [Nat.zero_add]; exact hq) ?_) | (refine W_loadN S rfl _ _ rfl bc 0 rfl 3 _ _ rfl (cenc (d)) Try.isAgg43 (by exact Try.sizeOf43) (fun jq uq hq => by rw [Nat.zero_add]; exact hq) ?_) | (refine W_loadN S rfl _ _ rfl bc 0 rfl 4 _ _ rfl (cenc (d)) Try.isAgg43 (by exact Try.sizeOf43) (fun jq uq hq => by rw [Nat.zero_add]; exact hq) ?_) | (refine W_loadN S rfl _ _ rfl bc 0 rfl 5 _ _ rfl (cenc (d)) Try.isAgg43 (by exact Try.sizeOf43) (fun jq uq hq => by rw [Nat.zero_add]; exact hq) ?_) | (refine W_loadN S rfl _ _ rfl bc 0 rfl 6 _ _ rfl (cenc (d)) Try.isAgg43 (by exact Try.sizeOf43) (fun jq uq hq => by rw [Nat.zero_add]; exact hq) ?_) | (refine W_loadN S rfl _ _ rfl bc 0 rfl 7 _ _ rfl (cenc (d)) Try.isAgg43 (by exact Try.sizeOf43) (fun jq uq hq => by rw [Nat.zero_add]; exact hq) ?_) | (refine W_loadN S rfl _ _ rfl bc 0 rfl 8 _ _ rfl (cenc (d)) Try.isAgg43 (by exact Try.sizeOf43) (fun jq uq hq => by rw [Nat.zero_add]; exact hq) ?_) | (refine W_loadN S rfl _ _ rfl bc 0 rfl 9 _ _ rfl (cenc (d)) Try.isAgg43 (by exact Try.sizeOf43) (fun jq uq hq => by rw [Nat.zero_add]; exact hq) ?_)))
    | (go_at_call 60; refine Calls.mono (hrun _ (hg.st S) (hR.st S)) ?_; rintro e w1 ⟨A, c, rfl, S2⟩; replace S := S.call S2; clear S2; simp only [List.cons_append, List.nil_append] at S; have hP : Rd w1 A (ccs l) := S.rd (k := 0) rfl; obtain ⟨bi, oi, hA⟩ := hP.1 (ccs_ne HL.out); subst hA)
    | (refine W_elem cenc rfl _ _ rfl bi oi (m) 2 ?_ (l) ?_ (fun _ => rfl) ((lastD l)) ?_ Try.isAgg43 Try.sizeOf43 ?_; rfl; exact hP; exact HL.out)
    | (go_at_call 76; refine Calls.mono (l04Gully_any G hG hm8 A0 c0 gb (lastD l) _ (hg.st S) (hR.st S)) ?_; rintro e w1 ⟨rfl, hb⟩; replace S := S.callB hb; clear hb))
  go_ret
  exact ⟨ret_i (by rw [HDr.out]), S.below⟩

theorem filt_yes {p : Pt → Bool} {xs : List Pt} {k : Nat} {x : Pt} (h : xs[k]? = some x) (hp : p x = true) : (xs.take (k + 1)).filter p = (xs.take k).filter p ++ [x] := by
  rw [List.take_add_one, h, List.filter_append]; simp [hp]
theorem filt_no {p : Pt → Bool} {xs : List Pt} {k : Nat} {x : Pt} (h : xs[k]? = some x) (hp : p x = false) : (xs.take (k + 1)).filter p = (xs.take k).filter p := by
  rw [List.take_add_one, h, List.filter_append]; simp [hp]
theorem filt_le {p : Pt → Bool} {xs : List Pt} {k : Nat} : ((xs.take k).filter p).length ≤ xs.length := by
  refine Nat.le_trans (List.length_filter_le _ _) ?_
  rw [List.length_take]; omega

set_option maxRecDepth 100000 in
set_option maxHeartbeats 1000000 in
theorem sBasinOf_any (G : Gnd) (hG : G.Ok) (n : Int) (hn : -9223372036854775808 ≤ n ∧ n ≤ 9223372036854775807) (A0 : Option Addr) (c0 : Nat) (hl : G.gul.length ≤ maxLen) (w : World) (hR : Rd w A0 (ccs G.gul)) :
    Calls Try.prog 25 #[gv G (.slice A0 G.gul.length c0), .int .i64 n] w fun e w' => ∃ A c, e = .returned (.tuple #[.slice A (basR G n).length c, .int .i64 (basCode G n)]) ∧ St w w' [ER 43 2 (.slice A (basR G n).length c) (basR G n).length (ccs (basR G n))] := by
  have S := St.refl w
  unfold maxLen at hl
  have hwi := fun w' => l00In_any n 0 ((G.gul.length : Int) - 1) w'
  have hac := fun gb w' h1 h2 => l04Asked_any G hG A0 c0 gb (within n 0 ((G.gul.length : Int) - 1)) w' h1 h2
  change ∀ (gb : Nat) (w' : World), _ → _ → Calls _ _ _ w' (fun e w'' => e = .returned (.int .i64 (basCode G n)) ∧ _) at hac
  by_cases hv : basCode G n = 0
  · obtain ⟨V, hwt⟩ := basCode_0.1 hv
    have hnp := pts_81 V
    rw [basR_0 hv]
    rw [hv, hwt] at hac; rw [hwt] at hwi; rw [hv]
    clear hv hwt
    go_enter Try.func25, Try.ntmps25
    go_wp2_with (first
      | ((with_reducible refine at_box_ 34 rfl rfl ?_); (refine W_box S rfl _ _ rfl (gv G (.slice A0 G.gul.length c0)) rfl ?_; clear S; intro bg w' S; change St _ _ (EB _ _ (gcs G (.slice A0 G.gul.length c0)) :: _) at S))
      | (refine W_bslice S rfl _ (0) _ rfl 43 ([]) ?_ ?_; exact (fun w => by simp [go_sem, Instr.buildSlice, Try.underlying32, Try.sizeOf43, Try.zeroValue43] <;> rfl); clear S; intro bl w' S)
      | ((with_reducible refine at_load_ 32 rfl rfl ?_); (refine W_load1 S rfl _ _ rfl bg 83 rfl 1 _ _ rfl (.slice A0 G.gul.length c0) Try.isAgg32 (gcs_gul hG.len _) ?_))
      | (go_at_call 65; refine (hwi _).mono ?_; rintro e w1 ⟨rfl, rfl⟩)
      | (go_at_call 58; refine (hac bg _ (rd_EB0 S (k := 1) rfl) (hR.st S)).mono ?_; rintro e w1 ⟨rfl, hb⟩; replace S := S.callB hb; clear hb)
      | (go_at_call 66; refine Calls.mono (l04All_any G hG _ bg _ (rd_EB0 S (k := 1) rfl)) ?_; rintro e w1 ⟨A2, c2, rfl, S2⟩; replace S := S.call S2; clear S2; simp only [List.cons_append, List.nil_append] at S))
    replace S := S.own 1 bl _ _ rfl 2 0 0 [] rfl (Nat.le_refl _) (by decide) rfl rfl
    simp only [List.set_cons_zero, List.set_cons_succ] at S
    replace S := S.swap
    go_loopw [6, 9] (fun u i wr => ∃ (k : Nat) (A : Option Addr) (c : Nat), i = .int .i64 k ∧ k ≤ (pts G).length ∧ u = .slice A (((pts G).take k).filter (basP G n)).length c ∧ St w wr [ER 43 2 (.slice A (((pts G).take k).filter (basP G n)).length c) (((pts G).take k).filter (basP G n)).length (ccs (((pts G).take k).filter (basP G n))), ER 43 2 (.slice A2 (pts G).length c2) (pts G).length (ccs (pts G)), EB bg 34 (gcs G (.slice A0 G.gul.length c0))]) (fun _ i _ => (pts G).length - (intOf i).toNat)
    case atStart => exact ⟨0, _, _, rfl, by omega, rfl, S⟩
    case round =>
      clear S
      obtain ⟨k, A, c, rfl, hk, rfl, S⟩ := hrel
      by_cases hkl : k < (pts G).length
      · obtain ⟨d, hd⟩ : ∃ d, (pts G)[k]? = some d := ⟨_, List.getElem?_eq_getElem hkl⟩
        have hdc := pts_mem.1 (List.mem_of_getElem? hd)
        have hP : Rd wr A2 (ccs (pts G)) := S.rd (k := 1) rfl
        have hfl := Lib.hid (filt_le (p := basP G n) (xs := pts G) (k := k))
        have hgl := gulI_le G (lastD (runG G d))
        change -1 ≤ drainI G d ∧ drainI G d ≤ _ at hgl
        have hdr := fun w' hg h => l04Drain_any G hG V A0 c0 bg d hdc w' hg h
        cases hp : basP G n d with
        | true =>
          have HF := Lib.hid (filt_yes hd hp)
          have HD := Lib.hid hd; clear hd
          obtain ⟨bi, oi, hA⟩ := hP.1 (ccs_ne HD.out)
          subst hA
          have hq : drainI G d = n := of_decide_eq_true hp
          clear hp
          rw [hq] at hdr
          clear hq hgl
          go_wp2_with (first
            | (refine W_elem cenc rfl _ _ rfl bi oi (k) 2 ?_ (pts G) ?_ (fun _ => rfl) (d) ?_ Try.isAgg43 Try.sizeOf43 ?_; rfl; exact (S.rd (k := 1) rfl); exact HD.out)
            | (go_at_call 67; refine (hdr _ (rd_EB0 S (k := 2) rfl) (hR.st S)).mono ?_; rintro e w1 ⟨rfl, hb⟩; replace S := S.callB hb; clear hb)
            | (refine W_bslice S rfl _ (1) _ rfl 43 (cenc d) ?_ ?_; exact (fun w => by simp [go_sem, Instr.buildSlice, Try.underlying32, Try.sizeOf43, Try.zeroValue43] <;> rfl); clear S; intro bm w' S)
            | (refine W_append S rfl _ _ _ rfl 1 43 2 _ _ _ rfl rfl 0 _ _ _ rfl 1 1 rfl default _ 2 Try.underlying32 cellInfo rfl (by decide) rfl (one_cells rfl) ?_ ?_ ?_; (first | (have := hfl.out; unfold maxLen; omega) | (have := hfl.out; omega)); (first | (have := hfl.out; unfold maxLen; omega) | (have := hfl.out; omega)); clear S; intro A' c' w' S; simp only [List.set_cons_zero, List.set_cons_succ] at S; replace S := S.tail))
          refine ⟨⟨k + 1, A', c', by go_num, by omega, by rw [HF.out, List.length_append]; rfl, by rw [HF.out, ccs_app, List.length_append]; exact S⟩, ?_⟩
          simp [intOf]; omega
        | false =>
          have HF := Lib.hid (filt_no hd hp)
          have HD := Lib.hid hd; clear hd
          obtain ⟨bi, oi, hA⟩ := hP.1 (ccs_ne HD.out)
          subst hA
          have hq : (drainI G d == n) = false := by have := of_decide_eq_false hp; simpa using this
          clear hp
          go_wp2_with (first
            | (refine W_elem cenc rfl _ _ rfl bi oi (k) 2 ?_ (pts G) ?_ (fun _ => rfl) (d) ?_ Try.isAgg43 Try.sizeOf43 ?_; rfl; exact (S.rd (k := 1) rfl); exact HD.out)
            | (go_at_call 67; refine (hdr _ (rd_EB0 S (k := 2) rfl) (hR.st S)).mono ?_; rintro e w1 ⟨rfl, hb⟩; replace S := S.callB hb; clear hb))
          refine ⟨⟨k + 1, A, c, by go_num, by omega, by rw [HF.out], by rw [HF.out]; exact S⟩, ?_⟩
          simp [intOf]; omega
      · have hke : k = (pts G).length := by omega
        subst hke
        simp only [List.take_length, pts_filter] at S ⊢
        go_wp2
        go_ret2
        exact ⟨A, c, rfl, S.only (k := 0) rfl⟩
  · have hne : (basCode G n == 0) = false := by simpa using hv
    rw [basR_no hv]
    clear hv
    go_enter Try.func25, Try.ntmps25
    go_wp2_with (first
      | ((with_reducible refine at_box_ 34 rfl rfl ?_); (refine W_box S rfl _ _ rfl (gv G (.slice A0 G.gul.length c0)) rfl ?_; clear S; intro bg w' S; change St _ _ (EB _ _ (gcs G (.slice A0 G.gul.length c0)) :: _) at S))
      | (refine W_bslice S rfl _ (0) _ rfl 43 ([]) ?_ ?_; exact (fun w => by simp [go_sem, Instr.buildSlice, Try.underlying32, Try.sizeOf43, Try.zeroValue43] <;> rfl); clear S; intro bl w' S)
      | ((with_reducible refine at_load_ 32 rfl rfl ?_); (refine W_load1 S rfl _ _ rfl bg 83 rfl 1 _ _ rfl (.slice A0 G.gul.length c0) Try.isAgg32 (gcs_gul hG.len _) ?_))
      | (go_at_call 65; refine (hwi _).mono ?_; rintro e w1 ⟨rfl, rfl⟩)
      | (go_at_call 58; refine (hac bg _ (rd_EB0 S (k := 1) rfl) (hR.st S)).mono ?_; rintro e w1 ⟨rfl, hb⟩; replace S := S.callB hb; clear hb))
    replace S := S.own 0 bl _ _ rfl 2 0 0 [] rfl (Nat.le_refl _) (by decide) rfl rfl
    simp only [List.set_cons_zero] at S
    go_ret2
    exact ⟨_, 0, rfl, S.only (k := 0) rfl⟩
end Go.Proofs.Ytpfmmbdddecphaa
