/- DrySquare of the program and of the reference. -/
import Derived.Test.YtpfmmbdddecphaaBuild
import Derived.Test.YtpfmmbdddecphaaHeldC
import Derived.Test.YtpfmmbdddecphaaPool
import Derived.Test.YtpfmmbdddecphaaFallJ
namespace Go.Proofs.Ytpfmmbdddecphaa
open Go.RowKit Go.Sort
set_option linter.unusedVariables false
set_option linter.unusedSimpArgs false

def Gnd.with (G : Gnd) (ts : List Int) : Gnd := ⟨G.wide, G.high, ts, G.gul⟩
theorem with_ok {G : Gnd} (hG : G.Ok) {ts : List Int} (hl : ts.length = 81) (hr : ∀ t ∈ ts, -32768 ≤ t ∧ t ≤ 32767) : (G.with ts).Ok := ⟨hG.wide, hG.high, hl, hr, hG.gul⟩
theorem lev_range {G : Gnd} {ts : List Int} (V : ValidG G) (h : IsLev G ts) : ∀ t ∈ ts, -32768 ≤ t ∧ t ≤ 32767 := by
  intro t ht
  obtain ⟨i, hi, rfl⟩ := List.mem_iff_getElem.1 ht
  have hl := isLev_length h
  have hb := lev_bound V h i (by omega)
  rw [List.getD_eq_getElem?_getD (l := ts), List.getElem?_eq_getElem hi] at hb
  simp only [Option.getD_some] at hb
  omega
set_option maxRecDepth 100000 in
set_option maxHeartbeats 1000000 in
theorem with_any (G : Gnd) (hG : G.Ok) (ts : List Int) (hts : ts.length = 81) (b c : Nat) (hn : G.gul.length ≤ 4000000) (w : World) (hR : Rd w (some ⟨b, 0, none⟩) (ccs G.gul)) :
    Calls Try.prog 74 #[gv G (.slice (some ⟨b, 0, none⟩) G.gul.length c), .agg (hvl ts).toArray] w fun e w' => ∃ A' c', e = .returned (gv (G.with ts) (.slice A' G.gul.length c')) ∧ St w w' [ER 43 2 (.slice A' G.gul.length c') G.gul.length (ccs G.gul)] := by
  have S := St.refl w
  have hxl : (hvl ts).length = 81 := by rw [hvl_length, hts]
  go_enter Try.func74, Try.ntmps74
  go_wp2_with (first
    | ((with_reducible refine at_box_ 34 rfl rfl ?_); (refine W_box S rfl _ _ rfl (gv G (.slice (some ⟨b, 0, none⟩) G.gul.length c)) rfl ?_; clear S; intro bg w' S; change St _ _ (EB _ _ (gcs G (.slice (some ⟨b, 0, none⟩) G.gul.length c)) :: _) at S))
    | ((with_reducible refine at_box_ 25 rfl rfl ?_); (refine W_box S rfl _ _ rfl (.agg (hvl ts).toArray) rfl ?_; clear S; intro bt w' S; change St _ _ (EB _ _ (hvl ts) :: _) at S))
    | ((with_reducible refine at_alloc_ 34 rfl rfl ?_); ((fail_if_success have hq := br); refine W_alloc S rfl 34 rfl _ Try.zeroValue34 ?_; clear S; intro br w' S; change St _ _ (EB _ _ (gcs Gnd.zero (.slice none 0 0)) :: _) at S)))
  try (simp only [Act.put, List.setIfInBounds_toArray, List.set_cons_succ, List.set_cons_zero])
  refine C_begin (C := fun w' => ∃ H v, H.hs.length = 81 ∧ St w w' [EB br 34 (gcs H v), EB bt 25 (hvl ts), EB bg 34 (gcs G (.slice (some ⟨b, 0, none⟩) G.gul.length c))]) (by kernel_rfl) (fun w' hb => ⟨Gnd.zero, .slice none 0 0, rfl, S.callB hb⟩) ?_; intro wh hch
  (refine C_take (i := 0) rfl (by kernel_rfl) (by kernel_rfl) (by kernel_rfl) rfl (.pointer (some ⟨bg, 0, none⟩)) (fun _ _ _ h => h) (fun w' _ => rfl) hch ?_; simp only [List.getElem_toArray, List.getElem_cons_succ, List.getElem_cons_zero, Act.put, List.setIfInBounds_toArray, List.set_cons_succ, List.set_cons_zero])
  (refine C_load1 1 rfl (by kernel_rfl) (by kernel_rfl) (by kernel_rfl) rfl _ _ rfl bg 0 rfl _ _ (fun w' ⟨_, _, _, S'⟩ => S'.get (k := 2) rfl) (.int .i8 G.wide) Try.isAgg22 (rfl) hch (fun _ _ _ h => h) ?_; simp only [List.getElem_toArray, List.getElem_cons_succ, List.getElem_cons_zero, Act.put, List.setIfInBounds_toArray, List.set_cons_succ, List.set_cons_zero])
  (refine C_take (i := 2) rfl (by kernel_rfl) (by kernel_rfl) (by kernel_rfl) rfl (.pointer (some ⟨bg, 1, none⟩)) (fun _ _ _ h => h) (fun w' _ => rfl) hch ?_; simp only [List.getElem_toArray, List.getElem_cons_succ, List.getElem_cons_zero, Act.put, List.setIfInBounds_toArray, List.set_cons_succ, List.set_cons_zero])
  (refine C_load1 3 rfl (by kernel_rfl) (by kernel_rfl) (by kernel_rfl) rfl _ _ rfl bg 1 rfl _ _ (fun w' ⟨_, _, _, S'⟩ => S'.get (k := 2) rfl) (.int .i8 G.high) Try.isAgg22 (rfl) hch (fun _ _ _ h => h) ?_; simp only [List.getElem_toArray, List.getElem_cons_succ, List.getElem_cons_zero, Act.put, List.setIfInBounds_toArray, List.set_cons_succ, List.set_cons_zero])
  (refine C_loadN 4 rfl (by kernel_rfl) (by kernel_rfl) (by kernel_rfl) rfl _ _ rfl bt 0 rfl _ _ (fun w' ⟨_, _, _, S'⟩ => S'.get (k := 1) rfl) (hvl ts) Try.isAgg25 (by rw [hxl]; exact Try.sizeOf25) (fun jq uq hq => by rw [Nat.zero_add]; exact hq) hch (fun _ _ _ h => h) ?_; simp only [List.getElem_toArray, List.getElem_cons_succ, List.getElem_cons_zero, Act.put, List.setIfInBounds_toArray, List.set_cons_succ, List.set_cons_zero])
  (refine C_take (i := 5) rfl (by kernel_rfl) (by kernel_rfl) (by kernel_rfl) rfl (.pointer (some ⟨bg, 83, none⟩)) (fun _ _ _ h => h) (fun w' _ => rfl) hch ?_; simp only [List.getElem_toArray, List.getElem_cons_succ, List.getElem_cons_zero, Act.put, List.setIfInBounds_toArray, List.set_cons_succ, List.set_cons_zero])
  (refine C_load1 6 rfl (by kernel_rfl) (by kernel_rfl) (by kernel_rfl) rfl _ _ rfl bg 83 rfl _ _ (fun w' ⟨_, _, _, S'⟩ => S'.get (k := 2) rfl) (.slice (some ⟨b, 0, none⟩) G.gul.length c) Try.isAgg32 (gcs_gul hG.len _) hch (fun _ _ _ h => h) ?_; simp only [List.getElem_toArray, List.getElem_cons_succ, List.getElem_cons_zero, Act.put, List.setIfInBounds_toArray, List.set_cons_succ, List.set_cons_zero])
  clear S
  obtain ⟨H, v, hHl, S⟩ := hch
  refine C_step (i := 7) (by kernel_rfl) rfl ?_
  go_wp2_with (first
    | (go_at_call 92; refine Calls.mono (clone_any b 0 _ c G.gul rfl hn _ (hR.st S)) ?_; rintro e w1 ⟨A', c', rfl, S2⟩; replace S := S.call S2; clear S2; simp only [List.cons_append, List.nil_append] at S))
  refine ⟨⟨_, _, hHl, S.tail⟩, ?_⟩
  refine C_step (i := 8) (by kernel_rfl) rfl ?_
  go_wp2_with (first
    | ((with_reducible refine at_build_ 34 rfl rfl ?_); (refine W_build rfl _ _ rfl (gv (G.with ts) (.slice A' G.gul.length c')) #[(0, .int .i8 G.wide), (1, .int .i8 G.high), (2, .agg (hvl ts).toArray), (3, .slice A' G.gul.length c')] ?_ (run_buildG G.wide G.high ts hts G.gul _ rfl _) ?_; simp [go_sem])))
  refine ⟨⟨_, _, hHl, S.tail⟩, ?_⟩
  refine C_step (i := 9) (by kernel_rfl) rfl ?_
  go_wp2_with (first
    | ((with_reducible refine at_store_ 34 rfl rfl ?_); (first | (refine W_storeW S rfl _ _ _ rfl br rfl 0 _ _ rfl (gcs (G.with ts) (.slice A' G.gul.length c')) rfl (by rw [gcs_len (by exact hts)]; exact Try.sizeOf34) (by rw [gcs_len hHl, gcs_len (by exact hts)]) (gcs_one rfl) ?_; clear S; intro w' S; simp only [List.set_cons_zero, List.set_cons_succ] at S) | (refine W_storeW S rfl _ _ _ rfl br rfl 1 _ _ rfl (gcs (G.with ts) (.slice A' G.gul.length c')) rfl (by rw [gcs_len (by exact hts)]; exact Try.sizeOf34) (by rw [gcs_len hHl, gcs_len (by exact hts)]) (gcs_one rfl) ?_; clear S; intro w' S; simp only [List.set_cons_zero, List.set_cons_succ] at S) | (refine W_storeW S rfl _ _ _ rfl br rfl 2 _ _ rfl (gcs (G.with ts) (.slice A' G.gul.length c')) rfl (by rw [gcs_len (by exact hts)]; exact Try.sizeOf34) (by rw [gcs_len hHl, gcs_len (by exact hts)]) (gcs_one rfl) ?_; clear S; intro w' S; simp only [List.set_cons_zero, List.set_cons_succ] at S) | (refine W_storeW S rfl _ _ _ rfl br rfl 3 _ _ rfl (gcs (G.with ts) (.slice A' G.gul.length c')) rfl (by rw [gcs_len (by exact hts)]; exact Try.sizeOf34) (by rw [gcs_len hHl, gcs_len (by exact hts)]) (gcs_one rfl) ?_; clear S; intro w' S; simp only [List.set_cons_zero, List.set_cons_succ] at S) | (refine W_storeW S rfl _ _ _ rfl br rfl 4 _ _ rfl (gcs (G.with ts) (.slice A' G.gul.length c')) rfl (by rw [gcs_len (by exact hts)]; exact Try.sizeOf34) (by rw [gcs_len hHl, gcs_len (by exact hts)]) (gcs_one rfl) ?_; clear S; intro w' S; simp only [List.set_cons_zero, List.set_cons_succ] at S) | (refine W_storeW S rfl _ _ _ rfl br rfl 5 _ _ rfl (gcs (G.with ts) (.slice A' G.gul.length c')) rfl (by rw [gcs_len (by exact hts)]; exact Try.sizeOf34) (by rw [gcs_len hHl, gcs_len (by exact hts)]) (gcs_one rfl) ?_; clear S; intro w' S; simp only [List.set_cons_zero, List.set_cons_succ] at S))))
  refine ⟨⟨G.with ts, _, hts, S.tail⟩, ?_⟩
  refine wpAnyH_done (by kernel_rfl) ?_ _
  go_wp2
  refine W_ret_c rfl S _ rfl rfl 1 _ _ rfl Try.isAgg34 (by rw [gcs_len (by exact hts)]; exact Try.sizeOf34) ⟨A', c', rfl, S.only (k := 0) rfl⟩

/-- What is to be returned by DrySquare. -/
def DryIs (G : Gnd) (H : Gnd) (k : Int) : Prop := (levCode G = 0 → ∃ ts, IsLev G ts ∧ H = G.with ts ∧ k = pcnt G ts 81) ∧ (levCode G ≠ 0 → H = Gnd.zero ∧ k = 0)
theorem DryIs.unique {G H K : Gnd} {k l : Int} (h1 : DryIs G H k) (h2 : DryIs G K l) : H = K ∧ k = l := by
  by_cases h : levCode G = 0
  · obtain ⟨ts, ht, rfl, rfl⟩ := h1.1 h
    obtain ⟨us, hu, rfl, rfl⟩ := h2.1 h
    rw [ht.unique hu]; exact ⟨rfl, rfl⟩
  · obtain ⟨rfl, rfl⟩ := h1.2 h
    obtain ⟨rfl, rfl⟩ := h2.2 h
    exact ⟨rfl, rfl⟩
theorem Gnd.zero_ok : Gnd.zero.Ok := ⟨by decide, by decide, rfl, fun h hh => by have := List.eq_of_mem_replicate hh; subst this; decide, fun c hc => by cases hc⟩
theorem DryIs.ok {G H : Gnd} {k : Int} (hG : G.Ok) (h : DryIs G H k) : H.Ok := by
  by_cases h0 : levCode G = 0
  · obtain ⟨ts, ht, rfl, _⟩ := h.1 h0
    exact with_ok hG (isLev_length ht) (lev_range (levCode_0.1 h0).1 ht)
  · obtain ⟨rfl, _⟩ := h.2 h0
    exact Gnd.zero_ok
theorem DryIs.many {G H : Gnd} {k : Int} (h : DryIs G H k) : H.gul.length ≤ 8 := by
  by_cases h0 : levCode G = 0
  · obtain ⟨ts, ht, rfl, _⟩ := h.1 h0
    exact (levCode_0.1 h0).1.many
  · obtain ⟨rfl, _⟩ := h.2 h0
    exact Nat.zero_le _

set_option maxRecDepth 100000 in
set_option maxHeartbeats 1000000 in
theorem drySquare_any (G : Gnd) (hG : G.Ok) (b c : Nat) (w : World) (hR : Rd w (some ⟨b, 0, none⟩) (ccs G.gul)) :
    Calls Try.prog 28 #[gv G (.slice (some ⟨b, 0, none⟩) G.gul.length c)] w fun e w' => ∃ H k A' c', DryIs G H k ∧ e = .returned (.tuple #[gv H (.slice A' H.gul.length c'), .int .i64 k, .int .i64 (levCode G)]) ∧ St w w' [ER 43 2 (.slice A' H.gul.length c') H.gul.length (ccs H.gul)] := by
  have S := St.refl w
  have hlc := fun w' (hb : Below w.heap.size w w') => levelCode_any G hG (some ⟨b, 0, none⟩) c w' (hR.below hb)
  by_cases hv : levCode G = 0
  · obtain ⟨V, hne⟩ := levCode_0.1 hv
    have hm8 := V.many
    have HV := Lib.hid hv
    rw [hv] at hlc; rw [hv]
    clear hv
    go_enter Try.func28, Try.ntmps28
    go_wp2_with (first
      | ((with_reducible refine at_box_ 34 rfl rfl ?_); (refine W_box S rfl _ _ rfl (gv G (.slice (some ⟨b, 0, none⟩) G.gul.length c)) rfl ?_; clear S; intro bg w' S; change St _ _ (EB _ _ (gcs G (.slice (some ⟨b, 0, none⟩) G.gul.length c)) :: _) at S))
      | ((with_reducible refine at_alloc_ 34 rfl rfl ?_); ((fail_if_success have hq := br); refine W_alloc S rfl 34 rfl _ Try.zeroValue34 ?_; clear S; intro br w' S; change St _ _ (EB _ _ (gcs Gnd.zero (.slice none 0 0)) :: _) at S))
      | ((with_reducible refine at_load_ 34 rfl rfl ?_); (first | (refine W_loadN S rfl _ _ rfl bg 0 rfl 0 _ _ rfl (gcs G (.slice (some ⟨b, 0, none⟩) G.gul.length c)) Try.isAgg34 (by rw [gcs_length hG]; exact Try.sizeOf34) (fun jq uq hq => by rw [Nat.zero_add]; exact hq) ?_) | (refine W_loadN S rfl _ _ rfl bg 0 rfl 1 _ _ rfl (gcs G (.slice (some ⟨b, 0, none⟩) G.gul.length c)) Try.isAgg34 (by rw [gcs_length hG]; exact Try.sizeOf34) (fun jq uq hq => by rw [Nat.zero_add]; exact hq) ?_) | (refine W_loadN S rfl _ _ rfl bg 0 rfl 2 _ _ rfl (gcs G (.slice (some ⟨b, 0, none⟩) G.gul.length c)) Try.isAgg34 (by rw [gcs_length hG]; exact Try.sizeOf34) (fun jq uq hq => by rw [Nat.zero_add]; exact hq) ?_) | (refine W_loadN S rfl _ _ rfl bg 0 rfl 3 _ _ rfl (gcs G (.slice (some ⟨b, 0, none⟩) G.gul.length c)) Try.isAgg34 (by rw [gcs_length hG]; exact Try.sizeOf34) (fun jq uq hq => by rw [Nat.zero_add]; exact hq) ?_) | (refine W_loadN S rfl _ _ rfl bg 0 rfl 4 _ _ rfl (gcs G (.slice (some ⟨b, 0, none⟩) G.gul.length c)) Try.isAgg34 (by rw [gcs_length hG]; exact Try.sizeOf34) (fun jq uq hq => by rw [Nat.zero_add]; exact hq) ?_) | (refine W_loadN S rfl _ _ rfl bg 0 rfl 5 _ _ rfl (gcs G (.slice (some ⟨b, 0, none⟩) G.gul.length c)) Try.isAgg34 (by rw [gcs_length hG]; exact Try.sizeOf34) (fun jq uq hq => by rw [Nat.zero_add]; exact hq) ?_) | (refine W_loadN S rfl _ _ rfl bg 0 rfl 6 _ _ rfl (gcs G (.slice (some ⟨b, 0, none⟩) G.gul.length c)) Try.isAgg34 (by rw [gcs_length hG]; exact Try.sizeOf34) (fun jq uq hq => by rw [Nat.zero_add]; exact hq) ?_) | (refine W_loadN S rfl _ _ rfl bg 0 rfl 7 _ _ rfl (gcs G (.slice (some ⟨b, 0, none⟩) G.gul.length c)) Try.isAgg34 (by rw [gcs_length hG]; exact Try.sizeOf34) (fun jq uq hq => by rw [Nat.zero_add]; exact hq) ?_) | (refine W_loadN S rfl _ _ rfl bg 0 rfl 8 _ _ rfl (gcs G (.slice (some ⟨b, 0, none⟩) G.gul.length c)) Try.isAgg34 (by rw [gcs_length hG]; exact Try.sizeOf34) (fun jq uq hq => by rw [Nat.zero_add]; exact hq) ?_) | (refine W_loadN S rfl _ _ rfl bg 0 rfl 9 _ _ rfl (gcs G (.slice (some ⟨b, 0, none⟩) G.gul.length c)) Try.isAgg34 (by rw [gcs_length hG]; exact Try.sizeOf34) (fun jq uq hq => by rw [Nat.zero_add]; exact hq) ?_)))
      | (go_at_call 55; refine (hlc _ S.below).mono ?_; rintro e w1 ⟨rfl, hb⟩; replace S := S.callB hb; clear hb)
      | (go_at_call 64; refine Calls.mono (raised_any G hG V hne (some ⟨b, 0, none⟩) c _ (hR.st S)) ?_; rintro e w1 ⟨ts, hts, rfl, hb⟩; replace S := S.callB hb; clear hb; have HT := Lib.hid hts; clear hts))
    have htl := isLev_length HT.out
    have hlv := fun w' h => levels_any G hG V hne (some ⟨b, 0, none⟩) c w' h
    try (simp only [Act.put, List.setIfInBounds_toArray, List.set_cons_succ, List.set_cons_zero])
    refine C_begin (C := fun w' => ∃ H v, H.hs.length = 81 ∧ St w w' [EB br 34 (gcs H v), EB bg 34 (gcs G (.slice (some ⟨b, 0, none⟩) G.gul.length c))]) (by kernel_rfl) (fun w' hb => ⟨Gnd.zero, .slice none 0 0, rfl, S.callB hb⟩) ?_; intro wh hch
    (refine C_loadN 0 rfl (by kernel_rfl) (by kernel_rfl) (by kernel_rfl) rfl _ _ rfl bg 0 rfl _ _ (fun w' ⟨_, _, _, S'⟩ => S'.get (k := 1) rfl) (gcs G (.slice (some ⟨b, 0, none⟩) G.gul.length c)) Try.isAgg34 (by rw [gcs_length hG]; exact Try.sizeOf34) (fun jq uq hq => by rw [Nat.zero_add]; exact hq) hch (fun _ _ _ h => h) ?_; simp only [List.getElem_toArray, List.getElem_cons_succ, List.getElem_cons_zero, Act.put, List.setIfInBounds_toArray, List.set_cons_succ, List.set_cons_zero])
    (refine C_loadN 1 rfl (by kernel_rfl) (by kernel_rfl) (by kernel_rfl) rfl _ _ rfl bg 0 rfl _ _ (fun w' ⟨_, _, _, S'⟩ => S'.get (k := 1) rfl) (gcs G (.slice (some ⟨b, 0, none⟩) G.gul.length c)) Try.isAgg34 (by rw [gcs_length hG]; exact Try.sizeOf34) (fun jq uq hq => by rw [Nat.zero_add]; exact hq) hch (fun _ _ _ h => h) ?_; simp only [List.getElem_toArray, List.getElem_cons_succ, List.getElem_cons_zero, Act.put, List.setIfInBounds_toArray, List.set_cons_succ, List.set_cons_zero])
    (refine C_take (i := 4) rfl (by kernel_rfl) (by kernel_rfl) (by kernel_rfl) rfl (.int .i64 (pcnt G ts 81)) (fun _ _ _ h => h) (fun w' _ => rfl) hch ?_; simp only [List.getElem_toArray, List.getElem_cons_succ, List.getElem_cons_zero, Act.put, List.setIfInBounds_toArray, List.set_cons_succ, List.set_cons_zero])
    clear S
    obtain ⟨H, v, hHl, S⟩ := hch
    refine C_step (i := 2) (by kernel_rfl) rfl ?_
    go_wp2_with (first
      | (go_at_call 56; refine Calls.mono (hlv _ (hR.st S)) ?_; rintro e w1 ⟨us, hus, rfl, hb⟩; replace S := S.callB hb; clear hb; obtain rfl := HT.out.unique hus; clear hus))
    refine ⟨⟨_, _, hHl, S⟩, ?_⟩
    refine C_step (i := 3) (by kernel_rfl) rfl ?_
    go_wp2_with (first
      | (go_at_call 74; refine Calls.mono (with_any G hG ts htl b c (by omega) _ (hR.st S)) ?_; rintro e w1 ⟨A', c', rfl, S2⟩; replace S := S.call S2; clear S2; simp only [List.cons_append, List.nil_append] at S))
    refine ⟨⟨_, _, hHl, S.tail⟩, ?_⟩
    refine C_step (i := 5) (by kernel_rfl) rfl ?_
    go_wp2_with (first
      | ((with_reducible refine at_store_ 34 rfl rfl ?_); (first | (refine W_storeW S rfl _ _ _ rfl br rfl 0 _ _ rfl (gcs (G.with ts) (.slice A' G.gul.length c')) rfl (by rw [gcs_len (by exact htl)]; exact Try.sizeOf34) (by rw [gcs_len hHl, gcs_len (by exact htl)]) (gcs_one rfl) ?_; clear S; intro w' S; simp only [List.set_cons_zero, List.set_cons_succ] at S) | (refine W_storeW S rfl _ _ _ rfl br rfl 1 _ _ rfl (gcs (G.with ts) (.slice A' G.gul.length c')) rfl (by rw [gcs_len (by exact htl)]; exact Try.sizeOf34) (by rw [gcs_len hHl, gcs_len (by exact htl)]) (gcs_one rfl) ?_; clear S; intro w' S; simp only [List.set_cons_zero, List.set_cons_succ] at S) | (refine W_storeW S rfl _ _ _ rfl br rfl 2 _ _ rfl (gcs (G.with ts) (.slice A' G.gul.length c')) rfl (by rw [gcs_len (by exact htl)]; exact Try.sizeOf34) (by rw [gcs_len hHl, gcs_len (by exact htl)]) (gcs_one rfl) ?_; clear S; intro w' S; simp only [List.set_cons_zero, List.set_cons_succ] at S) | (refine W_storeW S rfl _ _ _ rfl br rfl 3 _ _ rfl (gcs (G.with ts) (.slice A' G.gul.length c')) rfl (by rw [gcs_len (by exact htl)]; exact Try.sizeOf34) (by rw [gcs_len hHl, gcs_len (by exact htl)]) (gcs_one rfl) ?_; clear S; intro w' S; simp only [List.set_cons_zero, List.set_cons_succ] at S) | (refine W_storeW S rfl _ _ _ rfl br rfl 4 _ _ rfl (gcs (G.with ts) (.slice A' G.gul.length c')) rfl (by rw [gcs_len (by exact htl)]; exact Try.sizeOf34) (by rw [gcs_len hHl, gcs_len (by exact htl)]) (gcs_one rfl) ?_; clear S; intro w' S; simp only [List.set_cons_zero, List.set_cons_succ] at S) | (refine W_storeW S rfl _ _ _ rfl br rfl 5 _ _ rfl (gcs (G.with ts) (.slice A' G.gul.length c')) rfl (by rw [gcs_len (by exact htl)]; exact Try.sizeOf34) (by rw [gcs_len hHl, gcs_len (by exact htl)]) (gcs_one rfl) ?_; clear S; intro w' S; simp only [List.set_cons_zero, List.set_cons_succ] at S))))
    refine ⟨⟨G.with ts, _, htl, S.tail⟩, ?_⟩
    refine C_step (i := 6) (by kernel_rfl) rfl ?_
    go_wp2
    refine ⟨⟨G.with ts, _, htl, S.tail⟩, ?_⟩
    refine C_step (i := 7) (by kernel_rfl) rfl ?_
    go_wp2
    refine ⟨⟨G.with ts, _, htl, S.tail⟩, ?_⟩
    refine wpAnyH_done (by kernel_rfl) ?_ _
    go_wp2
    refine W_ret_ctt rfl S _ rfl _ _ rfl rfl rfl 1 _ _ rfl Try.isAgg34 (by rw [gcs_len (by exact htl)]; exact Try.sizeOf34) ?_
    exact ⟨G.with ts, _, A', c', ⟨fun _ => ⟨ts, HT.out, rfl, rfl⟩, fun h => absurd HV.out h⟩, rfl, S.only (k := 0) rfl⟩
  · have hne : (levCode G == 0) = false := by simpa using hv
    have HV := Lib.hid hv
    clear hv
    go_enter Try.func28, Try.ntmps28
    go_wp2_with (first
      | ((with_reducible refine at_box_ 34 rfl rfl ?_); (refine W_box S rfl _ _ rfl (gv G (.slice (some ⟨b, 0, none⟩) G.gul.length c)) rfl ?_; clear S; intro bg w' S; change St _ _ (EB _ _ (gcs G (.slice (some ⟨b, 0, none⟩) G.gul.length c)) :: _) at S))
      | ((with_reducible refine at_alloc_ 34 rfl rfl ?_); ((fail_if_success have hq := br); refine W_alloc S rfl 34 rfl _ Try.zeroValue34 ?_; clear S; intro br w' S; change St _ _ (EB _ _ (gcs Gnd.zero (.slice none 0 0)) :: _) at S))
      | ((with_reducible refine at_load_ 34 rfl rfl ?_); (first | (refine W_loadN S rfl _ _ rfl bg 0 rfl 0 _ _ rfl (gcs G (.slice (some ⟨b, 0, none⟩) G.gul.length c)) Try.isAgg34 (by rw [gcs_length hG]; exact Try.sizeOf34) (fun jq uq hq => by rw [Nat.zero_add]; exact hq) ?_) | (refine W_loadN S rfl _ _ rfl bg 0 rfl 1 _ _ rfl (gcs G (.slice (some ⟨b, 0, none⟩) G.gul.length c)) Try.isAgg34 (by rw [gcs_length hG]; exact Try.sizeOf34) (fun jq uq hq => by rw [Nat.zero_add]; exact hq) ?_) | (refine W_loadN S rfl _ _ rfl bg 0 rfl 2 _ _ rfl (gcs G (.slice (some ⟨b, 0, none⟩) G.gul.length c)) Try.isAgg34 (by rw [gcs_length hG]; exact Try.sizeOf34) (fun jq uq hq => by rw [Nat.zero_add]; exact hq) ?_) | (refine W_loadN S rfl _ _ rfl bg 0 rfl 3 _ _ rfl (gcs G (.slice (some ⟨b, 0, none⟩) G.gul.length c)) Try.isAgg34 (by rw [gcs_length hG]; exact Try.sizeOf34) (fun jq uq hq => by rw [Nat.zero_add]; exact hq) ?_) | (refine W_loadN S rfl _ _ rfl bg 0 rfl 4 _ _ rfl (gcs G (.slice (some ⟨b, 0, none⟩) G.gul.length c)) Try.isAgg34 (by rw [gcs_length hG]; exact Try.sizeOf34) (fun jq uq hq => by rw [Nat.zero_add]; exact hq) ?_) | (refine W_loadN S rfl _ _ rfl bg 0 rfl 5 _ _ rfl (gcs G (.slice (some ⟨b, 0, none⟩) G.gul.length c)) Try.isAgg34 (by rw [gcs_length hG]; exact Try.sizeOf34) (fun jq uq hq => by rw [Nat.zero_add]; exact hq) ?_) | (refine W_loadN S rfl _ _ rfl bg 0 rfl 6 _ _ rfl (gcs G (.slice (some ⟨b, 0, none⟩) G.gul.length c)) Try.isAgg34 (by rw [gcs_length hG]; exact Try.sizeOf34) (fun jq uq hq => by rw [Nat.zero_add]; exact hq) ?_) | (refine W_loadN S rfl _ _ rfl bg 0 rfl 7 _ _ rfl (gcs G (.slice (some ⟨b, 0, none⟩) G.gul.length c)) Try.isAgg34 (by rw [gcs_length hG]; exact Try.sizeOf34) (fun jq uq hq => by rw [Nat.zero_add]; exact hq) ?_) | (refine W_loadN S rfl _ _ rfl bg 0 rfl 8 _ _ rfl (gcs G (.slice (some ⟨b, 0, none⟩) G.gul.length c)) Try.isAgg34 (by rw [gcs_length hG]; exact Try.sizeOf34) (fun jq uq hq => by rw [Nat.zero_add]; exact hq) ?_) | (refine W_loadN S rfl _ _ rfl bg 0 rfl 9 _ _ rfl (gcs G (.slice (some ⟨b, 0, none⟩) G.gul.length c)) Try.isAgg34 (by rw [gcs_length hG]; exact Try.sizeOf34) (fun jq uq hq => by rw [Nat.zero_add]; exact hq) ?_)))
      | (go_at_call 55; refine (hlc _ S.below).mono ?_; rintro e w1 ⟨rfl, hb⟩; replace S := S.callB hb; clear hb)
      | ((with_reducible refine at_build_ 34 rfl rfl ?_); (refine W_build rfl _ _ rfl (gv Gnd.zero (.slice none 0 0)) #[] ?_ (run_build0 _) ?_; simp [go_sem]))
      | ((with_reducible refine at_store_ 34 rfl rfl ?_); (first | (refine W_storeW S rfl _ _ _ rfl br rfl 0 _ _ rfl (gcs Gnd.zero (.slice none 0 0)) rfl (by rw [gcs_len rfl]; exact Try.sizeOf34) (rfl) (gcs_one rfl) ?_; clear S; intro w' S; simp only [List.set_cons_zero, List.set_cons_succ] at S) | (refine W_storeW S rfl _ _ _ rfl br rfl 1 _ _ rfl (gcs Gnd.zero (.slice none 0 0)) rfl (by rw [gcs_len rfl]; exact Try.sizeOf34) (rfl) (gcs_one rfl) ?_; clear S; intro w' S; simp only [List.set_cons_zero, List.set_cons_succ] at S) | (refine W_storeW S rfl _ _ _ rfl br rfl 2 _ _ rfl (gcs Gnd.zero (.slice none 0 0)) rfl (by rw [gcs_len rfl]; exact Try.sizeOf34) (rfl) (gcs_one rfl) ?_; clear S; intro w' S; simp only [List.set_cons_zero, List.set_cons_succ] at S) | (refine W_storeW S rfl _ _ _ rfl br rfl 3 _ _ rfl (gcs Gnd.zero (.slice none 0 0)) rfl (by rw [gcs_len rfl]; exact Try.sizeOf34) (rfl) (gcs_one rfl) ?_; clear S; intro w' S; simp only [List.set_cons_zero, List.set_cons_succ] at S) | (refine W_storeW S rfl _ _ _ rfl br rfl 4 _ _ rfl (gcs Gnd.zero (.slice none 0 0)) rfl (by rw [gcs_len rfl]; exact Try.sizeOf34) (rfl) (gcs_one rfl) ?_; clear S; intro w' S; simp only [List.set_cons_zero, List.set_cons_succ] at S) | (refine W_storeW S rfl _ _ _ rfl br rfl 5 _ _ rfl (gcs Gnd.zero (.slice none 0 0)) rfl (by rw [gcs_len rfl]; exact Try.sizeOf34) (rfl) (gcs_one rfl) ?_; clear S; intro w' S; simp only [List.set_cons_zero, List.set_cons_succ] at S))))
    refine W_ret_ctt rfl S _ rfl _ _ rfl rfl rfl 0 _ _ rfl Try.isAgg34 (by rw [gcs_len rfl]; exact Try.sizeOf34) ?_
    exact ⟨Gnd.zero, 0, none, 0, ⟨fun h => absurd h HV.out, fun _ => ⟨rfl, rfl⟩⟩, rfl, (S.nil _ _).only (k := 0) rfl⟩
end Go.Proofs.Ytpfmmbdddecphaa
