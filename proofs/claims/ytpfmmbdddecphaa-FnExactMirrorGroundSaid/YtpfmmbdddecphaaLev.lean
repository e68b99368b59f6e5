/- The contracts of levels, levelCode, FillLevels of the program. -/
import Derived.Test.YtpfmmbdddecphaaSpr
import Derived.Test.YtpfmmbdddecphaaLevP
namespace Go.Proofs.Ytpfmmbdddecphaa
open Go.RowKit Go.Sort
set_option linter.unusedVariables false
set_option linter.unusedSimpArgs false

set_option maxRecDepth 100000 in
set_option maxHeartbeats 1000000 in
theorem levels1_any (G : Gnd) (hG : G.Ok) (v : Value) (n : Int) (x y : Int) (h3 : 0 ≤ x ∧ x ≤ 8) (h4 : 0 ≤ y ∧ y ≤ 8) (b : Nat) (t : TypeId) (w0 w : World) (L : List Ent) (S : St w0 w L) (k : Nat) (hk : L[k]? = some (EB b t (gcs G v))) :
    Calls Try.prog 106 #[.int .i64 n, cv (x, y), .pointer (some ⟨b, 0, none⟩)] w fun e w' => e = .returned (.int .i64 (max n (G.at x y))) ∧ Below w.heap.size w w' := by
  have hl := gcs_length hG v
  have R := St.refl w
  have hR : Rd w (some ⟨b, 0, none⟩) (gcs G v) := Rd.EB S hk 0 (fun j u hu => by rw [Nat.zero_add]; exact hu)
  go_enter Try.func106, Try.ntmps106
  replace S := R
  go_wp2_with (first
    | (refine W_box S rfl _ _ rfl (.agg #[.int .i8 x, .int .i8 y]) rfl ?_; clear S; intro bc w' S; change St _ _ (EB _ _ ([.int .i8 x, .int .i8 y]) :: _) at S)
    | (refine W_loadC rfl _ _ rfl b 0 rfl (gcs G v) Try.isAgg34 (by rw [hl]; exact Try.sizeOf34) ?_ ?_; exact (hR.st S).2 b 0 rfl)
    | (refine W_loadN S rfl _ _ rfl _ _ rfl 0 _ _ rfl ([.int .i8 x, .int .i8 y]) Try.isAgg43 Try.sizeOf43 (fun jq uq hq => by rw [Nat.zero_add]; exact hq) ?_)
    | (go_at_call 105; refine (height_any G hG v x y h3 h4 _).mono ?_; rintro e w1 ⟨rfl, hb⟩; replace S := S.callB hb; clear hb))
  all_goals (go_ret; exact ⟨ret_i (by omega), S.below⟩)
theorem levels1_eg : ∀ args w, (callFunc 106 args).run Try.prog w = .ok (.enter 106 args) w := enters_of Try.func106 (by kernel_rfl) rfl
theorem height_eg : ∀ args w, (callFunc 105 args).run Try.prog w = .ok (.enter 105 args) w := enters_of Try.func105 (by kernel_rfl) rfl

theorem isLev_length {G : Gnd} {ts : List Int} (h : IsLev G ts) : ts.length = 81 := by
  obtain ⟨L, _, rfl⟩ := h
  simp [tabL]

set_option maxRecDepth 100000 in
set_option maxHeartbeats 1000000 in
theorem levels_any (G : Gnd) (hG : G.Ok) (V : ValidG G) (hne : G.gul ≠ []) (A : Option Addr) (c : Nat) (w : World) (hR : Rd w A (ccs G.gul)) :
    Calls Try.prog 56 #[gv G (.slice A G.gul.length c)] w fun e w' => ∃ ts, IsLev G ts ∧ e = .returned (.agg (hvl ts).toArray) ∧ Below w.heap.size w w' := by
  have hl := gcs_length hG (.slice A G.gul.length c)
  have S := St.refl w
  go_enter Try.func56, Try.ntmps56
  go_wp2_with (first
    | (refine W_box S rfl _ _ rfl (gv G (.slice A G.gul.length c)) rfl ?_; clear S; intro bg w' S; change St _ _ (EB _ _ (gcs G (.slice A G.gul.length c)) :: _) at S)
    | (refine W_alloc S rfl _ rfl _ Try.zeroValue25 ?_; clear S; intro bo w' S; change St _ _ (EB _ _ (hvl (List.replicate 81 0)) :: _) at S)
    | (refine W_loadN S rfl _ _ rfl _ _ rfl 1 _ _ rfl (gcs G (.slice A G.gul.length c)) Try.isAgg34 (by rw [hl]; exact Try.sizeOf34) (fun jq uq hq => by rw [Nat.zero_add]; exact hq) ?_)
    | (go_at_call 93; refine Calls.mono (spread_any G hG V A c G.h (fun n d => max n (G.h d)) 105 106 #[gv G (.slice A G.gul.length c)] #[] #[] #[.pointer (some ⟨bg, 0, none⟩)] _ (hR.st S) height_eg levels1_eg (fun d hd => V.h_le hd) (fun n d h0 hd => by have := V.h_le hd; omega) (fun d hd w' hb => height_any G hG _ d.1 d.2 (cell_range V hd).1 (cell_range V hd).2 w') (fun n d h0 h1 hd w' hb => levels1_any G hG _ n d.1 d.2 (cell_range V hd).1 (cell_range V hd).2 bg _ w w' _ (S.callB hb) 1 rfl)) ?_; rintro e w1 ⟨m, hm, rfl, hb⟩; replace S := S.callB hb; clear hb; have hm := Lib.hid hm; have htl := isLev_length (isLev_spread V hne hm.out))
    | (refine W_storeW S rfl _ _ _ rfl _ rfl 0 _ _ rfl (hvl (tableOf m)) rfl (by rw [hvl_length, htl]; exact Try.sizeOf25) (by rw [hvl_length, hvl_length, htl]; rfl) (hvl_one _) ?_; clear S; intro w' S; simp only [List.set_cons_zero, List.set_cons_succ] at S))
  exact W_ret_c rfl S _ rfl rfl 0 _ _ rfl Try.isAgg25 (by rw [hvl_length, htl]; exact Try.sizeOf25) ⟨tableOf m, isLev_spread V hne hm.out, rfl, S.below⟩

/-- The code of a ground that has to have gullies. -/
noncomputable def levCode (G : Gnd) : Int := if validB G = true then (if G.gul = [] then 6 else 0) else 1
theorem levCode_0 {G : Gnd} : levCode G = 0 ↔ ValidG G ∧ G.gul ≠ [] := by
  unfold levCode
  by_cases h : validB G = true
  · rw [if_pos h]
    by_cases h2 : G.gul = [] <;> simp [h2, validB_t.1 h]
  · rw [if_neg h]
    simp only [Int.reduceEq, false_iff, not_and]
    intro hv; exact absurd (validB_t.2 hv) h
/-- What is to be returned. -/
structure FillIs (G : Gnd) (ts : List Int) : Prop where
  yes : levCode G = 0 → IsLev G ts
  no : levCode G ≠ 0 → ts = List.replicate 81 0
theorem FillIs.unique {G : Gnd} {ts us : List Int} (h1 : FillIs G ts) (h2 : FillIs G us) : ts = us := by
  by_cases h : levCode G = 0
  · exact (h1.yes h).unique (h2.yes h)
  · rw [h1.no h, h2.no h]
theorem FillIs.length {G : Gnd} {ts : List Int} (h : FillIs G ts) : ts.length = 81 := by
  by_cases h0 : levCode G = 0
  · exact isLev_length (h.yes h0)
  · rw [h.no h0]; rfl

set_option maxRecDepth 100000 in
set_option maxHeartbeats 1000000 in
theorem levelCode_any (G : Gnd) (hG : G.Ok) (A : Option Addr) (c : Nat) (w : World) (hR : Rd w A (ccs G.gul)) :
    Calls Try.prog 55 #[gv G (.slice A G.gul.length c)] w fun e w' => e = .returned (.int .i64 (levCode G)) ∧ Below w.heap.size w w' := by
  have hl := gcs_length hG (.slice A G.gul.length c)
  have S := St.refl w
  have hvg := fun w' (hb : Below w.heap.size w w') => validGround_any G hG A c w' (hR.below hb)
  cases hv : validB G with
  | true =>
    rw [hv] at hvg
    have HC : Hid (levCode G = unlessI (decide (0 < G.gul.length)) 6) := by
      show levCode G = _
      unfold levCode unlessI
      rw [if_pos hv]
      cases G.gul <;> simp
    go_enter Try.func55, Try.ntmps55
    go_wp2_with (first
      | (refine W_box S rfl _ _ rfl (gv G (.slice A G.gul.length c)) rfl ?_; clear S; intro bg w' S; change St _ _ (EB _ _ (gcs G (.slice A G.gul.length c)) :: _) at S)
      | (refine W_loadN S rfl _ _ rfl _ _ rfl 0 _ _ rfl (gcs G (.slice A G.gul.length c)) Try.isAgg34 (by rw [hl]; exact Try.sizeOf34) (fun jq uq hq => by rw [Nat.zero_add]; exact hq) ?_)
      | (refine W_load1 S rfl _ _ rfl _ _ rfl 0 _ _ rfl (.slice A G.gul.length c) Try.isAgg32 (gcs_gul hG.len _) ?_)
      | (go_at_call 44; refine (hvg _ S.below).mono ?_; rintro e w1 ⟨rfl, hb⟩; replace S := S.callB hb; clear hb)
      | (go_at_call 104; refine (unless_any _ _ _).mono ?_; rintro e w1 ⟨rfl, rfl⟩))
    go_ret
    exact ⟨ret_i HC.out.symm, S.below⟩
  | false =>
    rw [hv] at hvg
    have HC : Hid (levCode G = 1) := by
      show levCode G = _
      unfold levCode
      rw [if_neg (by rw [hv]; simp)]
    go_enter Try.func55, Try.ntmps55
    go_wp2_with (first
      | (refine W_box S rfl _ _ rfl (gv G (.slice A G.gul.length c)) rfl ?_; clear S; intro bg w' S; change St _ _ (EB _ _ (gcs G (.slice A G.gul.length c)) :: _) at S)
      | (refine W_loadN S rfl _ _ rfl _ _ rfl 0 _ _ rfl (gcs G (.slice A G.gul.length c)) Try.isAgg34 (by rw [hl]; exact Try.sizeOf34) (fun jq uq hq => by rw [Nat.zero_add]; exact hq) ?_)
      | (go_at_call 44; refine (hvg _ S.below).mono ?_; rintro e w1 ⟨rfl, hb⟩; replace S := S.callB hb; clear hb))
    go_ret
    exact ⟨ret_i HC.out.symm, S.below⟩

set_option maxRecDepth 100000 in
set_option maxHeartbeats 1000000 in
theorem fillLevels_any (G : Gnd) (hG : G.Ok) (A : Option Addr) (c : Nat) (w : World) (hR : Rd w A (ccs G.gul)) :
    Calls Try.prog 13 #[gv G (.slice A G.gul.length c)] w fun e w' => ∃ ts, FillIs G ts ∧ e = .returned (.tuple #[.agg (hvl ts).toArray, .int .i64 (levCode G)]) ∧ Below w.heap.size w w' := by
  have hl := gcs_length hG (.slice A G.gul.length c)
  have S := St.refl w
  have hlc := fun w' (hb : Below w.heap.size w w') => levelCode_any G hG A c w' (hR.below hb)
  by_cases hv : levCode G = 0
  · obtain ⟨V, hne⟩ := levCode_0.1 hv
    have HV := Lib.hid hv
    rw [hv] at hlc; rw [hv]
    clear hv
    go_enter Try.func13, Try.ntmps13
    go_wp2_with (first
      | (refine W_box S rfl _ _ rfl (gv G (.slice A G.gul.length c)) rfl ?_; clear S; intro bg w' S; change St _ _ (EB _ _ (gcs G (.slice A G.gul.length c)) :: _) at S)
      | (refine W_alloc S rfl _ rfl _ Try.zeroValue25 ?_; clear S; intro bo w' S; change St _ _ (EB _ _ (hvl (List.replicate 81 0)) :: _) at S)
      | (refine W_loadN S rfl _ _ rfl _ _ rfl 1 _ _ rfl (gcs G (.slice A G.gul.length c)) Try.isAgg34 (by rw [hl]; exact Try.sizeOf34) (fun jq uq hq => by rw [Nat.zero_add]; exact hq) ?_)
      | (go_at_call 55; refine (hlc _ S.below).mono ?_; rintro e w1 ⟨rfl, hb⟩; replace S := S.callB hb; clear hb)
      | (go_at_call 56; refine Calls.mono (levels_any G hG V hne A c _ (hR.st S)) ?_; rintro e w1 ⟨ts, ht, rfl, hb⟩; replace S := S.callB hb; clear hb; have HT := Lib.hid ht; clear ht; have htl := isLev_length HT.out)
      | (refine W_storeW S rfl _ _ _ rfl _ rfl 0 _ _ rfl (hvl ts) rfl (by rw [hvl_length, htl]; exact Try.sizeOf25) (by rw [hvl_length, hvl_length, htl]; rfl) (hvl_one _) ?_; clear S; intro w' S; simp only [List.set_cons_zero, List.set_cons_succ] at S))
    exact W_ret_ct rfl S _ rfl _ rfl rfl 0 _ _ rfl Try.isAgg25 (by rw [hvl_length, htl]; exact Try.sizeOf25) ⟨ts, ⟨fun _ => HT.out, fun h => absurd HV.out h⟩, rfl, S.below⟩
  · have hne : (levCode G == 0) = false := by simpa using hv
    have HV := Lib.hid hv
    go_enter Try.func13, Try.ntmps13
    go_wp2_with (first
      | (refine W_box S rfl _ _ rfl (gv G (.slice A G.gul.length c)) rfl ?_; clear S; intro bg w' S; change St _ _ (EB _ _ (gcs G (.slice A G.gul.length c)) :: _) at S)
      | (refine W_alloc S rfl _ rfl _ Try.zeroValue25 ?_; clear S; intro bo w' S; change St _ _ (EB _ _ (hvl (List.replicate 81 0)) :: _) at S)
      | (refine W_loadN S rfl _ _ rfl _ _ rfl 1 _ _ rfl (gcs G (.slice A G.gul.length c)) Try.isAgg34 (by rw [hl]; exact Try.sizeOf34) (fun jq uq hq => by rw [Nat.zero_add]; exact hq) ?_)
      | (go_at_call 55; refine (hlc _ S.below).mono ?_; rintro e w1 ⟨rfl, hb⟩; replace S := S.callB hb; clear hb)
      | (refine W_storeW S rfl _ _ _ rfl _ rfl 0 _ _ rfl (hvl (List.replicate 81 0)) rfl (by exact Try.sizeOf25) (rfl) (hvl_one _) ?_; clear S; intro w' S; simp only [List.set_cons_zero, List.set_cons_succ] at S))
    exact W_ret_ct rfl S _ rfl _ rfl rfl 0 _ _ rfl Try.isAgg25 Try.sizeOf25 ⟨List.replicate 81 0, ⟨fun h => absurd h HV.out, fun _ => rfl⟩, rfl, S.below⟩
end Go.Proofs.Ytpfmmbdddecphaa
