/- The contract of ValidGround. -/
import Derived.Test.YtpfmmbdddecphaaGnd
namespace Go.Proofs.Ytpfmmbdddecphaa
open Go.RowKit Go.Sort
set_option linter.unusedVariables false
set_option linter.unusedSimpArgs false

def hvl (xs : List Int) : List Value := xs.map (Value.int .i16)
def rowl (hs : List Int) (y : Nat) : List Int := (hs.drop (y * 9)).take 9
theorem hvl_length (xs : List Int) : (hvl xs).length = xs.length := by simp [hvl]
theorem rowl_length {hs : List Int} (h : hs.length = 81) {y : Nat} (hy : y < 9) : (rowl hs y).length = 9 := by simp [rowl]; omega
theorem hvl_row (hs : List Int) (y : Nat) : hvl (rowl hs y) = ((hvl hs).drop (y * 9)).take 9 := by simp [hvl, rowl, List.map_take, List.map_drop]
theorem hvl_at {G : Gnd} (h : G.hs.length = 81) {x y : Nat} (hx : x < 9) (hy : y < 9) : (hvl (rowl G.hs y))[x]? = some (.int .i16 (G.at x y)) := by
  have e : (9 * (y : Int) + (x : Int)).toNat = y * 9 + x := by omega
  rw [hvl_row, List.getElem?_take, if_pos hx, List.getElem?_drop]
  simp only [hvl, List.getElem?_map, Gnd.at, e, List.getD_eq_getElem?_getD]
  rw [List.getElem?_eq_getElem (by omega)]
  rfl
theorem hvl_set {ts : List Int} {i : Nat} {v : Int} (h : i < ts.length) : hvl (ts.set i v) = (hvl ts).take i ++ [.int .i16 v] ++ (hvl ts).drop (i + 1) := by
  rw [set_eq_splice _ _ _ (by rw [hvl_length]; exact h)]
  simp [hvl, List.map_set]

theorem hvl_one (xs : List Int) : ∀ u ∈ hvl xs, u.oneCell' = true := by
  intro u hu
  simp only [hvl, List.mem_map] at hu
  obtain ⟨x, _, rfl⟩ := hu
  rfl
theorem gcs_h {G : Gnd} (v : Value) : gcs G v = .int .i8 G.wide :: .int .i8 G.high :: (hvl G.hs ++ [v]) := rfl
theorem gcs_heights {G : Gnd} (v : Value) : ∀ j u, (hvl G.hs)[j]? = some u → (gcs G v)[2 + j]? = some u := by
  intro j u hu
  have hj : j < (hvl G.hs).length := by
    rcases Nat.lt_or_ge j (hvl G.hs).length with h | h
    · exact h
    · rw [List.getElem?_eq_none h] at hu; cases hu
  rw [gcs_h, show 2 + j = (j + 1) + 1 by omega, List.getElem?_cons_succ, List.getElem?_cons_succ, List.getElem?_append_left hj]
  exact hu
theorem gcs_gul {G : Gnd} (h : G.hs.length = 81) (v : Value) : (gcs G v)[83]? = some v := by
  rw [gcs_h, List.getElem?_cons_succ, List.getElem?_cons_succ, List.getElem?_append_right (by simp [hvl, h])]
  simp [hvl, h]
theorem Gnd.Ok.at {G : Gnd} (h : G.Ok) (x y : Int) : -32768 ≤ G.at x y ∧ G.at x y ≤ 32767 := by
  unfold Gnd.at
  rw [List.getD_eq_getElem?_getD]
  cases hq : G.hs[(9 * y + x).toNat]? with
  | none => simp
  | some u => exact h.hs u (List.mem_of_getElem? hq)

/-- What valid is. -/
structure ValidG (G : Gnd) : Prop where
  wide : 1 ≤ G.wide ∧ G.wide ≤ 9
  high : 1 ≤ G.high ∧ G.high ≤ 9
  many : G.gul.length ≤ 8
  hs : ∀ x y : Nat, x < 9 → y < 9 → 0 ≤ G.at x y ∧ G.at x y ≤ if isCellB G.wide G.high ((x : Int), (y : Int)) = true then 200 else 0
  gul : ∀ i : Nat, ∀ c, G.gul[i]? = some c → isCellB G.wide G.high c = true
  rise : ∀ i : Nat, ∀ c d, G.gul[i]? = some c → G.gul[i + 1]? = some d → cmpC c d < 0
open Classical in
noncomputable def validB (G : Gnd) : Bool := decide (ValidG G)
theorem validB_t {G : Gnd} : validB G = true ↔ ValidG G := by simp [validB]
theorem validB_f {G : Gnd} : validB G = false ↔ ¬ ValidG G := by simp [validB]

def Row9 (G : Gnd) (y : Nat) : Prop := ∀ x : Nat, x < 9 → 0 ≤ G.at x y ∧ G.at x y ≤ if isCellB G.wide G.high ((x : Int), (y : Int)) = true then 200 else 0

theorem row_ok_of (G : Gnd) (x y : Nat) (h : within (G.at x y) 0 (if isCellB G.wide G.high ((x : Int), (y : Int)) = true then 200 else 0) = true) : 0 ≤ G.at x y ∧ G.at x y ≤ if isCellB G.wide G.high ((x : Int), (y : Int)) = true then 200 else 0 := within_t.1 h

def GulOk (G : Gnd) (i : Nat) : Prop := (∀ c, G.gul[i]? = some c → isCellB G.wide G.high c = true) ∧ ∀ c d, 0 < i → G.gul[i - 1]? = some c → G.gul[i]? = some d → cmpC c d < 0
theorem vg_bad {G : Gnd} {x y : Nat} (hx : x < 9) (hy : y < 9) (hc : isCellB G.wide G.high ((x : Int), (y : Int)) = true) (h : (!within (G.at x y) 0 200) = true) : validB G = false :=
  validB_f.2 fun V => by
    have := V.hs x y hx hy
    rw [if_pos hc] at this
    simp [within] at h; omega
theorem vg_bad' {G : Gnd} {x y : Nat} (hx : x < 9) (hy : y < 9) (hc : isCellB G.wide G.high ((x : Int), (y : Int)) = false) (h : (!within (G.at x y) 0 0) = true) : validB G = false :=
  validB_f.2 fun V => by
    have := V.hs x y hx hy
    rw [if_neg (by rw [hc]; simp)] at this
    simp [within] at h; omega
theorem vg_good {G : Gnd} {x y : Nat} (hc : isCellB G.wide G.high ((x : Int), (y : Int)) = true) (h : (!within (G.at x y) 0 200) = false) : 0 ≤ G.at x y ∧ G.at x y ≤ if isCellB G.wide G.high ((x : Int), (y : Int)) = true then 200 else 0 := by
  rw [if_pos hc]; simp [within] at h; omega
theorem vg_good' {G : Gnd} {x y : Nat} (hc : isCellB G.wide G.high ((x : Int), (y : Int)) = false) (h : (!within (G.at x y) 0 0) = false) : 0 ≤ G.at x y ∧ G.at x y ≤ if isCellB G.wide G.high ((x : Int), (y : Int)) = true then 200 else 0 := by
  rw [if_neg (by rw [hc]; simp)]; simp [within] at h; omega
theorem vg_more {p : Nat → Prop} {x : Nat} (h : ∀ x', x' < x → p x') (hx : p x) : ∀ x', x' < x + 1 → p x' := fun x' h' => by
  rcases Nat.lt_or_ge x' x with h1 | h1
  · exact h x' h1
  · have : x' = x := by omega
    subst this; exact hx
theorem vg_row {G : Gnd} {y : Nat} (h : ∀ y', y' < y → Row9 G y') (hx : Row9 G y) : ∀ y', y' < y + 1 → Row9 G y' := vg_more h hx

theorem gk_0 {G : Gnd} {d : Pt} (h : G.gul[0]? = some d) (hc : isCellB G.wide G.high d = true) : GulOk G 0 :=
  ⟨fun c h' => by rw [h] at h'; injection h' with h'; subst h'; exact hc, fun c d h => absurd h (by omega)⟩
theorem gk_s {G : Gnd} {k : Nat} {d p : Pt} (h : G.gul[k]? = some d) (hc : isCellB G.wide G.high d = true) (hp : G.gul[k - 1]? = some p) (hlt : cmpC p d < 0) : GulOk G k :=
  ⟨fun c h' => by rw [h] at h'; injection h' with h'; subst h'; exact hc, fun c e _ h1 h2 => by
    rw [hp] at h1; rw [h] at h2; injection h1 with h1; injection h2 with h2; subst h1 h2; exact hlt⟩
theorem gk_bad1 {G : Gnd} {k : Nat} {d : Pt} (h : G.gul[k]? = some d) (hc : ¬ isCellB G.wide G.high d = true) : validB G = false :=
  validB_f.2 fun V => hc (V.gul k d h)
theorem gk_bad2 {G : Gnd} {k : Nat} {d p : Pt} (h : G.gul[k]? = some d) (h0 : ¬ k = 0) (hp : G.gul[k - 1]? = some p) (hlt : ¬ cmpC p d < 0) : validB G = false :=
  validB_f.2 fun V => hlt (V.rise (k - 1) p d hp (by rw [show k - 1 + 1 = k by omega]; exact h))
theorem gk_all {G : Gnd} (h1 : within G.wide 1 9 = true) (h2 : within G.high 1 9 = true) (h3 : G.gul.length ≤ 8) (HR : ∀ y', y' < 9 → Row9 G y') (HK : ∀ i, i < G.gul.length → GulOk G i) : validB G = true :=
  validB_t.2 ⟨within_t.1 h1, within_t.1 h2, h3, fun x y hx hy => HR y hy x hx, fun i c hc => (HK i (by
      rcases Nat.lt_or_ge i G.gul.length with h | h
      · exact h
      · rw [List.getElem?_eq_none h] at hc; cases hc)).1 c hc, fun i c d hc hd => (HK (i + 1) (by
      rcases Nat.lt_or_ge (i + 1) G.gul.length with h | h
      · exact h
      · rw [List.getElem?_eq_none h] at hd; cases hd)).2 c d (by omega) (by simpa using hc) hd⟩
theorem gk_no1 {G : Gnd} (h : ¬ within G.wide 1 9 = true) : validB G = false := validB_f.2 fun V => h (within_t.2 V.wide)
theorem gk_no2 {G : Gnd} (h : ¬ within G.high 1 9 = true) : validB G = false := validB_f.2 fun V => h (within_t.2 V.high)
theorem gk_no3 {G : Gnd} (h : ¬ G.gul.length ≤ 8) : validB G = false := validB_f.2 fun V => h V.many

set_option maxRecDepth 100000 in
set_option maxHeartbeats 1000000 in
theorem validGround_any (G : Gnd) (hG : G.Ok) (A : Option Addr) (c : Nat) (w : World) (hR : Rd w A (ccs G.gul)) :
    Calls Try.prog 44 #[gv G (.slice A G.gul.length c)] w fun e w' => e = .returned (.bool (validB G)) ∧ Below w.heap.size w w' := by
  have hl := gcs_length hG (.slice A G.gul.length c)
  have S := St.refl w
  have b1 := hG.wide
  have b2 := hG.high
  by_cases h1 : within G.wide 1 9 = true
  · by_cases h2 : within G.high 1 9 = true
    · by_cases h3 : G.gul.length ≤ 8
      · go_enter Try.func44, Try.ntmps44
        go_wp2_with (first
          | (refine W_box S rfl _ _ rfl (gv G (.slice A G.gul.length c)) rfl ?_; clear S; intro bg w' S; change St _ _ (EB _ _ (gcs G (.slice A G.gul.length c)) :: _) at S) | (refine W_load1 S rfl _ _ rfl _ _ rfl 0 _ _ rfl _ Try.isAgg22 rfl ?_) | (refine W_load1 S rfl _ _ rfl _ _ rfl 0 _ _ rfl (.slice A G.gul.length c) Try.isAgg32 (gcs_gul hG.len _) ?_) | (refine W_loadN S rfl _ _ rfl _ 2 rfl 0 _ _ rfl (hvl G.hs) Try.isAgg25 (by rw [hvl_length, hG.len]; exact Try.sizeOf25) (gcs_heights _) ?_) | (go_at_call 68; refine (within_any _ _ _ _).mono ?_; rintro e w1 ⟨rfl, rfl⟩))
        go_loopw [30] (fun i wr => ∃ y : Nat, y ≤ 9 ∧ i = .int .i64 y ∧ Hid (∀ y', y' < y → Row9 G y') ∧ St w wr [EB bg 34 (gcs G (.slice A G.gul.length c))]) (fun i _ => 9 - (intOf i).toNat)
        case atStart => exact ⟨0, by omega, rfl, fun y' h => absurd h (by omega), S⟩
        case round =>
          obtain ⟨y, hy, rfl, HR, S⟩ := hrel
          by_cases hlt : y < 9
          · go_wp2_with (first
              | (refine W_idxN rfl _ _ _ rfl (hvl G.hs) rfl _ rfl _ _ Try.underlying25 _ Try.isAgg24 Try.sizeOf24 ?_ ?_ (hvl (rowl G.hs y)) ?_ ?_; omega; omega; exact hvl_row _ _)
              | (refine W_alloc S rfl _ rfl _ Try.zeroValue24 ?_; clear S; intro br w' S; change St _ _ (EB _ _ (hvl (List.replicate 9 0)) :: _) at S)
              | (refine W_storeW S rfl _ _ _ rfl _ rfl 0 _ _ rfl (hvl (rowl G.hs y)) rfl (by rw [hvl_length, rowl_length hG.len hlt]; exact Try.sizeOf24) (by rw [hvl_length, hvl_length, rowl_length hG.len hlt]; rfl) (hvl_one _) ?_; clear S; intro w' S; simp only [List.set_cons_zero, List.set_cons_succ] at S)
              | (refine W_loadN S rfl _ _ rfl _ _ rfl 0 _ _ rfl (hvl (rowl G.hs y)) Try.isAgg24 (by rw [hvl_length, rowl_length hG.len hlt]; exact Try.sizeOf24) (fun jq uq hq => by rw [Nat.zero_add]; exact hq) ?_))
            go_loopw [35] (fun i wr => ∃ x : Nat, x ≤ 9 ∧ i = .int .i64 x ∧ Hid (∀ x', x' < x → 0 ≤ G.at x' y ∧ G.at x' y ≤ if isCellB G.wide G.high ((x' : Int), (y : Int)) = true then 200 else 0) ∧ St w wr [EB br 24 (hvl (rowl G.hs y)), EB bg 34 (gcs G (.slice A G.gul.length c))]) (fun i _ => 9 - (intOf i).toNat)
            case atStart => exact ⟨0, by omega, rfl, fun y' h => absurd h (by omega), S⟩
            case round =>
              obtain ⟨x, hx, rfl, HX, S⟩ := hrel
              by_cases hxl : x < 9
              · have b3 := hG.at x y
                go_wp2_with (first
                  | (refine W_idx1 rfl _ _ _ rfl (hvl (rowl G.hs y)) rfl _ rfl _ _ Try.underlying24 Try.isAgg23 Try.sizeOf23 ?_ ?_ (.int .i16 (G.at x y)) ?_ ?_; omega; omega; exact hvl_at hG.len hxl hlt)
                  | (refine W_loadN S rfl _ _ rfl _ _ rfl 1 _ _ rfl (gcs G (.slice A G.gul.length c)) Try.isAgg34 (by rw [hl]; exact Try.sizeOf34) (fun jq uq hq => by rw [Nat.zero_add]; exact hq) ?_)
                  | (go_at_call 91; refine (isPt_any G hG _ x y (by omega) (by omega) _).mono ?_; rintro e w1 ⟨rfl, hb⟩; replace S := S.callB hb; clear hb)
                  | (go_at_call 68; refine (within_any _ _ _ _).mono ?_; rintro e w1 ⟨rfl, rfl⟩))
                all_goals first
                  | (go_ret; exact ⟨ret_b (vg_bad hxl hlt (by assumption) (by assumption)).symm, S.below⟩)
                  | (go_ret; exact ⟨ret_b (vg_bad' hxl hlt (by assumption) (by assumption)).symm, S.below⟩)
                  | (refine ⟨⟨x + 1, by omega, by go_num, vg_more HX.out (vg_good (by assumption) (by assumption)), S⟩, ?_⟩; simp [intOf]; omega)
                  | (refine ⟨⟨x + 1, by omega, by go_num, vg_more HX.out (vg_good' (by assumption) (by assumption)), S⟩, ?_⟩; simp [intOf]; omega)
              · have hx9 : x = 9 := by omega
                subst hx9
                go_wp2
                refine ⟨⟨y + 1, by omega, by go_num, vg_row HR.out HX.out, S.tail⟩, ?_⟩
                simp [intOf]; omega
          · have hy9 : y = 9 := by omega
            subst hy9
            go_wp2_with (first
              | (refine W_load1 S rfl _ _ rfl _ _ rfl 0 _ _ rfl (.slice A G.gul.length c) Try.isAgg32 (gcs_gul hG.len _) ?_))
            go_loopw [56] (fun i wr => ∃ k : Nat, k ≤ G.gul.length ∧ i = .int .i64 k ∧ Hid (∀ i, i < k → GulOk G i) ∧ St w wr [EB bg 34 (gcs G (.slice A G.gul.length c))]) (fun i _ => G.gul.length - (intOf i).toNat)
            case atStart => exact ⟨0, by omega, rfl, fun y' h => absurd h (by omega), S⟩
            case round =>
              obtain ⟨k, hk, rfl, HK, S⟩ := hrel
              by_cases hkl : k < G.gul.length
              · obtain ⟨d, hd⟩ : ∃ d, G.gul[k]? = some d := ⟨_, List.getElem?_eq_getElem hkl⟩
                have hdr := hG.gul d (List.mem_of_getElem? hd)
                obtain ⟨d1, d2⟩ := d
                have HD := Lib.hid hd; clear hd
                go_wp2_with (first
                  | (refine W_index rfl _ _ _ rfl _ _ _ rfl _ rfl _ Try.underlying32 _ Try.sizeOf43 ?_ ?_ ?_ ?_; omega; omega; exact (hR.1 (ccs_ne HD.out)); intro bi oi hAi; subst hAi)
                  | (refine W_elem cenc rfl _ _ rfl bi oi (k) 2 ?_ (G.gul) ?_ (fun _ => rfl) ((d1, d2)) ?_ Try.isAgg43 Try.sizeOf43 ?_; rfl; exact (hR.st S); exact HD.out)
                  | (refine W_alloc S rfl _ rfl _ Try.zeroValue43 ?_; clear S; intro bc w' S; change St _ _ (EB _ _ ([.int .i8 0, .int .i8 0]) :: _) at S) | (refine W_storeN S rfl _ _ _ rfl _ _ rfl 0 _ _ rfl (.agg #[.int .i8 d1, .int .i8 d2]) rfl Try.sizeOf43 (one_cells rfl) [.int .i8 d1, .int .i8 d2] (Nat.le_refl _) rfl ?_; clear S; intro w' S; simp only [List.set_cons_zero, List.set_cons_succ] at S))
                have hcl := isPt_any G hG (.slice (some ⟨bi, oi, none⟩) G.gul.length c) d1 d2 hdr.1 hdr.2
                by_cases hc : isCellB G.wide G.high (d1, d2) = true
                · simp only [hc] at hcl
                  by_cases hk0 : k = 0
                  · subst hk0
                    refine wp_region_mix (by kernel_rfl) (by kernel_rfl) ?_
                    repeat (first
                      | go_big_quiet_skip | (go_big_quiet_want; refine Q_loadN S _ _ rfl _ _ rfl 1 _ _ rfl (gcs G (.slice (some ⟨bi, oi, none⟩) G.gul.length c)) Try.isAgg34 (by rw [hl]; exact Try.sizeOf34) (fun jq uq hq => by rw [Nat.zero_add]; exact hq) ?_; simp only [Act.put, List.setIfInBounds_toArray, List.set_cons_succ, List.set_cons_zero]; go_big_quiet_on) | (go_big_quiet_want; refine Q_loadN S _ _ rfl _ _ rfl 0 _ _ rfl ([.int .i8 d1, .int .i8 d2]) Try.isAgg43 Try.sizeOf43 (fun jq uq hq => by rw [Nat.zero_add]; exact hq) ?_; simp only [Act.put, List.setIfInBounds_toArray, List.set_cons_succ, List.set_cons_zero]; go_big_quiet_on)
                      | (go_big_quiet_want; refine Q_load1 S _ _ rfl _ _ rfl 1 _ _ rfl (.slice (some ⟨bi, oi, none⟩) G.gul.length c) Try.isAgg32 (gcs_gul hG.len _) ?_; simp only [Act.put, List.setIfInBounds_toArray, List.set_cons_succ, List.set_cons_zero]; go_big_quiet_on)
                      | (go_big_quiet_want; go_big_quiet_op; go_big_quiet_on)
                      | (go_big_quiet_want; go_big_quiet_op; go_big_quiet_call (first | exact calls_mix (hcl _))))
                    refine wpQuiet_nil ?_
                    intro _ hw'
                    obtain ⟨⟨nq, osq⟩, rfl⟩ := hw'
                    replace S := S.callB (mix_below _ nq osq)
                    generalize grow (sd _ nq) osq = wq at S ⊢
                    go_wp2
                    refine ⟨⟨0 + 1, by omega, by go_num, vg_more HK.out (gk_0 HD.out hc), S.tail⟩, ?_⟩
                    simp [intOf]; omega
                  · obtain ⟨cp, hcp⟩ : ∃ d, G.gul[k - 1]? = some d := ⟨_, List.getElem?_eq_getElem (by omega)⟩
                    have HP := Lib.hid hcp; clear hcp
                    have hkd : decide (0 < k) = true := by simp; omega
                    have hkm : ((k : Int) - 1).toNat = k - 1 := by omega
                    refine wp_region_mix (by kernel_rfl) (by kernel_rfl) ?_
                    repeat (first
                      | go_big_quiet_skip | (go_big_quiet_want; refine Q_loadN S _ _ rfl _ _ rfl 1 _ _ rfl (gcs G (.slice (some ⟨bi, oi, none⟩) G.gul.length c)) Try.isAgg34 (by rw [hl]; exact Try.sizeOf34) (fun jq uq hq => by rw [Nat.zero_add]; exact hq) ?_; simp only [Act.put, List.setIfInBounds_toArray, List.set_cons_succ, List.set_cons_zero]; go_big_quiet_on) | (go_big_quiet_want; refine Q_loadN S _ _ rfl _ _ rfl 0 _ _ rfl ([.int .i8 d1, .int .i8 d2]) Try.isAgg43 Try.sizeOf43 (fun jq uq hq => by rw [Nat.zero_add]; exact hq) ?_; simp only [Act.put, List.setIfInBounds_toArray, List.set_cons_succ, List.set_cons_zero]; go_big_quiet_on)
                      | (go_big_quiet_want; refine Q_load1 S _ _ rfl _ _ rfl 1 _ _ rfl (.slice (some ⟨bi, oi, none⟩) G.gul.length c) Try.isAgg32 (gcs_gul hG.len _) ?_; simp only [Act.put, List.setIfInBounds_toArray, List.set_cons_succ, List.set_cons_zero]; go_big_quiet_on)
                      | (rw [hkd]) | (rw [hkm]) | (go_big_quiet_want; refine Q_index _ _ _ rfl bi oi _ _ rfl (k - 1) ?_ _ Try.underlying32 _ Try.sizeOf43 ?_ ?_ ?_; rfl; omega; omega; simp only [Act.put, List.setIfInBounds_toArray, List.set_cons_succ, List.set_cons_zero]; go_big_quiet_on) | (go_big_quiet_want; refine Q_elem cenc _ _ rfl bi oi (k - 1) 2 ?_ (G.gul) ?_ (fun _ => rfl) (cp) ?_ Try.isAgg43 Try.sizeOf43 ?_; rfl; exact (hR.st S); exact HP.out; simp only [Act.put, List.setIfInBounds_toArray, List.set_cons_succ, List.set_cons_zero]; go_big_quiet_on) | (go_big_quiet_want; go_big_quiet_op; go_big_quiet_on)
                      | (go_big_quiet_want; go_big_quiet_op; go_big_quiet_call (first | exact calls_mix (hcl _) | exact calls_mix (compareCells_any cp (d1, d2) _))))
                    refine wpQuiet_nil ?_
                    intro _ hw'
                    obtain ⟨⟨nq, osq⟩, rfl⟩ := hw'
                    replace S := S.callB (mix_below _ nq osq)
                    generalize grow (sd _ nq) osq = wq at S ⊢
                    go_wp2
                    · go_ret; exact ⟨ret_b (gk_bad2 HD.out hk0 HP.out (by omega)).symm, S.below⟩
                    · refine ⟨⟨k + 1, by omega, by go_num, vg_more HK.out (gk_s HD.out hc HP.out (by assumption)), S.tail⟩, ?_⟩
                      simp [intOf]; omega
                · simp only [hc] at hcl
                  refine wp_region_mix (by kernel_rfl) (by kernel_rfl) ?_
                  repeat (first
                    | go_big_quiet_skip | (go_big_quiet_want; refine Q_loadN S _ _ rfl _ _ rfl 1 _ _ rfl (gcs G (.slice (some ⟨bi, oi, none⟩) G.gul.length c)) Try.isAgg34 (by rw [hl]; exact Try.sizeOf34) (fun jq uq hq => by rw [Nat.zero_add]; exact hq) ?_; simp only [Act.put, List.setIfInBounds_toArray, List.set_cons_succ, List.set_cons_zero]; go_big_quiet_on) | (go_big_quiet_want; refine Q_loadN S _ _ rfl _ _ rfl 0 _ _ rfl ([.int .i8 d1, .int .i8 d2]) Try.isAgg43 Try.sizeOf43 (fun jq uq hq => by rw [Nat.zero_add]; exact hq) ?_; simp only [Act.put, List.setIfInBounds_toArray, List.set_cons_succ, List.set_cons_zero]; go_big_quiet_on)
                    | (go_big_quiet_want; refine Q_load1 S _ _ rfl _ _ rfl 1 _ _ rfl (.slice (some ⟨bi, oi, none⟩) G.gul.length c) Try.isAgg32 (gcs_gul hG.len _) ?_; simp only [Act.put, List.setIfInBounds_toArray, List.set_cons_succ, List.set_cons_zero]; go_big_quiet_on)
                    | (go_big_quiet_want; go_big_quiet_op; go_big_quiet_on)
                    | (go_big_quiet_want; go_big_quiet_op; go_big_quiet_call (first | exact calls_mix (hcl _))))
                  refine wpQuiet_nil ?_
                  intro _ hw'
                  obtain ⟨⟨nq, osq⟩, rfl⟩ := hw'
                  replace S := S.callB (mix_below _ nq osq)
                  generalize grow (sd _ nq) osq = wq at S ⊢
                  go_wp2
                  go_ret; exact ⟨ret_b (gk_bad1 HD.out hc).symm, S.below⟩
              · have hke : k = G.gul.length := by omega
                subst hke
                go_wp2
                go_ret; exact ⟨ret_b (gk_all h1 h2 h3 HR.out HK.out).symm, S.below⟩
      · go_enter Try.func44, Try.ntmps44
        go_wp2_with (first
          | (refine W_box S rfl _ _ rfl (gv G (.slice A G.gul.length c)) rfl ?_; clear S; intro bg w' S; change St _ _ (EB _ _ (gcs G (.slice A G.gul.length c)) :: _) at S) | (refine W_load1 S rfl _ _ rfl _ _ rfl 0 _ _ rfl _ Try.isAgg22 rfl ?_) | (refine W_load1 S rfl _ _ rfl _ _ rfl 0 _ _ rfl (.slice A G.gul.length c) Try.isAgg32 (gcs_gul hG.len _) ?_) | (go_at_call 68; refine (within_any _ _ _ _).mono ?_; rintro e w1 ⟨rfl, rfl⟩))
        go_ret; exact ⟨ret_b (gk_no3 h3).symm, S.below⟩
    · have h2' : within G.high 1 9 = false := by simpa using h2
      go_enter Try.func44, Try.ntmps44
      go_wp2_with (first
        | (refine W_box S rfl _ _ rfl (gv G (.slice A G.gul.length c)) rfl ?_; clear S; intro bg w' S; change St _ _ (EB _ _ (gcs G (.slice A G.gul.length c)) :: _) at S) | (refine W_load1 S rfl _ _ rfl _ _ rfl 0 _ _ rfl _ Try.isAgg22 rfl ?_) | (go_at_call 68; refine (within_any _ _ _ _).mono ?_; rintro e w1 ⟨rfl, rfl⟩))
      go_ret; exact ⟨ret_b (gk_no2 h2).symm, S.below⟩
  · have h1' : within G.wide 1 9 = false := by simpa using h1
    go_enter Try.func44, Try.ntmps44
    go_wp2_with (first
      | (refine W_box S rfl _ _ rfl (gv G (.slice A G.gul.length c)) rfl ?_; clear S; intro bg w' S; change St _ _ (EB _ _ (gcs G (.slice A G.gul.length c)) :: _) at S) | (refine W_load1 S rfl _ _ rfl _ _ rfl 0 _ _ rfl _ Try.isAgg22 rfl ?_) | (go_at_call 68; refine (within_any _ _ _ _).mono ?_; rintro e w1 ⟨rfl, rfl⟩))
    go_ret; exact ⟨ret_b (gk_no1 h1).symm, S.below⟩
end Go.Proofs.Ytpfmmbdddecphaa
