/- How much a ground is raised: raised, PoolSum of the program and of the reference. -/
import Derived.Test.YtpfmmbdddecphaaHeld
import Derived.Test.YtpfmmbdddecphaaSpecF
namespace Go.Proofs.Ytpfmmbdddecphaa
open Go.RowKit Go.Sort
set_option linter.unusedVariables false
set_option linter.unusedSimpArgs false

def dif (G : Gnd) (ts : List Int) (i : Nat) : Int := ts.getD i 0 - G.hs.getD i 0
def psum (G : Gnd) (ts : List Int) (n : Nat) : Int := ((List.range n).map (dif G ts)).sum
def bitI (b : Bool) : Int := if b = true then 1 else 0
def bdif (G : Gnd) (ts : List Int) (i : Nat) : Bool := decide (G.hs.getD i 0 < ts.getD i 0)
def pcnt (G : Gnd) (ts : List Int) (n : Nat) : Int := ((List.range n).map fun i => bitI (bdif G ts i)).sum
theorem psum_succ (G : Gnd) (ts : List Int) (n : Nat) : psum G ts (n + 1) = psum G ts n + dif G ts n := by simp [psum, List.range_succ]
theorem pcnt_succ (G : Gnd) (ts : List Int) (n : Nat) : pcnt G ts (n + 1) = pcnt G ts n + bitI (bdif G ts n) := by simp [pcnt, List.range_succ]
theorem bitI_le (b : Bool) : 0 ≤ bitI b ∧ bitI b ≤ 1 := by unfold bitI; split <;> omega

theorem levG_h {G : Gnd} (V : ValidG G) : LevG G G.h := ⟨fun g _ => Int.le_refl _, fun c hc => (V.h_le hc).2, fun c _ d _ => by omega⟩
theorem hs_at (G : Gnd) (i : Nat) (hi : i < 81) : G.hs.getD i 0 = G.at ((i % 9 : Nat) : Int) ((i / 9 : Nat) : Int) := by
  unfold Gnd.at
  congr 1
  omega
theorem lev_bound {G : Gnd} {ts : List Int} (V : ValidG G) (h : IsLev G ts) (i : Nat) (hi : i < 81) : 0 ≤ G.hs.getD i 0 ∧ G.hs.getD i 0 ≤ ts.getD i 0 ∧ ts.getD i 0 ≤ 200 := by
  obtain ⟨L, hL, rfl⟩ := h
  rw [hs_at G i hi]
  have e : (tabL G L).getD i 0 = if isCellB G.wide G.high (((i % 9 : Nat) : Int), ((i / 9 : Nat) : Int)) = true then L (((i % 9 : Nat) : Int), ((i / 9 : Nat) : Int)) else 0 := by
    simp only [tabL, List.getD_eq_getElem?_getD, List.getElem?_map, List.getElem?_range hi, Option.map_some, Option.getD_some]
  have hv := V.hs (i % 9) (i / 9) (by omega) (by omega)
  rw [e]
  by_cases hc : isCellB G.wide G.high (((i % 9 : Nat) : Int), ((i / 9 : Nat) : Int)) = true
  · rw [if_pos hc] at hv ⊢
    have h1 := hL.hi _ hc
    have h2 := hL.top _ (levG_h V) _ hc
    have h3 : G.h (((i % 9 : Nat) : Int), ((i / 9 : Nat) : Int)) = G.at ((i % 9 : Nat) : Int) ((i / 9 : Nat) : Int) := rfl
    omega
  · rw [if_neg hc] at hv ⊢
    omega
theorem dif_range {G : Gnd} {ts : List Int} (V : ValidG G) (h : IsLev G ts) (i : Nat) (hi : i < 81) : 0 ≤ dif G ts i ∧ dif G ts i ≤ 200 := by
  have := lev_bound V h i hi
  unfold dif; omega
theorem psum_range {G : Gnd} {ts : List Int} (V : ValidG G) (h : IsLev G ts) : ∀ n : Nat, n ≤ 81 → 0 ≤ psum G ts n ∧ psum G ts n ≤ 200 * n
  | 0, _ => by simp [psum]
  | n + 1, hn => by
    have := psum_range V h n (by omega)
    have := dif_range V h n (by omega)
    rw [psum_succ]; omega
theorem pcnt_range (G : Gnd) (ts : List Int) : ∀ n : Nat, 0 ≤ pcnt G ts n ∧ pcnt G ts n ≤ n
  | 0 => by simp [pcnt]
  | n + 1 => by
    have := pcnt_range G ts n
    have := bitI_le (bdif G ts n)
    rw [pcnt_succ]; omega

set_option maxHeartbeats 400000 in
theorem bit_any (b : Bool) (w : World) :
    Calls Try.prog 98 #[.bool b] w fun e w' => e = .returned (.int .i64 (bitI b)) ∧ w = w' := by
  cases b
  all_goals
    go_enter Try.func98, Try.ntmps98
    go_wp2
    go_ret
    exact ⟨rfl, rfl⟩

theorem hvl_row_at {ts : List Int} (h : ts.length = 81) {x y : Nat} (hx : x < 9) (hy : y < 9) : (hvl (rowl ts y))[x]? = some (.int .i16 (ts.getD (y * 9 + x) 0)) := by
  rw [hvl_row, List.getElem?_take, if_pos hx, List.getElem?_drop]
  simp only [hvl, List.getElem?_map, List.getD_eq_getElem?_getD]
  rw [List.getElem?_eq_getElem (by omega)]
  rfl
theorem hvl_at81 {ts : List Int} (h : ts.length = 81) {i : Nat} (hi : i < 81) : (hvl ts)[i]? = some (.int .i16 (ts.getD i 0)) := by
  simp only [hvl, List.getElem?_map, List.getD_eq_getElem?_getD]
  rw [List.getElem?_eq_getElem (by omega)]
  rfl
theorem gcs_at81 {G : Gnd} (h : G.hs.length = 81) (v : Value) {i : Nat} (hi : i < 81) : (gcs G v)[2 + i]? = some (.int .i16 (G.hs.getD i 0)) := gcs_heights v _ _ (hvl_at81 h hi)
theorem gcs_at9 {G : Gnd} (h : G.hs.length = 81) (v : Value) {x y : Nat} (hx : x < 9) (hy : y < 9) : (gcs G v)[2 + y * 9 + x]? = some (.int .i16 (G.hs.getD (y * 9 + x) 0)) := by
  rw [Nat.add_assoc]; exact gcs_at81 h v (by omega)

theorem at81 {G : Gnd} {ts : List Int} (hG : G.Ok) (V : ValidG G) (h : IsLev G ts) (i : Nat) (hi : i < 81) : ∃ t0 h0 : Int, ts[i]? = some t0 ∧ G.hs[i]? = some h0 ∧ dif G ts i = t0 - h0 ∧ bdif G ts i = decide (h0 < t0) ∧ 0 ≤ h0 ∧ h0 ≤ t0 ∧ t0 ≤ 200 := by
  have hl := isLev_length h
  have hb := lev_bound V h i hi
  have e1 : ts[i]? = some (ts.getD i 0) := by rw [List.getD_eq_getElem?_getD, List.getElem?_eq_getElem (by omega)]; rfl
  have e2 : G.hs[i]? = some (G.hs.getD i 0) := by rw [List.getD_eq_getElem?_getD, List.getElem?_eq_getElem (by rw [hG.len]; omega)]; rfl
  exact ⟨_, _, e1, e2, rfl, rfl, hb⟩
theorem hvl_row_some {ts : List Int} {x y : Nat} {t0 : Int} (hy : y < 9) (hx : x < 9) (h : ts[y * 9 + x]? = some t0) : (hvl (rowl ts y))[x]? = some (.int .i16 t0) := by
  rw [hvl_row, List.getElem?_take, if_pos hx, List.getElem?_drop]
  simp only [hvl, List.getElem?_map, h]; rfl
theorem hvl_some {ts : List Int} {i : Nat} {t0 : Int} (h : ts[i]? = some t0) : (hvl ts)[i]? = some (.int .i16 t0) := by
  simp only [hvl, List.getElem?_map, h]; rfl
theorem gcs_some {G : Gnd} {v : Value} {x y : Nat} {t0 : Int} (h : G.hs[y * 9 + x]? = some t0) : (gcs G v)[2 + y * 9 + x]? = some (.int .i16 t0) := by
  rw [Nat.add_assoc]; exact gcs_heights v _ _ (hvl_some h)

set_option maxRecDepth 100000 in
set_option maxHeartbeats 1000000 in
theorem raised_any (G : Gnd) (hG : G.Ok) (V : ValidG G) (hne : G.gul ≠ []) (A : Option Addr) (c : Nat) (w : World) (hR : Rd w A (ccs G.gul)) :
    Calls Try.prog 64 #[gv G (.slice A G.gul.length c)] w fun e w' => ∃ ts, IsLev G ts ∧ e = .returned (.tuple #[.int .i64 (pcnt G ts 81), .int .i64 (psum G ts 81)]) ∧ Below w.heap.size w w' := by
  have S := St.refl w
  go_enter Try.func64, Try.ntmps64
  go_wp2_with (first
    | ((with_reducible refine at_box_ 34 rfl rfl ?_); (refine W_box S rfl _ _ rfl (gv G (.slice A G.gul.length c)) rfl ?_; clear S; intro ba w' S; change St _ _ (EB _ _ (gcs G (.slice A G.gul.length c)) :: _) at S))
    | ((with_reducible refine at_load_ 34 rfl rfl ?_); (first | (refine W_loadN S rfl _ _ rfl ba 0 rfl 0 _ _ rfl (gcs G (.slice A G.gul.length c)) Try.isAgg34 (by rw [gcs_length hG]; exact Try.sizeOf34) (fun jq uq hq => by rw [Nat.zero_add]; exact hq) ?_) | (refine W_loadN S rfl _ _ rfl ba 0 rfl 1 _ _ rfl (gcs G (.slice A G.gul.length c)) Try.isAgg34 (by rw [gcs_length hG]; exact Try.sizeOf34) (fun jq uq hq => by rw [Nat.zero_add]; exact hq) ?_) | (refine W_loadN S rfl _ _ rfl ba 0 rfl 2 _ _ rfl (gcs G (.slice A G.gul.length c)) Try.isAgg34 (by rw [gcs_length hG]; exact Try.sizeOf34) (fun jq uq hq => by rw [Nat.zero_add]; exact hq) ?_) | (refine W_loadN S rfl _ _ rfl ba 0 rfl 3 _ _ rfl (gcs G (.slice A G.gul.length c)) Try.isAgg34 (by rw [gcs_length hG]; exact Try.sizeOf34) (fun jq uq hq => by rw [Nat.zero_add]; exact hq) ?_) | (refine W_loadN S rfl _ _ rfl ba 0 rfl 4 _ _ rfl (gcs G (.slice A G.gul.length c)) Try.isAgg34 (by rw [gcs_length hG]; exact Try.sizeOf34) (fun jq uq hq => by rw [Nat.zero_add]; exact hq) ?_) | (refine W_loadN S rfl _ _ rfl ba 0 rfl 5 _ _ rfl (gcs G (.slice A G.gul.length c)) Try.isAgg34 (by rw [gcs_length hG]; exact Try.sizeOf34) (fun jq uq hq => by rw [Nat.zero_add]; exact hq) ?_) | (refine W_loadN S rfl _ _ rfl ba 0 rfl 6 _ _ rfl (gcs G (.slice A G.gul.length c)) Try.isAgg34 (by rw [gcs_length hG]; exact Try.sizeOf34) (fun jq uq hq => by rw [Nat.zero_add]; exact hq) ?_) | (refine W_loadN S rfl _ _ rfl ba 0 rfl 7 _ _ rfl (gcs G (.slice A G.gul.length c)) Try.isAgg34 (by rw [gcs_length hG]; exact Try.sizeOf34) (fun jq uq hq => by rw [Nat.zero_add]; exact hq) ?_) | (refine W_loadN S rfl _ _ rfl ba 0 rfl 8 _ _ rfl (gcs G (.slice A G.gul.length c)) Try.isAgg34 (by rw [gcs_length hG]; exact Try.sizeOf34) (fun jq uq hq => by rw [Nat.zero_add]; exact hq) ?_) | (refine W_loadN S rfl _ _ rfl ba 0 rfl 9 _ _ rfl (gcs G (.slice A G.gul.length c)) Try.isAgg34 (by rw [gcs_length hG]; exact Try.sizeOf34) (fun jq uq hq => by rw [Nat.zero_add]; exact hq) ?_)))
    | (go_at_call 56; refine Calls.mono (levels_any G hG V hne A c _ (hR.st S)) ?_; rintro e w1 ⟨ts, hts, rfl, hb⟩; replace S := S.callB hb; clear hb; have HT := Lib.hid hts; clear hts; have htl := Lib.hid (isLev_length HT.out)))
  go_loopw [4, 5, 13] (fun u v i wr => ∃ y : Nat, y ≤ 9 ∧ i = .int .i64 y ∧ u = .int .i64 (pcnt G ts (y * 9)) ∧ v = .int .i64 (psum G ts (y * 9)) ∧ St w wr [EB ba 34 (gcs G (.slice A G.gul.length c))]) (fun _ _ i _ => 9 - (intOf i).toNat)
  case atStart => exact ⟨0, by omega, rfl, rfl, rfl, S⟩
  case round =>
    clear S
    obtain ⟨y, hy, rfl, rfl, rfl, S⟩ := hrel
    by_cases hlt : y < 9
    · have hrl := rowl_length htl.out hlt
      have hrl2 : Hid ((hvl (rowl ts y)).length = 9) := by show _ = _; rw [hvl_length, hrl]
      clear hrl
      go_wp2_with (first
        | (refine W_idxN rfl _ _ _ rfl (hvl ts) rfl _ rfl _ _ Try.underlying25 _ Try.isAgg24 Try.sizeOf24 ?_ ?_ (hvl (rowl ts y)) ?_ ?_; omega; omega; exact hvl_row _ _)
        | ((with_reducible refine at_alloc_ 24 rfl rfl ?_); (refine W_alloc S rfl _ rfl _ Try.zeroValue24 ?_; clear S; intro br w' S; change St _ _ (EB _ _ (hvl (List.replicate 9 0)) :: _) at S))
        | ((with_reducible refine at_store_ 24 rfl rfl ?_); (refine W_storeW S rfl _ _ _ rfl _ rfl 0 _ _ rfl (hvl (rowl ts y)) rfl (by rw [hrl2.out]; exact Try.sizeOf24) (by rw [hrl2.out]; rfl) (hvl_one _) ?_; clear S; intro w' S; simp only [List.set_cons_zero, List.set_cons_succ] at S))
        | ((with_reducible refine at_load_ 24 rfl rfl ?_); (first | (refine W_loadN S rfl _ _ rfl br 0 rfl 0 _ _ rfl (hvl (rowl ts y)) Try.isAgg24 (by rw [hrl2.out]; exact Try.sizeOf24) (fun jq uq hq => by rw [Nat.zero_add]; exact hq) ?_) | (refine W_loadN S rfl _ _ rfl br 0 rfl 1 _ _ rfl (hvl (rowl ts y)) Try.isAgg24 (by rw [hrl2.out]; exact Try.sizeOf24) (fun jq uq hq => by rw [Nat.zero_add]; exact hq) ?_) | (refine W_loadN S rfl _ _ rfl br 0 rfl 2 _ _ rfl (hvl (rowl ts y)) Try.isAgg24 (by rw [hrl2.out]; exact Try.sizeOf24) (fun jq uq hq => by rw [Nat.zero_add]; exact hq) ?_) | (refine W_loadN S rfl _ _ rfl br 0 rfl 3 _ _ rfl (hvl (rowl ts y)) Try.isAgg24 (by rw [hrl2.out]; exact Try.sizeOf24) (fun jq uq hq => by rw [Nat.zero_add]; exact hq) ?_) | (refine W_loadN S rfl _ _ rfl br 0 rfl 4 _ _ rfl (hvl (rowl ts y)) Try.isAgg24 (by rw [hrl2.out]; exact Try.sizeOf24) (fun jq uq hq => by rw [Nat.zero_add]; exact hq) ?_) | (refine W_loadN S rfl _ _ rfl br 0 rfl 5 _ _ rfl (hvl (rowl ts y)) Try.isAgg24 (by rw [hrl2.out]; exact Try.sizeOf24) (fun jq uq hq => by rw [Nat.zero_add]; exact hq) ?_) | (refine W_loadN S rfl _ _ rfl br 0 rfl 6 _ _ rfl (hvl (rowl ts y)) Try.isAgg24 (by rw [hrl2.out]; exact Try.sizeOf24) (fun jq uq hq => by rw [Nat.zero_add]; exact hq) ?_) | (refine W_loadN S rfl _ _ rfl br 0 rfl 7 _ _ rfl (hvl (rowl ts y)) Try.isAgg24 (by rw [hrl2.out]; exact Try.sizeOf24) (fun jq uq hq => by rw [Nat.zero_add]; exact hq) ?_) | (refine W_loadN S rfl _ _ rfl br 0 rfl 8 _ _ rfl (hvl (rowl ts y)) Try.isAgg24 (by rw [hrl2.out]; exact Try.sizeOf24) (fun jq uq hq => by rw [Nat.zero_add]; exact hq) ?_) | (refine W_loadN S rfl _ _ rfl br 0 rfl 9 _ _ rfl (hvl (rowl ts y)) Try.isAgg24 (by rw [hrl2.out]; exact Try.sizeOf24) (fun jq uq hq => by rw [Nat.zero_add]; exact hq) ?_))))
      go_loopw [4, 5, 18] (fun u v i wr => ∃ x : Nat, x ≤ 9 ∧ i = .int .i64 x ∧ u = .int .i64 (pcnt G ts (y * 9 + x)) ∧ v = .int .i64 (psum G ts (y * 9 + x)) ∧ St w wr [EB br 24 (hvl (rowl ts y)), EB ba 34 (gcs G (.slice A G.gul.length c))]) (fun _ _ i _ => 9 - (intOf i).toNat)
      case atStart => exact ⟨0, by omega, rfl, rfl, rfl, S⟩
      case round =>
        clear S
        obtain ⟨x, hx, rfl, rfl, rfl, S⟩ := hrel
        by_cases hxl : x < 9
        · obtain ⟨t0, h0, ht0, hh0, hd0, hd1, hb⟩ := at81 hG V HT.out (y * 9 + x) (by omega)
          have hp := psum_range V HT.out (y * 9 + x) (by omega)
          have hc := pcnt_range G ts (y * 9 + x)
          have h1 := bitI_le (decide (h0 < t0))
          have hp1 := psum_succ G ts (y * 9 + x)
          have hc1 := pcnt_succ G ts (y * 9 + x)
          rw [hd0] at hp1
          rw [hd1] at hc1
          have HP := Lib.hid hp1
          have HC := Lib.hid hc1
          clear hp1 hc1
          have HT0 := Lib.hid (hvl_row_some hlt hxl ht0)
          have HH0 := Lib.hid (gcs_some (v := .slice A G.gul.length c) hh0)
          clear ht0 hh0 hd0 hd1
          go_wp2_with (first
            | (refine W_idx1 rfl _ _ _ rfl (hvl (rowl ts y)) rfl _ rfl _ _ Try.underlying24 Try.isAgg23 Try.sizeOf23 ?_ ?_ (.int .i16 t0) ?_ ?_; omega; omega; exact HT0.out)
            | ((with_reducible refine at_load_ 23 rfl rfl ?_); (refine W_load1 S rfl _ _ rfl ba (2 + y * 9 + x) rfl 1 _ _ rfl (.int .i16 h0) Try.isAgg23 HH0.out ?_))
            | (go_at_call 98; refine (bit_any _ _).mono ?_; rintro e w1 ⟨rfl, rfl⟩))
          refine ⟨⟨x + 1, by omega, by go_num, by rw [← Nat.add_assoc, HC.out], by rw [← Nat.add_assoc, HP.out], S⟩, ?_⟩
          simp [intOf]; omega
        · have hx9 : x = 9 := by omega
          subst hx9
          go_wp2
          refine ⟨⟨y + 1, by omega, by go_num, by rw [Nat.succ_mul], by rw [Nat.succ_mul], S.tail⟩, ?_⟩
          simp [intOf]; omega
    · have hy9 : y = 9 := by omega
      subst hy9
      go_wp2
      go_ret2
      exact ⟨ts, HT.out, rfl, S.below⟩

/-- What is to be returned by PoolSum. -/
def PoolIs (G : Gnd) (n : Int) : Prop := (levCode G = 0 → ∃ ts, IsLev G ts ∧ n = psum G ts 81) ∧ (levCode G ≠ 0 → n = 0)
theorem PoolIs.unique {G : Gnd} {n m : Int} (h1 : PoolIs G n) (h2 : PoolIs G m) : n = m := by
  by_cases h : levCode G = 0
  · obtain ⟨ts, ht, rfl⟩ := h1.1 h
    obtain ⟨us, hu, rfl⟩ := h2.1 h
    rw [ht.unique hu]
  · rw [h1.2 h, h2.2 h]

set_option maxRecDepth 100000 in
set_option maxHeartbeats 1000000 in
theorem poolSum_any (G : Gnd) (hG : G.Ok) (A : Option Addr) (c : Nat) (w : World) (hR : Rd w A (ccs G.gul)) :
    Calls Try.prog 24 #[gv G (.slice A G.gul.length c)] w fun e w' => ∃ n, PoolIs G n ∧ e = .returned (.tuple #[.int .i64 n, .int .i64 (levCode G)]) ∧ Below w.heap.size w w' := by
  have S := St.refl w
  have hlc := fun w' (hb : Below w.heap.size w w') => levelCode_any G hG A c w' (hR.below hb)
  by_cases hv : levCode G = 0
  · obtain ⟨V, hne⟩ := levCode_0.1 hv
    have HV := Lib.hid hv
    rw [hv] at hlc; rw [hv]
    clear hv
    go_enter Try.func24, Try.ntmps24
    go_wp2_with (first
      | ((with_reducible refine at_box_ 34 rfl rfl ?_); (refine W_box S rfl _ _ rfl (gv G (.slice A G.gul.length c)) rfl ?_; clear S; intro ba w' S; change St _ _ (EB _ _ (gcs G (.slice A G.gul.length c)) :: _) at S))
      | ((with_reducible refine at_load_ 34 rfl rfl ?_); (first | (refine W_loadN S rfl _ _ rfl ba 0 rfl 0 _ _ rfl (gcs G (.slice A G.gul.length c)) Try.isAgg34 (by rw [gcs_length hG]; exact Try.sizeOf34) (fun jq uq hq => by rw [Nat.zero_add]; exact hq) ?_) | (refine W_loadN S rfl _ _ rfl ba 0 rfl 1 _ _ rfl (gcs G (.slice A G.gul.length c)) Try.isAgg34 (by rw [gcs_length hG]; exact Try.sizeOf34) (fun jq uq hq => by rw [Nat.zero_add]; exact hq) ?_) | (refine W_loadN S rfl _ _ rfl ba 0 rfl 2 _ _ rfl (gcs G (.slice A G.gul.length c)) Try.isAgg34 (by rw [gcs_length hG]; exact Try.sizeOf34) (fun jq uq hq => by rw [Nat.zero_add]; exact hq) ?_) | (refine W_loadN S rfl _ _ rfl ba 0 rfl 3 _ _ rfl (gcs G (.slice A G.gul.length c)) Try.isAgg34 (by rw [gcs_length hG]; exact Try.sizeOf34) (fun jq uq hq => by rw [Nat.zero_add]; exact hq) ?_) | (refine W_loadN S rfl _ _ rfl ba 0 rfl 4 _ _ rfl (gcs G (.slice A G.gul.length c)) Try.isAgg34 (by rw [gcs_length hG]; exact Try.sizeOf34) (fun jq uq hq => by rw [Nat.zero_add]; exact hq) ?_) | (refine W_loadN S rfl _ _ rfl ba 0 rfl 5 _ _ rfl (gcs G (.slice A G.gul.length c)) Try.isAgg34 (by rw [gcs_length hG]; exact Try.sizeOf34) (fun jq uq hq => by rw [Nat.zero_add]; exact hq) ?_) | (refine W_loadN S rfl _ _ rfl ba 0 rfl 6 _ _ rfl (gcs G (.slice A G.gul.length c)) Try.isAgg34 (by rw [gcs_length hG]; exact Try.sizeOf34) (fun jq uq hq => by rw [Nat.zero_add]; exact hq) ?_) | (refine W_loadN S rfl _ _ rfl ba 0 rfl 7 _ _ rfl (gcs G (.slice A G.gul.length c)) Try.isAgg34 (by rw [gcs_length hG]; exact Try.sizeOf34) (fun jq uq hq => by rw [Nat.zero_add]; exact hq) ?_) | (refine W_loadN S rfl _ _ rfl ba 0 rfl 8 _ _ rfl (gcs G (.slice A G.gul.length c)) Try.isAgg34 (by rw [gcs_length hG]; exact Try.sizeOf34) (fun jq uq hq => by rw [Nat.zero_add]; exact hq) ?_) | (refine W_loadN S rfl _ _ rfl ba 0 rfl 9 _ _ rfl (gcs G (.slice A G.gul.length c)) Try.isAgg34 (by rw [gcs_length hG]; exact Try.sizeOf34) (fun jq uq hq => by rw [Nat.zero_add]; exact hq) ?_)))
      | (go_at_call 55; refine (hlc _ S.below).mono ?_; rintro e w1 ⟨rfl, hb⟩; replace S := S.callB hb; clear hb)
      | (go_at_call 64; refine Calls.mono (raised_any G hG V hne A c _ (hR.st S)) ?_; rintro e w1 ⟨ts, hts, rfl, hb⟩; replace S := S.callB hb; clear hb; have HT := Lib.hid hts; clear hts))
    go_ret2
    exact ⟨_, ⟨fun _ => ⟨ts, HT.out, rfl⟩, fun h => absurd HV.out h⟩, rfl, S.below⟩
  · have hne : (levCode G == 0) = false := by simpa using hv
    have HV := Lib.hid hv
    go_enter Try.func24, Try.ntmps24
    go_wp2_with (first
      | ((with_reducible refine at_box_ 34 rfl rfl ?_); (refine W_box S rfl _ _ rfl (gv G (.slice A G.gul.length c)) rfl ?_; clear S; intro ba w' S; change St _ _ (EB _ _ (gcs G (.slice A G.gul.length c)) :: _) at S))
      | ((with_reducible refine at_load_ 34 rfl rfl ?_); (first | (refine W_loadN S rfl _ _ rfl ba 0 rfl 0 _ _ rfl (gcs G (.slice A G.gul.length c)) Try.isAgg34 (by rw [gcs_length hG]; exact Try.sizeOf34) (fun jq uq hq => by rw [Nat.zero_add]; exact hq) ?_) | (refine W_loadN S rfl _ _ rfl ba 0 rfl 1 _ _ rfl (gcs G (.slice A G.gul.length c)) Try.isAgg34 (by rw [gcs_length hG]; exact Try.sizeOf34) (fun jq uq hq => by rw [Nat.zero_add]; exact hq) ?_) | (refine W_loadN S rfl _ _ rfl ba 0 rfl 2 _ _ rfl (gcs G (.slice A G.gul.length c)) Try.isAgg34 (by rw [gcs_length hG]; exact Try.sizeOf34) (fun jq uq hq => by rw [Nat.zero_add]; exact hq) ?_) | (refine W_loadN S rfl _ _ rfl ba 0 rfl 3 _ _ rfl (gcs G (.slice A G.gul.length c)) Try.isAgg34 (by rw [gcs_length hG]; exact Try.sizeOf34) (fun jq uq hq => by rw [Nat.zero_add]; exact hq) ?_) | (refine W_loadN S rfl _ _ rfl ba 0 rfl 4 _ _ rfl (gcs G (.slice A G.gul.length c)) Try.isAgg34 (by rw [gcs_length hG]; exact Try.sizeOf34) (fun jq uq hq => by rw [Nat.zero_add]; exact hq) ?_) | (refine W_loadN S rfl _ _ rfl ba 0 rfl 5 _ _ rfl (gcs G (.slice A G.gul.length c)) Try.isAgg34 (by rw [gcs_length hG]; exact Try.sizeOf34) (fun jq uq hq => by rw [Nat.zero_add]; exact hq) ?_) | (refine W_loadN S rfl _ _ rfl ba 0 rfl 6 _ _ rfl (gcs G (.slice A G.gul.length c)) Try.isAgg34 (by rw [gcs_length hG]; exact Try.sizeOf34) (fun jq uq hq => by rw [Nat.zero_add]; exact hq) ?_) | (refine W_loadN S rfl _ _ rfl ba 0 rfl 7 _ _ rfl (gcs G (.slice A G.gul.length c)) Try.isAgg34 (by rw [gcs_length hG]; exact Try.sizeOf34) (fun jq uq hq => by rw [Nat.zero_add]; exact hq) ?_) | (refine W_loadN S rfl _ _ rfl ba 0 rfl 8 _ _ rfl (gcs G (.slice A G.gul.length c)) Try.isAgg34 (by rw [gcs_length hG]; exact Try.sizeOf34) (fun jq uq hq => by rw [Nat.zero_add]; exact hq) ?_) | (refine W_loadN S rfl _ _ rfl ba 0 rfl 9 _ _ rfl (gcs G (.slice A G.gul.length c)) Try.isAgg34 (by rw [gcs_length hG]; exact Try.sizeOf34) (fun jq uq hq => by rw [Nat.zero_add]; exact hq) ?_)))
      | (go_at_call 55; refine (hlc _ S.below).mono ?_; rintro e w1 ⟨rfl, hb⟩; replace S := S.callB hb; clear hb))
    go_ret2
    exact ⟨0, ⟨fun h => absurd h HV.out, fun _ => rfl⟩, rfl, S.below⟩

set_option maxRecDepth 100000 in
set_option maxHeartbeats 1000000 in
theorem sPoolSum_any (G : Gnd) (hG : G.Ok) (A : Option Addr) (c : Nat) (w : World) (hR : Rd w A (ccs G.gul)) :
    Calls Try.prog 23 #[gv G (.slice A G.gul.length c)] w fun e w' => ∃ n, PoolIs G n ∧ e = .returned (.tuple #[.int .i64 n, .int .i64 (levCode G)]) ∧ Below w.heap.size w w' := by
  have S := St.refl w
  have hlc := fun w' gb h1 h2 => l04Pools_any G hG A c gb w' h1 h2
  by_cases hv : levCode G = 0
  · obtain ⟨V, hne⟩ := levCode_0.1 hv
    have HV := Lib.hid hv
    rw [hv] at hlc; rw [hv]
    clear hv
    go_enter Try.func23, Try.ntmps23
    go_wp2_with (first
      | ((with_reducible refine at_box_ 34 rfl rfl ?_); (refine W_box S rfl _ _ rfl (gv G (.slice A G.gul.length c)) rfl ?_; clear S; intro ba w' S; change St _ _ (EB _ _ (gcs G (.slice A G.gul.length c)) :: _) at S))
      | ((with_reducible refine at_alloc_ 25 rfl rfl ?_); ((fail_if_success have hq := bt); refine W_alloc S rfl 25 rfl _ Try.zeroValue25 ?_; clear S; intro bt w' S; change St _ _ (EB _ _ (hvl (List.replicate 81 0)) :: _) at S)) | ((with_reducible refine at_store_ 25 rfl rfl ?_); (first | (refine W_storeW S rfl _ _ _ rfl bt rfl 0 _ _ rfl (hvl ts) rfl (by rw [hvl_length, htl.out]; exact Try.sizeOf25) (by rw [hvl_length, hvl_length, htl.out]; rfl) (hvl_one _) ?_; clear S; intro w' S; simp only [List.set_cons_zero, List.set_cons_succ] at S) | (refine W_storeW S rfl _ _ _ rfl bt rfl 1 _ _ rfl (hvl ts) rfl (by rw [hvl_length, htl.out]; exact Try.sizeOf25) (by rw [hvl_length, hvl_length, htl.out]; rfl) (hvl_one _) ?_; clear S; intro w' S; simp only [List.set_cons_zero, List.set_cons_succ] at S) | (refine W_storeW S rfl _ _ _ rfl bt rfl 2 _ _ rfl (hvl ts) rfl (by rw [hvl_length, htl.out]; exact Try.sizeOf25) (by rw [hvl_length, hvl_length, htl.out]; rfl) (hvl_one _) ?_; clear S; intro w' S; simp only [List.set_cons_zero, List.set_cons_succ] at S) | (refine W_storeW S rfl _ _ _ rfl bt rfl 3 _ _ rfl (hvl ts) rfl (by rw [hvl_length, htl.out]; exact Try.sizeOf25) (by rw [hvl_length, hvl_length, htl.out]; rfl) (hvl_one _) ?_; clear S; intro w' S; simp only [List.set_cons_zero, List.set_cons_succ] at S) | (refine W_storeW S rfl _ _ _ rfl bt rfl 4 _ _ rfl (hvl ts) rfl (by rw [hvl_length, htl.out]; exact Try.sizeOf25) (by rw [hvl_length, hvl_length, htl.out]; rfl) (hvl_one _) ?_; clear S; intro w' S; simp only [List.set_cons_zero, List.set_cons_succ] at S) | (refine W_storeW S rfl _ _ _ rfl bt rfl 5 _ _ rfl (hvl ts) rfl (by rw [hvl_length, htl.out]; exact Try.sizeOf25) (by rw [hvl_length, hvl_length, htl.out]; rfl) (hvl_one _) ?_; clear S; intro w' S; simp only [List.set_cons_zero, List.set_cons_succ] at S)))
      | (go_at_call 51; refine Calls.mono (hlc _ ba (rd_EB0 S (k := 0) rfl) (hR.st S)) ?_; rintro e w1 ⟨rfl, hb⟩; replace S := S.callB hb; clear hb)
      | (go_at_call 52; refine Calls.mono (l04Levels_any G hG V A c ba _ (rd_EB0 S (k := 0) rfl) (hR.st S)) ?_; rintro e w1 ⟨ts, hts, rfl, hb⟩; replace S := S.callB hb; clear hb; have HT := Lib.hid hts; clear hts; have htl := Lib.hid (isLev_length HT.out)))
    go_loopw [6, 7] (fun v i wr => ∃ y : Nat, y ≤ 9 ∧ i = .int .i64 y ∧ v = .int .i64 (psum G ts (y * 9)) ∧ St w wr [EB bt 25 (hvl ts), EB ba 34 (gcs G (.slice A G.gul.length c))]) (fun _ i _ => 9 - (intOf i).toNat)
    case atStart => exact ⟨0, by omega, rfl, rfl, S⟩
    case round =>
      clear S
      obtain ⟨y, hy, rfl, rfl, S⟩ := hrel
      by_cases hlt : y < 9
      · go_wp2
        go_loopw [6, 8] (fun v i wr => ∃ x : Nat, x ≤ 9 ∧ i = .int .i64 x ∧ v = .int .i64 (psum G ts (y * 9 + x)) ∧ St w wr [EB bt 25 (hvl ts), EB ba 34 (gcs G (.slice A G.gul.length c))]) (fun _ i _ => 9 - (intOf i).toNat)
        case atStart => exact ⟨0, by omega, rfl, rfl, S⟩
        case round =>
          clear S
          obtain ⟨x, hx, rfl, rfl, S⟩ := hrel
          by_cases hxl : x < 9
          · obtain ⟨t0, h0, ht0, hh0, hd0, hd1, hb⟩ := at81 hG V HT.out (y * 9 + x) (by omega)
            have hp := psum_range V HT.out (y * 9 + x) (by omega)
            have hp1 := psum_succ G ts (y * 9 + x)
            rw [hd0] at hp1
            have HP := Lib.hid hp1
            clear hp1
            have HT0 := Lib.hid (hvl_some ht0)
            have HH0 := Lib.hid (gcs_some (v := .slice A G.gul.length c) hh0)
            clear ht0 hh0 hd0 hd1
            go_wp2
            refine wp_region_mix (by kernel_rfl) (by kernel_rfl) ?_
            repeat (first
              | go_big_quiet_skip
              | (go_big_quiet_want; refine Q_load1 S _ _ rfl bt (y * 9 + x) rfl 0 _ _ rfl (.int .i16 t0) Try.isAgg23 HT0.out ?_; simp only [Act.put, List.setIfInBounds_toArray, List.set_cons_succ, List.set_cons_zero]; go_big_quiet_on)
              | (go_big_quiet_want; refine Q_load1 S _ _ rfl ba (2 + y * 9 + x) rfl 1 _ _ rfl (.int .i16 h0) Try.isAgg23 HH0.out ?_; simp only [Act.put, List.setIfInBounds_toArray, List.set_cons_succ, List.set_cons_zero]; go_big_quiet_on)
              | (go_big_quiet_want; go_big_quiet_op; go_big_quiet_on))
            refine wpQuiet_nil ?_
            intro _ hw'
            obtain ⟨⟨nq, osq⟩, rfl⟩ := hw'
            replace S := S.callB (mix_below _ nq osq)
            generalize grow (sd _ nq) osq = wq at S ⊢
            go_wp2
            refine ⟨⟨x + 1, by omega, by go_num, by rw [← Nat.add_assoc, HP.out], S⟩, ?_⟩
            simp [intOf]; omega
          · have hx9 : x = 9 := by omega
            subst hx9
            go_wp2
            refine ⟨⟨y + 1, by omega, by go_num, by rw [Nat.succ_mul], S⟩, ?_⟩
            simp [intOf]; omega
      · have hy9 : y = 9 := by omega
        subst hy9
        go_wp2
        go_ret2
        exact ⟨_, ⟨fun _ => ⟨ts, HT.out, rfl⟩, fun h => absurd HV.out h⟩, rfl, S.below⟩
  · have hne : (levCode G == 0) = false := by simpa using hv
    have HV := Lib.hid hv
    go_enter Try.func23, Try.ntmps23
    go_wp2_with (first
      | ((with_reducible refine at_box_ 34 rfl rfl ?_); (refine W_box S rfl _ _ rfl (gv G (.slice A G.gul.length c)) rfl ?_; clear S; intro ba w' S; change St _ _ (EB _ _ (gcs G (.slice A G.gul.length c)) :: _) at S))
      | (go_at_call 51; refine Calls.mono (hlc _ ba (rd_EB0 S (k := 0) rfl) (hR.st S)) ?_; rintro e w1 ⟨rfl, hb⟩; replace S := S.callB hb; clear hb))
    go_ret2
    exact ⟨0, ⟨fun h => absurd h HV.out, fun _ => rfl⟩, rfl, S.below⟩
end Go.Proofs.Ytpfmmbdddecphaa
