/- (Ground).around, height, isGully, and what they call. -/
import Derived.Test.YtpfmmbdddecphaaCells
namespace Go.Proofs.Ytpfmmbdddecphaa
open Go.RowKit Go.Sort
set_option linter.unusedVariables false
set_option linter.unusedSimpArgs false

def four (x y : Int) : List Pt := [(x, y - 1), (x - 1, y), (x + 1, y), (x, y + 1)]
def besideL (G : Gnd) (c : Pt) : List Pt := kept (fun d => !isCellB G.wide G.high d) (four c.1 c.2)
theorem four_range {x y : Int} (h3 : 0 ≤ x ∧ x ≤ 100) (h4 : 0 ≤ y ∧ y ≤ 100) {d : Pt} (h : d ∈ four x y) : (-128 ≤ d.1 ∧ d.1 ≤ 127) ∧ -128 ≤ d.2 ∧ d.2 ≤ 127 := by
  simp only [four, List.mem_cons, List.not_mem_nil, or_false] at h
  rcases h with rfl | rfl | rfl | rfl <;> simp only [] <;> omega
theorem besideL_mem {G : Gnd} {c d : Pt} : d ∈ besideL G c ↔ d ∈ four c.1 c.2 ∧ isCellB G.wide G.high d = true := by
  simp [besideL, kept]

set_option maxRecDepth 100000 in
set_option maxHeartbeats 1000000 in
theorem around1_any (G : Gnd) (hG : G.Ok) (v : Value) (x y : Int) (h3 : -128 ≤ x ∧ x ≤ 127) (h4 : -128 ≤ y ∧ y ≤ 127) (b : Nat) (t : TypeId) (w0 w : World) (L : List Ent) (S : St w0 w L) (k : Nat) (hk : L[k]? = some (EB b t (gcs G v))) :
    Calls Try.prog 136 #[cv (x, y), .pointer (some ⟨b, 0, none⟩)] w fun e w' => e = .returned (.bool (!isCellB G.wide G.high (x, y))) ∧ Below w.heap.size w w' := by
  have hl := gcs_length hG v
  have hgt : ∀ w', St w0 w' L → ∀ j u, (gcs G v)[j]? = some u → w'.cell? ⟨b, 0 + j, none⟩ = some u := fun w' S j u hu => by rw [Nat.zero_add]; exact EB.cell (S.get hk) hu
  have R := St.refl w
  have hR : Rd w (some ⟨b, 0, none⟩) (gcs G v) := Rd.EB S hk 0 (fun j u hu => by rw [Nat.zero_add]; exact hu)
  go_enter Try.func136, Try.ntmps136
  replace S := R
  go_wp2_with (first
    | (refine W_box S rfl _ _ rfl (.agg #[.int .i8 x, .int .i8 y]) rfl ?_; clear S; intro bc w' S; change St _ _ (EB _ _ ([.int .i8 x, .int .i8 y]) :: _) at S)
    | (refine W_loadC rfl _ _ rfl b 0 rfl (gcs G v) Try.isAgg34 (by rw [hl]; exact Try.sizeOf34) ?_ ?_; exact (hR.st S).2 b 0 rfl)
    | (refine W_loadN S rfl _ _ rfl _ _ rfl 0 _ _ rfl ([.int .i8 x, .int .i8 y]) Try.isAgg43 Try.sizeOf43 (fun jq uq hq => by rw [Nat.zero_add]; exact hq) ?_)
    | (go_at_call 91; refine (isPt_any G hG v x y h3 h4 _).mono ?_; rintro e w1 ⟨rfl, hb⟩; replace S := S.callB hb; clear hb))
  go_ret
  exact ⟨rfl, S.below⟩
theorem around1_eg : ∀ args w, (callFunc 136 args).run Try.prog w = .ok (.enter 136 args) w := enters_of Try.func136 (by kernel_rfl) rfl

set_option maxRecDepth 100000 in
set_option maxHeartbeats 1000000 in
theorem around_any (G : Gnd) (hG : G.Ok) (v : Value) (x y : Int) (h3 : 0 ≤ x ∧ x ≤ 100) (h4 : 0 ≤ y ∧ y ≤ 100) (w : World) :
    Calls Try.prog 118 #[gv G v, cv (x, y)] w fun e w' => ∃ A c, e = .returned (.slice A (besideL G (x, y)).length c) ∧ St w w' [ER 43 2 (.slice A (besideL G (x, y)).length c) (besideL G (x, y)).length (ccs (besideL G (x, y)))] := by
  have hl := gcs_length hG v
  have S := St.refl w
  go_enter Try.func118, Try.ntmps118
  go_wp2_with (first
    | (refine W_box S rfl _ _ rfl (gv G (v)) rfl ?_; clear S; intro bg w' S; change St _ _ (EB _ _ (gcs G (v)) :: _) at S)
    | (refine W_box S rfl _ _ rfl (.agg #[.int .i8 x, .int .i8 y]) rfl ?_; clear S; intro bc w' S; change St _ _ (EB _ _ ([.int .i8 x, .int .i8 y]) :: _) at S)
    | (refine W_load1 S rfl _ _ rfl _ _ rfl 0 _ _ rfl _ Try.isAgg22 rfl ?_)
    | (refine W_bslice S rfl _ (_) _ rfl 43 (ccs (four x y)) ?_ ?_; exact (fun w => by simp [go_sem, Instr.buildSlice, Try.underlying32, Try.sizeOf43, Try.zeroValue43] <;> rfl); clear S; intro bl w' S)
    | (go_at_call 135; refine Calls.mono (deleteFunc_any w _ _ bl (four x y) (fun d => !isCellB G.wide G.high d) 136 #[.pointer (some ⟨bg, 0, none⟩)] S (by simp [four]) around1_eg ?_) ?_; intro d hd w2 ys S2; exact around1_any G hG v d.1 d.2 (four_range h3 h4 hd).1 (four_range h3 h4 hd).2 bg _ w w2 _ S2 2 rfl; rintro e w2 ⟨rfl, S2⟩; replace S := S2; clear S2))
  go_ret
  exact ⟨_, _, rfl, S.only (k := 0) rfl⟩

theorem gcs_at {G : Gnd} (h : G.hs.length = 81) (v : Value) {x y : Int} (h3 : 0 ≤ x ∧ x ≤ 8) (h4 : 0 ≤ y ∧ y ≤ 8) : (gcs G v)[2 + y.toNat * 9 + x.toNat]? = some (.int .i16 (G.at x y)) := by
  rw [Nat.add_assoc]
  refine gcs_heights v _ _ ?_
  have e : (9 * y + x).toNat = y.toNat * 9 + x.toNat := by omega
  simp only [hvl, List.getElem?_map, Gnd.at, e, List.getD_eq_getElem?_getD]
  rw [List.getElem?_eq_getElem (by omega)]
  rfl

set_option maxRecDepth 100000 in
set_option maxHeartbeats 1000000 in
theorem height_any (G : Gnd) (hG : G.Ok) (v : Value) (x y : Int) (h3 : 0 ≤ x ∧ x ≤ 8) (h4 : 0 ≤ y ∧ y ≤ 8) (w : World) :
    Calls Try.prog 105 #[gv G v, cv (x, y)] w fun e w' => e = .returned (.int .i64 (G.at x y)) ∧ Below w.heap.size w w' := by
  have hl := gcs_length hG v
  have hr := hG.at x y
  have S := St.refl w
  go_enter Try.func105, Try.ntmps105
  go_wp2_with (first
    | (refine W_box S rfl _ _ rfl (gv G (v)) rfl ?_; clear S; intro bg w' S; change St _ _ (EB _ _ (gcs G (v)) :: _) at S)
    | (refine W_box S rfl _ _ rfl (.agg #[.int .i8 x, .int .i8 y]) rfl ?_; clear S; intro bc w' S; change St _ _ (EB _ _ ([.int .i8 x, .int .i8 y]) :: _) at S))
  refine wp_region_mix (by kernel_rfl) (by kernel_rfl) ?_
  repeat (first
    | go_big_quiet_skip | (go_big_quiet_want; refine Q_load1 S _ _ rfl _ _ rfl 0 _ _ rfl _ Try.isAgg22 rfl ?_; simp only [Act.put, List.setIfInBounds_toArray, List.set_cons_succ, List.set_cons_zero]; go_big_quiet_on) | (go_big_quiet_want; refine Q_load1 S _ _ rfl _ _ rfl 1 _ _ rfl (.int .i16 (G.at x y)) Try.isAgg23 (gcs_at hG.len v h3 h4) ?_; simp only [Act.put, List.setIfInBounds_toArray, List.set_cons_succ, List.set_cons_zero]; go_big_quiet_on) | (go_big_quiet_want; go_big_quiet_op; go_big_quiet_on))
  refine wpQuiet_nil ?_
  intro _ hw'
  obtain ⟨⟨nq, osq⟩, rfl⟩ := hw'
  replace S := S.callB (mix_below _ nq osq)
  generalize grow (sd _ nq) osq = wq at S ⊢
  go_wp2
  go_ret
  exact ⟨rfl, S.below⟩
end Go.Proofs.Ytpfmmbdddecphaa
