/- The laws' copies and comparisons of grounds. -/
import Derived.Test.YtpfmmbdddecphaaEq
namespace Go.Proofs.Ytpfmmbdddecphaa
open Go.RowKit Go.Sort
set_option linter.unusedVariables false
set_option linter.unusedSimpArgs false

def z84 : List Value := .int .i8 0 :: .int .i8 0 :: (hvl (List.replicate 81 0) ++ [.slice none 0 0])
def Gnd.zero : Gnd := ⟨0, 0, List.replicate 81 0, []⟩
theorem gcs_one {G : Gnd} {v : Value} (hv : v.oneCell' = true) : ∀ u ∈ gcs G v, u.oneCell' = true := by
  intro u hu
  simp only [gcs_h, List.mem_cons, List.mem_append, List.not_mem_nil, or_false] at hu
  rcases hu with rfl | rfl | hu | rfl
  · rfl
  · rfl
  · exact hvl_one _ u hu
  · exact hv
theorem gcs_set0 (G : Gnd) (v : Value) (n : Int) : (gcs G v).set 0 (.int .i8 n) = gcs { G with wide := n } v := rfl
theorem gcs_set1 (G : Gnd) (v : Value) (n : Int) : (gcs G v).set 1 (.int .i8 n) = gcs { G with high := n } v := rfl
theorem gcs_setH (G : Gnd) (v : Value) (ts : List Int) (h1 : G.hs.length = 81) (h2 : ts.length = 81) : gcs { G with hs := ts } v = (gcs G v).take 2 ++ hvl ts ++ (gcs G v).drop (2 + (hvl ts).length) := by
  rw [hvl_length, h2, gcs_h, gcs_h]
  simp only [List.take_succ_cons, List.take_zero, List.cons_append, List.nil_append]
  rw [show 2 + 81 = 81 + 1 + 1 by omega, List.drop_succ_cons, List.drop_succ_cons, List.drop_append_of_le_length (by rw [hvl_length, h1]; omega), List.drop_eq_nil_of_le (by rw [hvl_length, h1]; omega)]
  rfl
theorem gcs_setG (G : Gnd) (v u : Value) (h1 : G.hs.length = 81) : (gcs G v).set 83 u = gcs G u := by
  rw [gcs_h, gcs_h, show 83 = 81 + 1 + 1 by omega, List.set_cons_succ, List.set_cons_succ, List.set_append_right _ _ (by rw [hvl_length, h1]; omega), hvl_length, h1]
  rfl

set_option maxRecDepth 100000 in
set_option maxHeartbeats 1000000 in
theorem toGround_any (G : Gnd) (hG : G.Ok) (A : Option Addr) (c : Nat) (hn : G.gul.length ≤ 1048576) (w : World) (hR : Rd w A (ccs G.gul)) :
    Calls Try.prog 12 #[gv G (.slice A G.gul.length c)] w fun e w' => ∃ b, e = .returned (gv G (.slice (some ⟨b, 0, none⟩) G.gul.length G.gul.length)) ∧ St w w' [EB b 43 (ccs G.gul)] := by
  have S := St.refl w
  have hl := gcs_length hG (.slice A G.gul.length c)
  have hxl : (hvl G.hs).length = 81 := by rw [hvl_length, hG.len]
  go_enter Try.func12, Try.ntmps12
  go_wp2_with (first
    | (refine W_box S rfl _ _ rfl (gv G (.slice A G.gul.length c)) rfl ?_; clear S; intro ba w' S; change St _ _ (EB _ _ (gcs G (.slice A G.gul.length c)) :: _) at S)
    | (have hq := b0; clear hq; refine W_alloc S rfl 34 rfl _ Try.zeroValue34 ?_; clear S; intro bt w' S; change St _ _ (EB _ _ (gcs Gnd.zero (.slice none 0 0)) :: _) at S)
    | (refine W_alloc S rfl 34 rfl _ Try.zeroValue34 ?_; clear S; intro b0 w' S; change St _ _ (EB _ _ (gcs Gnd.zero (.slice none 0 0)) :: _) at S)
    | (refine W_load1 S rfl _ _ rfl ba 0 rfl 2 _ _ rfl (.int .i8 G.wide) Try.isAgg22 rfl ?_)
    | (refine W_load1 S rfl _ _ rfl ba 1 rfl 2 _ _ rfl (.int .i8 G.high) Try.isAgg22 rfl ?_)
    | (refine W_store1 S rfl 22 _ _ rfl bt 0 rfl 0 _ _ rfl (.int .i8 G.wide) rfl rfl Try.sizeOf22 rfl (by rw [gcs_h]; simp) ?_; clear S; intro w' S; simp only [List.set_cons_zero, List.set_cons_succ, gcs_set0] at S)
    | (refine W_store1 S rfl 22 _ _ rfl bt 1 rfl 0 _ _ rfl (.int .i8 G.high) rfl rfl Try.sizeOf22 rfl (by rw [gcs_h]; simp) ?_; clear S; intro w' S; simp only [List.set_cons_zero, List.set_cons_succ, gcs_set1] at S)
    | (refine W_loadN S rfl _ _ rfl ba 2 rfl 2 _ _ rfl (hvl G.hs) Try.isAgg25 (by rw [hxl]; exact Try.sizeOf25) (gcs_heights _) ?_)
    | (go_at_call 53; refine (toInt16A9A9_any G.hs hG.len _).mono ?_; rintro e w1 ⟨rfl, hb⟩; replace S := S.callB hb; clear hb)
    | (refine W_storeN S rfl _ _ _ rfl bt 2 rfl 0 _ _ rfl (.agg (hvl G.hs).toArray) rfl (by show ∀ w, _ = Result.ok (hvl G.hs).length w; rw [hxl]; exact Try.sizeOf25) (hvl_one _) _ ?_ (gcs_setH _ _ G.hs (by simp [Gnd.zero]) hG.len) ?_; (show 2 + (hvl G.hs).length ≤ (gcs _ _).length; rw [hxl]; simp [gcs, Gnd.zero]); clear S; intro w' S; simp only [List.set_cons_zero, List.set_cons_succ] at S)
    | (refine W_load1 S rfl _ _ rfl ba 83 rfl 2 _ _ rfl (.slice A G.gul.length c) Try.isAgg26 (gcs_gul hG.len _) ?_)
    | (go_at_call 54; refine Calls.mono (toCellS_any A c G.gul hn _ (hR.st S)) ?_; rintro e w1 ⟨bl, rfl, S2⟩; replace S := S.call S2; clear S2; simp only [List.cons_append, List.nil_append] at S)
    | (refine W_store1 S rfl 32 _ _ rfl bt 83 rfl 1 _ _ rfl (.slice (some ⟨bl, 0, none⟩) G.gul.length G.gul.length) rfl rfl Try.sizeOf32 rfl (by rw [gcs_h]; simp [hvl, hG.len]) ?_; clear S; intro w' S; simp only [List.set_cons_zero, List.set_cons_succ] at S; rw [gcs_setG _ _ _ (by exact hG.len)] at S)
    | (refine W_loadN S rfl _ _ rfl bt 0 rfl 1 _ _ rfl (gcs G (.slice (some ⟨bl, 0, none⟩) G.gul.length G.gul.length)) Try.isAgg34 (by rw [gcs_length hG]; exact Try.sizeOf34) (fun jq uq hq => by rw [Nat.zero_add]; exact hq) ?_)
    | (refine W_storeW S rfl _ _ _ rfl b0 rfl 2 _ _ rfl (gcs G (.slice (some ⟨bl, 0, none⟩) G.gul.length G.gul.length)) rfl (by rw [gcs_length hG]; exact Try.sizeOf34) (by rw [gcs_length hG]; rfl) (gcs_one rfl) ?_; clear S; intro w' S; simp only [List.set_cons_zero, List.set_cons_succ] at S))
  refine W_ret_c rfl S _ rfl rfl 2 _ _ rfl Try.isAgg34 (by rw [gcs_length hG]; exact Try.sizeOf34) ⟨bl, rfl, S.only (k := 0) rfl⟩

set_option maxRecDepth 100000 in
set_option maxHeartbeats 1000000 in
theorem eqGround_same (G : Gnd) (hG : G.Ok) (A B : Option Addr) (c c' : Nat) (hm : G.gul.length ≤ 4000000) (w : World) (hA : Rd w A (ccs G.gul)) (hB : Rd w B (ccs G.gul)) :
    Calls Try.prog 15 #[gv G (.slice A G.gul.length c), gv G (.slice B G.gul.length c')] w fun e w' => e = .returned (.bool true) ∧ Below w.heap.size w w' := by
  have S := St.refl w
  have hxl : (hvl G.hs).length = 81 := by rw [hvl_length, hG.len]
  have h1 : (G.wide != G.wide) = false := by simp
  have h2 : (G.high != G.high) = false := by simp
  go_enter Try.func15, Try.ntmps15
  go_wp2_with (first
    | (have hq := ba; clear hq; (refine W_box S rfl _ _ rfl (gv G (.slice B G.gul.length c')) rfl ?_; clear S; intro bb w' S; change St _ _ (EB _ _ (gcs G (.slice B G.gul.length c')) :: _) at S))
    | (refine W_box S rfl _ _ rfl (gv G (.slice A G.gul.length c)) rfl ?_; clear S; intro ba w' S; change St _ _ (EB _ _ (gcs G (.slice A G.gul.length c)) :: _) at S)
    | (refine W_load1 S rfl _ _ rfl ba 0 rfl 1 _ _ rfl (.int .i8 G.wide) Try.isAgg22 rfl ?_)
    | (refine W_load1 S rfl _ _ rfl bb 0 rfl 0 _ _ rfl (.int .i8 G.wide) Try.isAgg22 rfl ?_)
    | (refine W_load1 S rfl _ _ rfl ba 1 rfl 1 _ _ rfl (.int .i8 G.high) Try.isAgg22 rfl ?_)
    | (refine W_load1 S rfl _ _ rfl bb 1 rfl 0 _ _ rfl (.int .i8 G.high) Try.isAgg22 rfl ?_)
    | (refine W_loadN S rfl _ _ rfl ba 2 rfl 1 _ _ rfl (hvl G.hs) Try.isAgg25 (by rw [hxl]; exact Try.sizeOf25) (gcs_heights _) ?_)
    | (refine W_loadN S rfl _ _ rfl bb 2 rfl 0 _ _ rfl (hvl G.hs) Try.isAgg25 (by rw [hxl]; exact Try.sizeOf25) (gcs_heights _) ?_)
    | (go_at_call 14; refine (eqInt16A9A9_same G.hs hG.len _).mono ?_; rintro e w1 ⟨rfl, hb⟩; replace S := S.callB hb; clear hb)
    | (refine W_load1 S rfl _ _ rfl ba 83 rfl 1 _ _ rfl (.slice A G.gul.length c) Try.isAgg32 (gcs_gul hG.len _) ?_)
    | (refine W_load1 S rfl _ _ rfl bb 83 rfl 0 _ _ rfl (.slice B G.gul.length c') Try.isAgg32 (gcs_gul hG.len _) ?_)
    | (go_at_call 19; refine (eqCellS_same A B _ c c' G.gul rfl hm _ (hA.st S) (hB.st S)).mono ?_; rintro e w1 ⟨rfl, hb⟩; replace S := S.callB hb; clear hb))
  go_ret
  exact ⟨rfl, S.below⟩
end Go.Proofs.Ytpfmmbdddecphaa
