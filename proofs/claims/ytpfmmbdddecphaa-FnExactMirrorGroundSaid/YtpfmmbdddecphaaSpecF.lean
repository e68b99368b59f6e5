/- The reference's FillLevels. -/
import Derived.Test.YtpfmmbdddecphaaSpecE
namespace Go.Proofs.Ytpfmmbdddecphaa
open Go.RowKit Go.Sort
set_option linter.unusedVariables false
set_option linter.unusedSimpArgs false

theorem rd_EB0 {w0 w : World} {L : List Ent} (S : St w0 w L) {k b : Nat} {t : TypeId} {cs : List Value} (hk : L[k]? = some (EB b t cs)) : Rd w (some ⟨b, 0, none⟩) cs := Rd.EB S hk 0 (fun j u hu => by rw [Nat.zero_add]; exact hu)

set_option maxRecDepth 100000 in
set_option maxHeartbeats 1000000 in
theorem sFillLevels_any (G : Gnd) (hG : G.Ok) (A : Option Addr) (c : Nat) (w : World) (hR : Rd w A (ccs G.gul)) :
    Calls Try.prog 11 #[gv G (.slice A G.gul.length c)] w fun e w' => ∃ ts, FillIs G ts ∧ e = .returned (.tuple #[.agg (hvl ts).toArray, .int .i64 (levCode G)]) ∧ Below w.heap.size w w' := by
  have hl := gcs_length hG (.slice A G.gul.length c)
  have S := St.refl w
  have hlc := fun w' gb h1 h2 => l04Pools_any G hG A c gb w' h1 h2
  by_cases hv : levCode G = 0
  · obtain ⟨V, hne⟩ := levCode_0.1 hv
    have HV := Lib.hid hv
    rw [hv] at hlc; rw [hv]
    clear hv
    go_enter Try.func11, Try.ntmps11
    go_wp2_with (first
      | (refine W_box S rfl _ _ rfl (gv G (.slice A G.gul.length c)) rfl ?_; clear S; intro bg w' S; change St _ _ (EB _ _ (gcs G (.slice A G.gul.length c)) :: _) at S)
      | (refine W_alloc S rfl _ rfl _ Try.zeroValue25 ?_; clear S; intro bo w' S; change St _ _ (EB _ _ (hvl (List.replicate 81 0)) :: _) at S)
      | (go_at_call 51; refine Calls.mono (hlc _ bg (rd_EB0 S (k := 1) rfl) (hR.st S)) ?_; rintro e w1 ⟨rfl, hb⟩; replace S := S.callB hb; clear hb)
      | (go_at_call 52; refine Calls.mono (l04Levels_any G hG V A c bg _ (rd_EB0 S (k := 1) rfl) (hR.st S)) ?_; rintro e w1 ⟨ts, ht, rfl, hb⟩; replace S := S.callB hb; clear hb; have HT := Lib.hid ht; clear ht; have htl := isLev_length HT.out)
      | (refine W_storeW S rfl _ _ _ rfl _ rfl 0 _ _ rfl (hvl ts) rfl (by rw [hvl_length, htl]; exact Try.sizeOf25) (by rw [hvl_length, hvl_length, htl]; rfl) (hvl_one _) ?_; clear S; intro w' S; simp only [List.set_cons_zero, List.set_cons_succ] at S))
    exact W_ret_ct rfl S _ rfl _ rfl rfl 0 _ _ rfl Try.isAgg25 (by rw [hvl_length, htl]; exact Try.sizeOf25) ⟨ts, ⟨fun _ => HT.out, fun h => absurd HV.out h⟩, rfl, S.below⟩
  · have hne : (levCode G == 0) = false := by simpa using hv
    have HV := Lib.hid hv
    go_enter Try.func11, Try.ntmps11
    go_wp2_with (first
      | (refine W_box S rfl _ _ rfl (gv G (.slice A G.gul.length c)) rfl ?_; clear S; intro bg w' S; change St _ _ (EB _ _ (gcs G (.slice A G.gul.length c)) :: _) at S)
      | (refine W_alloc S rfl _ rfl _ Try.zeroValue25 ?_; clear S; intro bo w' S; change St _ _ (EB _ _ (hvl (List.replicate 81 0)) :: _) at S)
      | (go_at_call 51; refine Calls.mono (hlc _ bg (rd_EB0 S (k := 1) rfl) (hR.st S)) ?_; rintro e w1 ⟨rfl, hb⟩; replace S := S.callB hb; clear hb)
      | (refine W_storeW S rfl _ _ _ rfl _ rfl 0 _ _ rfl (hvl (List.replicate 81 0)) rfl (by exact Try.sizeOf25) (rfl) (hvl_one _) ?_; clear S; intro w' S; simp only [List.set_cons_zero, List.set_cons_succ] at S))
    exact W_ret_ct rfl S _ rfl _ rfl rfl 0 _ _ rfl Try.isAgg25 Try.sizeOf25 ⟨List.replicate 81 0, ⟨fun h => absurd h HV.out, fun _ => rfl⟩, rfl, S.below⟩
end Go.Proofs.Ytpfmmbdddecphaa
