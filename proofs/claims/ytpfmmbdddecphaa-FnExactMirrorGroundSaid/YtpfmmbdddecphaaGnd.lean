/- Grounds as values; the contracts of frame, isPoint. -/
import Derived.Test.YtpfmmbdddecphaaLeaf
namespace Go.Proofs.Ytpfmmbdddecphaa
open Go.RowKit Go.Sort
set_option linter.unusedVariables false
set_option linter.unusedSimpArgs false

def cenc (c : Pt) : List Value := [.int .i8 c.1, .int .i8 c.2]
theorem ccs_eq (cs : List Pt) : ccs cs = cs.flatMap cenc := rfl
theorem ccs_ne {cs : List Pt} {i : Nat} {c : Pt} (h : cs[i]? = some c) : ccs cs ≠ [] := by
  cases cs with
  | nil => simp at h
  | cons x xs => simp [ccs]
structure Gnd where
  wide : Int
  high : Int
  hs : List Int
  gul : List Pt
def Gnd.at (G : Gnd) (x y : Int) : Int := G.hs.getD (9 * y + x).toNat 0
def gcs (G : Gnd) (v : Value) : List Value := .int .i8 G.wide :: .int .i8 G.high :: (G.hs.map (Value.int .i16) ++ [v])
def gv (G : Gnd) (v : Value) : Value := .agg (gcs G v).toArray
/-- The numbers are of their kinds. -/
structure Gnd.Ok (G : Gnd) : Prop where
  wide : -128 ≤ G.wide ∧ G.wide ≤ 127
  high : -128 ≤ G.high ∧ G.high ≤ 127
  len : G.hs.length = 81
  hs : ∀ h ∈ G.hs, -32768 ≤ h ∧ h ≤ 32767
  gul : ∀ c ∈ G.gul, (-128 ≤ c.1 ∧ c.1 ≤ 127) ∧ -128 ≤ c.2 ∧ c.2 ≤ 127
theorem gcs_length {G : Gnd} (h : G.Ok) (v : Value) : (gcs G v).length = 84 := by simp [gcs, h.len]
theorem gv_cells (G : Gnd) (v : Value) : (gv G v).cells.toList = gcs G v := rfl

theorem one_cells {cs : List Value} (h : cs.all (·.oneCell') = true) : ∀ u ∈ cs, u.oneCell' = true := fun u hu => (List.all_eq_true.1 h) u hu

set_option maxHeartbeats 400000 in
theorem frame_any (G : Gnd) (v : Value) (w : World) :
    Calls Try.prog 108 #[gv G v] w fun e w' => e = .returned (.agg #[.int .i8 G.wide, .int .i8 G.high, .slice none 0 0]) ∧ Below w.heap.size w w' := by
  have S := St.refl w
  go_enter Try.func108, Try.ntmps108
  go_wp2_with (first
    | (refine W_box S rfl _ _ rfl (gv G (v)) rfl ?_; clear S; intro _ w' S; change St _ _ (EB _ _ (gcs G (v)) :: _) at S)
    | (refine W_alloc S rfl _ rfl _ Try.zeroValue118 ?_; clear S; intro _ w' S; change St _ _ (EB _ _ ([.int .i8 0, .int .i8 0, .slice none 0 0]) :: _) at S)
    | (refine W_load1 S rfl _ _ rfl _ _ rfl 1 _ _ rfl _ Try.isAgg22 rfl ?_)
    | (refine W_storeN S rfl _ _ _ rfl _ _ rfl 0 _ _ rfl (.agg #[.int .i8 G.wide, .int .i8 G.high, .slice none 0 0]) rfl Try.sizeOf118 (one_cells rfl) [.int .i8 G.wide, .int .i8 G.high, .slice none 0 0] (Nat.le_refl _) rfl ?_; clear S; intro w' S; simp only [List.set_cons_zero, List.set_cons_succ] at S))
  exact W_ret_c rfl S _ rfl rfl 0 _ _ rfl Try.isAgg118 Try.sizeOf118 ⟨rfl, S.below⟩

set_option maxRecDepth 100000 in
set_option maxHeartbeats 400000 in
theorem isPt_any (G : Gnd) (hG : G.Ok) (v : Value) (x y : Int) (h3 : -128 ≤ x ∧ x ≤ 127) (h4 : -128 ≤ y ∧ y ≤ 127) (w : World) :
    Calls Try.prog 91 #[gv G v, .agg #[.int .i8 x, .int .i8 y]] w fun e w' => e = .returned (.bool (isCellB G.wide G.high (x, y))) ∧ Below w.heap.size w w' := by
  have hl := gcs_length hG v
  have S := St.refl w
  go_enter Try.func91, Try.ntmps91
  go_wp2_with (first | (refine W_box S rfl _ _ rfl (gv G (v)) rfl ?_; clear S; intro _ w' S; change St _ _ (EB _ _ (gcs G (v)) :: _) at S) | (refine W_box S rfl _ _ rfl (.agg #[.int .i8 x, .int .i8 y]) rfl ?_; clear S; intro _ w' S; change St _ _ (EB _ _ ([.int .i8 x, .int .i8 y]) :: _) at S))
  refine wp_region_mix (by kernel_rfl) (by kernel_rfl) ?_
  repeat (first
    | go_big_quiet_skip | (go_big_quiet_want; refine Q_loadN S _ _ rfl _ _ rfl 1 _ _ rfl (gcs G (v)) Try.isAgg34 (by rw [hl]; exact Try.sizeOf34) (fun jq uq hq => by rw [Nat.zero_add]; exact hq) ?_; simp only [Act.put, List.setIfInBounds_toArray, List.set_cons_succ, List.set_cons_zero]; go_big_quiet_on) | (go_big_quiet_want; refine Q_loadN S _ _ rfl _ _ rfl 0 _ _ rfl ([.int .i8 x, .int .i8 y]) Try.isAgg43 Try.sizeOf43 (fun jq uq hq => by rw [Nat.zero_add]; exact hq) ?_; simp only [Act.put, List.setIfInBounds_toArray, List.set_cons_succ, List.set_cons_zero]; go_big_quiet_on) | (go_big_quiet_want; go_big_quiet_op; go_big_quiet_on)
    | (go_big_quiet_want; go_big_quiet_op; go_big_quiet_call (first | exact calls_mix (frame_any _ _ _) | exact calls_mix (isCell_any _ _ _ _ _ hG.wide hG.high h3 h4 _))))
  refine wpQuiet_nil ?_
  intro _ hw'
  obtain ⟨⟨nq, osq⟩, rfl⟩ := hw'
  replace S := S.callB (mix_below _ nq osq)
  generalize grow (sd _ nq) osq = wq at S ⊢
  go_wp2
  go_ret
  exact ⟨rfl, S.below⟩
end Go.Proofs.Ytpfmmbdddecphaa
