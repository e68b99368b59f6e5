/- (Square).cells; (Ground).points, around, height and their closures. -/
import Derived.Test.YtpfmmbdddecphaaFind
import Derived.Test.YtpfmmbdddecphaaValid
namespace Go.Proofs.Ytpfmmbdddecphaa
open Go.RowKit Go.Sort
set_option linter.unusedVariables false
set_option linter.unusedSimpArgs false

theorem cellInfo : (Try.prog.info? 43).map (fun i => (i.zero, i.size, i.bytes)) = some (some (.agg #[.int .i8 0, .int .i8 0]), 2, 2) := by kernel_rfl

/-- The cells of a square, in order: 'rowC y n' the first n of a row, 'allC wd n' the first n rows. -/
def rowC (y n : Nat) : List Pt := (List.range n).map fun (x : Nat) => (((x : Nat) : Int), (y : Int))
def allC (wd n : Nat) : List Pt := (List.range n).flatMap fun y => rowC y wd
theorem rowC_succ (y n : Nat) : rowC y (n + 1) = rowC y n ++ [((n : Int), (y : Int))] := by simp [rowC, List.range_succ]
theorem allC_succ (wd n : Nat) : allC wd (n + 1) = allC wd n ++ rowC n wd := by simp [allC, List.range_succ]
theorem rowC_length (y n : Nat) : (rowC y n).length = n := by simp [rowC]
theorem allC_length (wd n : Nat) : (allC wd n).length = n * wd := by
  induction n with
  | zero => simp [allC]
  | succ n ih => rw [allC_succ, List.length_append, ih, rowC_length, Nat.succ_mul]
def pre (p : Pt → Bool) (wd y x : Nat) : List Pt := ((allC wd y) ++ rowC y x).filter p
theorem pre_0 (p : Pt → Bool) (wd : Nat) : pre p wd 0 0 = [] := rfl
theorem pre_yes {p : Pt → Bool} {wd y x : Nat} (h : p ((x : Int), (y : Int)) = true) : pre p wd y (x + 1) = pre p wd y x ++ [((x : Int), (y : Int))] := by
  unfold pre; rw [rowC_succ, ← List.append_assoc, List.filter_append]; simp [h]
theorem pre_no {p : Pt → Bool} {wd y x : Nat} (h : p ((x : Int), (y : Int)) = false) : pre p wd y (x + 1) = pre p wd y x := by
  unfold pre; rw [rowC_succ, ← List.append_assoc, List.filter_append]; simp [h]
theorem pre_row (p : Pt → Bool) (wd y : Nat) : pre p wd y wd = pre p wd (y + 1) 0 := by
  unfold pre; rw [allC_succ]; simp [rowC]
theorem pre_le (p : Pt → Bool) (wd y x : Nat) : (pre p wd y x).length ≤ y * wd + x := by
  unfold pre
  refine Nat.le_trans (List.length_filter_le _ _) ?_
  rw [List.length_append, allC_length, rowC_length]; omega
theorem pre_room {p : Pt → Bool} {wd y x : Nat} (h1 : wd ≤ 127) (h2 : y ≤ 127) (h3 : x ≤ 127) : (pre p wd y x).length ≤ 20000 := by
  have := pre_le p wd y x
  have : y * wd ≤ 127 * 127 := Nat.mul_le_mul h2 h1
  omega
/-- The accepted cells of a square, in order. -/
def cellsL (p : Pt → Bool) (wd hi : Int) : List Pt := (allC wd.toNat hi.toNat).filter p
theorem cellsL_eq (p : Pt → Bool) (wd hi : Int) : cellsL p wd hi = pre p wd.toNat hi.toNat 0 := by simp [cellsL, pre, rowC]
theorem ccs_append (xs ys : List Pt) : ccs (xs ++ ys) = ccs xs ++ ccs ys := by simp [ccs]
theorem ccs_app (xs : List Pt) (c : Pt) : ccs (xs ++ [c]) = ccs xs ++ cenc c := by simp [ccs, cenc]

set_option maxRecDepth 100000 in
set_option maxHeartbeats 1000000 in
theorem cells_any (wd hi : Int) (s : Value) (h1 : -128 ≤ wd ∧ wd ≤ 127) (h2 : -128 ≤ hi ∧ hi ≤ 127) (hs : s.cells = #[s]) (p : Pt → Bool) (kf : Nat) (caps : Array Value) (w : World) (eg : ∀ args w, (callFunc kf args).run Try.prog w = .ok (.enter kf args) w)
    (hf : ∀ x y : Nat, x < wd.toNat → y < hi.toNat → ∀ w', Below w.heap.size w w' → Calls Try.prog kf (#[.int .i64 x, .int .i64 y] ++ caps) w' fun e w'' => e = .returned (.bool (p ((x : Int), (y : Int)))) ∧ Below w'.heap.size w' w'') :
    Calls Try.prog 109 #[.agg #[.int .i8 wd, .int .i8 hi, s], .func (.func kf) #[] caps] w fun e w' =>
      ∃ A c, e = .returned (.slice A (cellsL p wd hi).length c) ∧ St w w' [ER 43 2 (.slice A (cellsL p wd hi).length c) (cellsL p wd hi).length (ccs (cellsL p wd hi))] := by
  have S := St.refl w
  go_enter Try.func109, Try.ntmps109
  go_wp2_with (first
    | (refine W_box S rfl _ _ rfl (.agg #[.int .i8 wd, .int .i8 hi, s]) rfl ?_; clear S; intro bq w' S; change St _ _ (EB _ _ ([.int .i8 wd, .int .i8 hi, s]) :: _) at S)
    | (refine W_bslice S rfl _ (_) _ rfl 43 ([]) ?_ ?_; exact (fun w => by simp [go_sem, Instr.buildSlice, Try.underlying32, Try.sizeOf43, Try.zeroValue43] <;> rfl); clear S; intro bl w' S)
    | (refine W_load1 S rfl _ _ rfl _ _ rfl 1 _ _ rfl _ Try.isAgg22 rfl ?_))
  replace S := S.own 0 bl _ _ rfl 2 0 0 [] rfl (Nat.le_refl _) (by decide) rfl rfl
  simp only [List.set_cons_zero] at S
  go_loopw [5, 12] (fun u i wr => ∃ (y : Nat) (A : Option Addr) (c : Nat), i = .int .i64 y ∧ y ≤ hi.toNat ∧ u = .slice A (pre p wd.toNat y 0).length c ∧ St w wr [ER 43 2 (.slice A (pre p wd.toNat y 0).length c) (pre p wd.toNat y 0).length (ccs (pre p wd.toNat y 0)), EB bq 118 [.int .i8 wd, .int .i8 hi, s]]) (fun _ i _ => hi.toNat - (intOf i).toNat)
  case atStart => exact ⟨0, _, _, rfl, by omega, rfl, S⟩
  case round =>
    obtain ⟨y, A, c, rfl, hy, rfl, S⟩ := hrel
    by_cases hyl : (y : Int) < hi
    · go_wp2_with (first
        | (refine W_load1 S rfl _ _ rfl _ _ rfl 1 _ _ rfl _ Try.isAgg22 rfl ?_))
      go_loopw [5, 18] (fun u i wr => ∃ (x : Nat) (A : Option Addr) (c : Nat), i = .int .i64 x ∧ x ≤ wd.toNat ∧ u = .slice A (pre p wd.toNat y x).length c ∧ St w wr [ER 43 2 (.slice A (pre p wd.toNat y x).length c) (pre p wd.toNat y x).length (ccs (pre p wd.toNat y x)), EB bq 118 [.int .i8 wd, .int .i8 hi, s]]) (fun _ i _ => wd.toNat - (intOf i).toNat)
      case atStart => exact ⟨0, A, c, rfl, by omega, rfl, S⟩
      case round =>
        obtain ⟨x, A, c, rfl, hx, rfl, S⟩ := hrel
        by_cases hxl : (x : Int) < wd
        · have hroom := Lib.hid (pre_room (p := p) (wd := wd.toNat) (y := y) (x := x) (by omega) (by omega) (by omega))
          cases hpx : p ((x : Int), (y : Int)) with
          | true =>
            have hf' := hf x y (by omega) (by omega)
            rw [hpx] at hf'
            go_wp2_with (first
              | (go_at_fn kf; refine Calls.mono (hf' _ S.below) ?_; rintro e w1 ⟨rfl, hb⟩; replace S := S.callB hb; clear hb)
              | (refine W_bslice S rfl _ (_) _ rfl 43 ([.int .i8 x, .int .i8 y]) ?_ ?_; exact (fun w => by simp [go_sem, Instr.buildSlice, Try.underlying32, Try.sizeOf43, Try.zeroValue43] <;> rfl); clear S; intro bn w' S)
              | (refine W_append S rfl _ _ _ rfl 1 43 2 _ _ _ rfl rfl 0 _ _ _ rfl 1 1 rfl default _ 2 Try.underlying32 cellInfo rfl (by decide) rfl (one_cells rfl) ?_ ?_ ?_; (first | (have := hroom.out; unfold maxLen; omega) | (have := hroom.out; omega)); (first | (have := hroom.out; unfold maxLen; omega) | (have := hroom.out; omega)); clear S; intro A' c' w' S; simp only [List.set_cons_zero, List.set_cons_succ] at S; replace S := S.tail))
            refine ⟨⟨x + 1, A', c', by go_num, by omega, by rw [pre_yes hpx, List.length_append]; rfl, by rw [pre_yes hpx, ccs_app, List.length_append]; exact S⟩, ?_⟩
            simp [intOf]; omega
          | false =>
            have hf' := hf x y (by omega) (by omega)
            rw [hpx] at hf'
            go_wp2_with (first
              | (go_at_fn kf; refine Calls.mono (hf' _ S.below) ?_; rintro e w1 ⟨rfl, hb⟩; replace S := S.callB hb; clear hb))
            refine ⟨⟨x + 1, A, c, by go_num, by omega, by rw [pre_no hpx], by rw [pre_no hpx]; exact S⟩, ?_⟩
            simp [intOf]; omega
        · have hxe : x = wd.toNat := by omega
          subst hxe
          go_wp2
          refine ⟨⟨y + 1, A, c, by go_num, by omega, by rw [pre_row], by rw [← pre_row]; exact S⟩, ?_⟩
          simp [intOf]; omega
    · have hye : y = hi.toNat := by omega
      subst hye
      go_wp2
      go_ret
      rw [cellsL_eq]
      exact ⟨A, c, rfl, S.only (k := 0) rfl⟩

/-! ### points -/
set_option maxRecDepth 100000 in
set_option maxHeartbeats 1000000 in
theorem points1_any (x y : Int) (hx : 0 ≤ x ∧ x ≤ 127) (hy : 0 ≤ y ∧ y ≤ 127) (b kf : Nat) (caps : Array Value) (r : Bool) (w : World) (hc : w.cell? ⟨b, 0, none⟩ = some (.func (.func kf) #[] caps)) (eg : ∀ args w, (callFunc kf args).run Try.prog w = .ok (.enter kf args) w)
    (hf : Calls Try.prog kf (#[cv (x, y)] ++ caps) w fun e w'' => e = .returned (.bool r) ∧ Below w.heap.size w w'') :
    Calls Try.prog 110 #[.int .i64 x, .int .i64 y, .pointer (some ⟨b, 0, none⟩)] w fun e w' => e = .returned (.bool r) ∧ Below w.heap.size w w' := by
  have S := St.refl w
  go_enter Try.func110, Try.ntmps110
  go_wp2_with (first
    | (go_at_fn kf; refine Calls.mono (hf) ?_; rintro e w1 ⟨rfl, hb⟩; replace S := S.callB hb; clear hb))
  go_ret
  exact ⟨rfl, S.below⟩
theorem points1_eg : ∀ args w, (callFunc 110 args).run Try.prog w = .ok (.enter 110 args) w := enters_of Try.func110 (by kernel_rfl) rfl

set_option maxRecDepth 100000 in
set_option maxHeartbeats 1000000 in
theorem points_any (G : Gnd) (hG : G.Ok) (v : Value) (p : Pt → Bool) (kf : Nat) (caps : Array Value) (w : World) (eg : ∀ args w, (callFunc kf args).run Try.prog w = .ok (.enter kf args) w)
    (hf : ∀ x y : Nat, x < G.wide.toNat → y < G.high.toNat → ∀ w', Below w.heap.size w w' → Calls Try.prog kf (#[cv ((x : Int), (y : Int))] ++ caps) w' fun e w'' => e = .returned (.bool (p ((x : Int), (y : Int)))) ∧ Below w'.heap.size w' w'') :
    Calls Try.prog 70 #[gv G v, .func (.func kf) #[] caps] w fun e w' =>
      ∃ A c, e = .returned (.slice A (cellsL p G.wide G.high).length c) ∧ St w w' [ER 43 2 (.slice A (cellsL p G.wide G.high).length c) (cellsL p G.wide G.high).length (ccs (cellsL p G.wide G.high))] := by
  have hl := gcs_length hG v
  have S := St.refl w
  have b1 := hG.wide
  have b2 := hG.high
  go_enter Try.func70, Try.ntmps70
  go_wp2_with (first
    | (refine W_box S rfl _ _ rfl (gv G (v)) rfl ?_; clear S; intro bg w' S; change St _ _ (EB _ _ (gcs G (v)) :: _) at S)
    | (refine W_box S rfl _ _ rfl (.func (.func kf) #[] caps) rfl ?_; clear S; intro bf w' S; change St _ _ (EB _ _ ([.func (.func kf) #[] caps]) :: _) at S)
    | (refine W_loadN S rfl _ _ rfl _ _ rfl 1 _ _ rfl (gcs G (v)) Try.isAgg34 (by rw [hl]; exact Try.sizeOf34) (fun jq uq hq => by rw [Nat.zero_add]; exact hq) ?_)
    | (go_at_call 108; refine (frame_any G v _).mono ?_; rintro e w1 ⟨rfl, hb⟩; replace S := S.callB hb; clear hb)
    | (go_at_call 109; refine Calls.mono (cells_any G.wide G.high (.slice none 0 0) b1 b2 rfl p 110 #[.pointer (some ⟨bf, 0, none⟩)] _ points1_eg ?_) ?_; intro x y hx hy w2 hb; exact points1_any x y (by omega) (by omega) bf kf caps _ w2 (EB.cell ((S.callB hb).get (k := 0) rfl) rfl) eg (hf x y hx hy w2 (S.callB hb).below); rintro e w2 ⟨A, c, rfl, S2⟩; replace S := S.call S2; clear S2))
  go_ret
  exact ⟨A, c, rfl, S.only (k := 0) rfl⟩
end Go.Proofs.Ytpfmmbdddecphaa
