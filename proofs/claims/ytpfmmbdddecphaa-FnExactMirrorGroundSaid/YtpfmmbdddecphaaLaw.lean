/- What the laws do to grounds: sizes, copies, comparisons. -/
import Derived.Test.YtpfmmbdddecphaaValid
import Derived.Test.YtpfmmbdddecphaaCells
import Derived.Laws.MakeOwn
namespace Go.Proofs.Ytpfmmbdddecphaa
open Go.RowKit Go.Sort
set_option linter.unusedVariables false
set_option linter.unusedSimpArgs false

def szI (left n : Int) : Int := if left - n < 0 then -1 else left - n
set_option maxHeartbeats 400000 in
theorem szCellS_any (A : Option Addr) (n c : Nat) (left : Int) (hn : n ≤ maxLen) (h0 : 0 ≤ left ∧ left ≤ 1048576) (w : World) :
    Calls Try.prog 50 #[.slice A n c, .int .i64 left] w fun e w' => e = .returned (.int .i64 (szI left n)) ∧ w = w' := by
  unfold maxLen at hn
  go_enter Try.func50, Try.ntmps50
  go_wp2
  all_goals (go_ret; exact ⟨ret_i (by unfold szI; split <;> omega), rfl⟩)

set_option maxHeartbeats 400000 in
theorem szGround_any (G : Gnd) (hG : G.Ok) (A : Option Addr) (n c : Nat) (left : Int) (hn : n ≤ maxLen) (h0 : 0 ≤ left ∧ left ≤ 1048576) (w : World) :
    Calls Try.prog 10 #[gv G (.slice A n c), .int .i64 left] w fun e w' => e = .returned (.int .i64 (szI left n)) ∧ Below w.heap.size w w' := by
  have S := St.refl w
  by_cases hs : szI left n < 0
  · have hr : Hid (szI left n = -1) := by show szI left n = -1; unfold szI at hs ⊢; split <;> first | rfl | omega
    go_enter Try.func10, Try.ntmps10
    go_wp2_with (first
      | (refine W_box S rfl _ _ rfl (gv G (.slice A n c)) rfl ?_; clear S; intro bg w' S; change St _ _ (EB _ _ (gcs G (.slice A n c)) :: _) at S)
      | (refine W_load1 S rfl _ _ rfl _ _ rfl 0 _ _ rfl (.slice A n c) Try.isAgg26 (gcs_gul hG.len _) ?_)
      | (go_at_call 50; refine (szCellS_any A n c left hn h0 _).mono ?_; rintro e w1 ⟨rfl, rfl⟩))
    go_ret; exact ⟨ret_i hr.out.symm, S.below⟩
  · go_enter Try.func10, Try.ntmps10
    go_wp2_with (first
      | (refine W_box S rfl _ _ rfl (gv G (.slice A n c)) rfl ?_; clear S; intro bg w' S; change St _ _ (EB _ _ (gcs G (.slice A n c)) :: _) at S)
      | (refine W_load1 S rfl _ _ rfl _ _ rfl 0 _ _ rfl (.slice A n c) Try.isAgg26 (gcs_gul hG.len _) ?_)
      | (go_at_call 50; refine (szCellS_any A n c left hn h0 _).mono ?_; rintro e w1 ⟨rfl, rfl⟩))
    go_ret; exact ⟨rfl, S.below⟩

set_option maxRecDepth 100000 in
set_option maxHeartbeats 400000 in
theorem toCell_any (x y : Int) (w : World) :
    Calls Try.prog 17 #[cv (x, y)] w fun e w' => e = .returned (cv (x, y)) ∧ Below w.heap.size w w' := by
  have S := St.refl w
  go_enter Try.func17, Try.ntmps17
  go_wp2_with (first
    | (refine W_box S rfl _ _ rfl (.agg #[.int .i8 x, .int .i8 y]) rfl ?_; clear S; intro ba w' S; change St _ _ (EB _ _ ([.int .i8 x, .int .i8 y]) :: _) at S)
    | (have hq := b0; clear hq; refine W_alloc S rfl 43 rfl _ Try.zeroValue43 ?_; clear S; intro bt w' S; change St _ _ (EB _ _ [.int .i8 0, .int .i8 0] :: _) at S)
    | (refine W_alloc S rfl 43 rfl _ Try.zeroValue43 ?_; clear S; intro b0 w' S; change St _ _ (EB _ _ [.int .i8 0, .int .i8 0] :: _) at S)
    | (refine W_load1 S rfl _ _ rfl ba _ rfl 2 _ _ rfl _ Try.isAgg22 rfl ?_)
    | (refine W_store1 S rfl 22 _ _ rfl bt 0 rfl 0 _ _ rfl (.int .i8 x) rfl rfl Try.sizeOf22 rfl (by simp) ?_; clear S; intro w' S; change St _ _ (EB _ _ [.int .i8 x, .int .i8 0] :: _) at S)
    | (refine W_store1 S rfl 22 _ _ rfl bt 1 rfl 0 _ _ rfl (.int .i8 y) rfl rfl Try.sizeOf22 rfl (by simp) ?_; clear S; intro w' S; change St _ _ (EB _ _ [.int .i8 x, .int .i8 y] :: _) at S)
    | (refine W_loadN S rfl _ _ rfl _ _ rfl 0 _ _ rfl ([.int .i8 x, .int .i8 y]) Try.isAgg43 Try.sizeOf43 (fun jq uq hq => by rw [Nat.zero_add]; exact hq) ?_)
    | (refine W_storeN S rfl 43 _ _ rfl b0 0 rfl 1 _ _ rfl (.agg #[.int .i8 x, .int .i8 y]) rfl Try.sizeOf43 (one_cells rfl) [.int .i8 x, .int .i8 y] (Nat.le_refl _) rfl ?_; clear S; intro w' S; simp only [List.set_cons_zero, List.set_cons_succ] at S))
  exact W_ret_c rfl S _ rfl rfl 1 _ _ rfl Try.isAgg43 Try.sizeOf43 ⟨rfl, S.below⟩

def padI {α : Type} (z : α) (xs : List α) (k n : Nat) : List α := xs.take k ++ List.replicate (n - k) z
theorem padI_0 {α : Type} (z : α) (xs : List α) (n : Nat) : padI z xs 0 n = List.replicate n z := by simp [padI]
theorem padI_all {α : Type} (z : α) (xs : List α) (n : Nat) (h : xs.length = n) : padI z xs n n = xs := by simp [padI, ← h]
theorem padI_length {α : Type} (z : α) (xs : List α) {k n : Nat} (h : xs.length = n) (hk : k ≤ n) : (padI z xs k n).length = n := by simp [padI, h]; omega
theorem padI_set {α : Type} (z : α) (xs : List α) {k n : Nat} {v : α} (h : xs.length = n) (hk : k < n) (hv : xs[k]? = some v) : (padI z xs k n).set k v = padI z xs (k + 1) n := by
  apply List.ext_getElem?
  intro i
  have hl : (xs.take k).length = k := by rw [List.length_take]; omega
  by_cases hi : i = k
  · subst hi
    rw [List.getElem?_set_self (by rw [padI_length z xs h (by omega)]; exact hk)]
    unfold padI
    rw [List.getElem?_append_left (by rw [List.length_take]; omega), List.getElem?_take, if_pos (by omega), hv]
  · rw [List.getElem?_set_ne (Ne.symm hi)]
    unfold padI
    rcases Nat.lt_or_ge i k with h1 | h1
    · rw [List.getElem?_append_left (by omega), List.getElem?_append_left (by rw [List.length_take]; omega), List.getElem?_take, List.getElem?_take, if_pos h1, if_pos (by omega)]
    · rw [List.getElem?_append_right (by omega), List.getElem?_append_right (by rw [List.length_take]; omega), hl, List.length_take, List.getElem?_replicate, List.getElem?_replicate]
      congr 1
      simp only [eq_iff_iff]; omega

set_option maxRecDepth 100000 in
set_option maxHeartbeats 400000 in
theorem toInt16A9_any (xs : List Int) (hx : xs.length = 9) (w : World) :
    Calls Try.prog 103 #[.agg (hvl xs).toArray] w fun e w' => e = .returned (.agg (hvl xs).toArray) ∧ Below w.heap.size w w' := by
  have S := St.refl w
  have hxl : (hvl xs).length = 9 := by rw [hvl_length, hx]
  go_enter Try.func103, Try.ntmps103
  go_wp2_with (first
    | (refine W_box S rfl _ _ rfl (.agg (hvl xs).toArray) rfl ?_; clear S; intro ba w' S; change St _ _ (EB _ _ (hvl xs) :: _) at S)
    | (have hq := b0; clear hq; refine W_alloc S rfl 24 rfl _ Try.zeroValue24 ?_; clear S; intro bt w' S; change St _ _ (EB _ _ (hvl (List.replicate 9 0)) :: _) at S)
    | (refine W_alloc S rfl 24 rfl _ Try.zeroValue24 ?_; clear S; intro b0 w' S; change St _ _ (EB _ _ (hvl (List.replicate 9 0)) :: _) at S))
  go_loopw [4] (fun i wr => ∃ k : Nat, i = .int .i64 k ∧ k ≤ 9 ∧ St w wr [EB bt 24 (hvl (padI 0 xs k 9)), EB b0 24 (hvl (List.replicate 9 0)), EB ba 24 (hvl xs)]) (fun i _ => 9 - (intOf i).toNat)
  case atStart => exact ⟨0, rfl, by omega, S⟩
  case round =>
    clear S
    obtain ⟨k, rfl, hk, S⟩ := hrel
    by_cases hkl : k < 9
    · obtain ⟨v, hv⟩ : ∃ v, xs[k]? = some v := ⟨_, List.getElem?_eq_getElem (by omega)⟩
      have hsv := padI_set 0 xs hx hkl hv
      have hlen := padI_length 0 xs (k := k) hx hk
      have HV := Lib.hid hv; clear hv
      have HS := Lib.hid hsv; clear hsv
      go_wp2_with (first
        | (refine W_load1 S rfl _ _ rfl ba k rfl 2 _ _ rfl (.int .i16 v) Try.isAgg23 ?_ ?_; exact (by show (xs.map (Value.int .i16))[k]? = _; rw [List.getElem?_map, HV.out]; rfl))
        | (refine W_storeN S rfl _ _ _ rfl bt k rfl 0 _ (hvl (padI 0 xs k 9)) rfl (.int .i16 v) rfl Try.sizeOf23 (one_cells rfl) (hvl ((padI 0 xs k 9).set k v)) (by rw [hvl_length, hlen]; exact hkl) (hvl_set (by rw [hlen]; exact hkl)) ?_; clear S; intro w' S; simp only [List.set_cons_zero, List.set_cons_succ] at S))
      refine ⟨⟨k + 1, by go_num, by omega, by rw [← HS.out]; exact S⟩, ?_⟩
      simp [intOf]; omega
    · have hke : k = 9 := by omega
      subst hke
      have hlen := padI_all 0 xs 9 hx
      rw [hlen] at S
      go_wp2_with (first
        | (refine W_loadN S rfl _ _ rfl _ _ rfl 0 _ _ rfl (hvl xs) Try.isAgg24 (by rw [hxl]; exact Try.sizeOf24) (fun jq uq hq => by rw [Nat.zero_add]; exact hq) ?_)
        | (refine W_storeW S rfl _ _ _ rfl _ rfl 1 _ _ rfl (hvl xs) rfl (by rw [hxl]; exact Try.sizeOf24) (by rw [hxl]; rfl) (hvl_one _) ?_; clear S; intro w' S; simp only [List.set_cons_zero, List.set_cons_succ] at S))
      exact W_ret_c rfl S _ rfl rfl 1 _ _ rfl Try.isAgg24 (by rw [hxl]; exact Try.sizeOf24) ⟨rfl, S.below⟩

section
variable {ops : Array Oper} {rest : List Oper} {o : Oper} {a : Act} {Q : Exit → Act → World → Prop} {w0 w : World} {L : List Ent}
theorem madeC (n : Nat) : (madeCells #[.int .i8 0, .int .i8 0] (n * 2)).toList = ccs (List.replicate n ((0 : Int), (0 : Int))) := by
  have key : ∀ n : Nat, (List.range (n * 2)).map (fun i => (#[Value.int .i8 0, Value.int .i8 0])[i % 2]!) = ccs (List.replicate n ((0 : Int), (0 : Int))) := by
    intro n
    induction n with
    | zero => rfl
    | succ n ih =>
      rw [show (n + 1) * 2 = n * 2 + 1 + 1 by omega, List.range_succ, List.range_succ, List.map_append, List.map_append, ih, List.replicate_succ', ccs_append]
      have h1 : (n * 2) % 2 = 0 := by omega
      have h2 : (n * 2 + 1) % 2 = 1 := by omega
      simp [h1, h2, ccs]
  simp only [madeCells, Array.toList_map, Array.toList_range]
  exact key n
theorem W_makeC (S : St w0 w L) (hw : Region.wanted o (yielded ops a.tmps) = true) (l c : Operand) (ho : o.op = .makeSlice 32 l c) (n : Nat) (hl : a.eval l = .int .i64 n) (hc : a.eval c = .int .i64 n) (hn : n ≤ 4000000)
    (h : ∀ b w', St w0 w' (EB b 43 (ccs (List.replicate n ((0 : Int), (0 : Int)))) :: L) → wpList Try.prog ops Q rest (a.put o.dst (.slice (some ⟨b, 0, none⟩) n n)) w') : wpList Try.prog ops Q (o :: rest) a w := by
  obtain ⟨i0, hi, hzz⟩ := Option.map_eq_some_iff.1 cellInfo
  simp only [Prod.mk.injEq] at hzz
  obtain ⟨hz0, hz1, hz2⟩ := hzz
  have hrun := run_makeSlice (P := Try.prog) w 32 43 i0 _ Try.underlying32 hi hz0 .i64 .i64 (n : Int) (n : Int) (by omega) (Int.le_refl _) (by rw [hz1]; simp; omega) (by rw [hz2]; omega) (by omega)
  have S2 := S.alloc (madeCells #[.int .i8 0, .int .i8 0] (n * 2)) 43
  rw [madeC] at S2
  refine wpl_val hw ?_ (h _ _ S2)
  unfold execOp; simp only [ho, hl, hc]
  rw [Sem.run_bind, hrun, hz1]
  simp [Value.cells]
end

theorem padI_block {α : Type} (z : α) (xs : List α) {k m n : Nat} (h : xs.length = n) (hk : k + m ≤ n) : padI z xs (k + m) n = (padI z xs k n).take k ++ (xs.drop k).take m ++ (padI z xs k n).drop (k + m) := by
  have hl : (xs.take k).length = k := by rw [List.length_take]; omega
  unfold padI
  have e1 : (List.take k xs ++ List.replicate (n - k) z).drop (k + m) = List.replicate (n - (k + m)) z := by
    have e0 : List.drop (k + m) (List.take k xs) = [] := List.drop_eq_nil_of_le (by omega)
    rw [List.drop_append, hl, e0, List.nil_append, List.drop_replicate, show n - k - (k + m - k) = n - (k + m) by omega]
  rw [List.take_left' hl, e1, List.take_add]
theorem hvl_append (xs ys : List Int) : hvl (xs ++ ys) = hvl xs ++ hvl ys := by simp [hvl]
theorem hvl_take (xs : List Int) (k : Nat) : (hvl xs).take k = hvl (xs.take k) := by simp [hvl, List.map_take]
theorem hvl_drop (xs : List Int) (k : Nat) : (hvl xs).drop k = hvl (xs.drop k) := by simp [hvl, List.map_drop]

set_option maxRecDepth 100000 in
set_option maxHeartbeats 400000 in
theorem toInt16A9A9_any (hs : List Int) (hx : hs.length = 81) (w : World) :
    Calls Try.prog 53 #[.agg (hvl hs).toArray] w fun e w' => e = .returned (.agg (hvl hs).toArray) ∧ Below w.heap.size w w' := by
  have S := St.refl w
  have hxl : (hvl hs).length = 81 := by rw [hvl_length, hx]
  go_enter Try.func53, Try.ntmps53
  go_wp2_with (first
    | (refine W_box S rfl _ _ rfl (.agg (hvl hs).toArray) rfl ?_; clear S; intro ba w' S; change St _ _ (EB _ _ (hvl hs) :: _) at S)
    | (have hq := b0; clear hq; refine W_alloc S rfl 25 rfl _ Try.zeroValue25 ?_; clear S; intro bt w' S; change St _ _ (EB _ _ (hvl (List.replicate 81 0)) :: _) at S)
    | (refine W_alloc S rfl 25 rfl _ Try.zeroValue25 ?_; clear S; intro b0 w' S; change St _ _ (EB _ _ (hvl (List.replicate 81 0)) :: _) at S))
  go_loopw [4] (fun i wr => ∃ k : Nat, i = .int .i64 k ∧ k ≤ 9 ∧ St w wr [EB bt 25 (hvl (padI 0 hs (k * 9) 81)), EB b0 25 (hvl (List.replicate 81 0)), EB ba 25 (hvl hs)]) (fun i _ => 9 - (intOf i).toNat)
  case atStart => exact ⟨0, rfl, by omega, S⟩
  case round =>
    clear S
    obtain ⟨k, rfl, hk, S⟩ := hrel
    by_cases hkl : k < 9
    · have hrl := rowl_length hx hkl
      have hrl2 : (hvl (rowl hs k)).length = 9 := by rw [hvl_length, hrl]
      have hpl := padI_length 0 hs (k := k * 9) hx (by omega)
      have hpl2 : (hvl (padI 0 hs (k * 9) 81)).length = 81 := by rw [hvl_length, hpl]
      have HB : Hid (hvl (padI 0 hs ((k + 1) * 9) 81) = (hvl (padI 0 hs (k * 9) 81)).take (k * 9) ++ hvl (rowl hs k) ++ (hvl (padI 0 hs (k * 9) 81)).drop (k * 9 + 9)) := by
        show _ = _
        rw [Nat.succ_mul, padI_block 0 hs hx (by omega), hvl_append, hvl_append, hvl_take, hvl_drop]; rfl
      go_wp2_with (first
        | (refine W_loadN S rfl _ _ rfl ba (k * 9) rfl 2 _ (hvl hs) rfl (hvl (rowl hs k)) Try.isAgg24 (by rw [hrl2]; exact Try.sizeOf24) ?_ ?_; exact (fun jq uq hq => by
            rw [hvl_row, List.getElem?_take] at hq
            split at hq
            · rwa [List.getElem?_drop] at hq
            · cases hq))
        | (go_at_call 103; refine (toInt16A9_any (rowl hs k) hrl _).mono ?_; rintro e w1 ⟨rfl, hb⟩; replace S := S.callB hb; clear hb)
        | (refine W_storeN S rfl _ _ _ rfl bt (k * 9) rfl 0 _ (hvl (padI 0 hs (k * 9) 81)) rfl (.agg (hvl (rowl hs k)).toArray) rfl (by show ∀ w, _ = Result.ok (hvl (rowl hs k)).length w; rw [hrl2]; exact Try.sizeOf24) (hvl_one _) (hvl (padI 0 hs ((k + 1) * 9) 81)) ?_ ?_ ?_; (show k * 9 + (hvl (rowl hs k)).length ≤ _; rw [hrl2, hpl2]; omega); (show _ = _ ++ hvl (rowl hs k) ++ (hvl _).drop (k * 9 + (hvl (rowl hs k)).length); rw [hrl2]; exact HB.out); clear S; intro w' S; simp only [List.set_cons_zero, List.set_cons_succ] at S))
      refine ⟨⟨k + 1, by go_num, by omega, S⟩, ?_⟩
      simp [intOf]; omega
    · have hke : k = 9 := by omega
      subst hke
      rw [show 9 * 9 = 81 from rfl, padI_all 0 hs 81 hx] at S
      go_wp2_with (first
        | (refine W_loadN S rfl _ _ rfl _ _ rfl 0 _ _ rfl (hvl hs) Try.isAgg25 (by rw [hxl]; exact Try.sizeOf25) (fun jq uq hq => by rw [Nat.zero_add]; exact hq) ?_)
        | (refine W_storeW S rfl _ _ _ rfl _ rfl 1 _ _ rfl (hvl hs) rfl (by rw [hxl]; exact Try.sizeOf25) (by rw [hxl]; rfl) (hvl_one _) ?_; clear S; intro w' S; simp only [List.set_cons_zero, List.set_cons_succ] at S))
      exact W_ret_c rfl S _ rfl rfl 1 _ _ rfl Try.isAgg25 (by rw [hxl]; exact Try.sizeOf25) ⟨rfl, S.below⟩

set_option maxRecDepth 100000 in
set_option maxHeartbeats 400000 in
theorem toCellS_any (A : Option Addr) (c : Nat) (cs : List Pt) (hn : cs.length ≤ 1048576) (w : World) (hR : Rd w A (ccs cs)) :
    Calls Try.prog 54 #[.slice A cs.length c] w fun e w' => ∃ b, e = .returned (.slice (some ⟨b, 0, none⟩) cs.length cs.length) ∧ St w w' [EB b 43 (ccs cs)] := by
  have S := St.refl w
  go_enter Try.func54, Try.ntmps54
  go_wp2_with (first
    | (refine W_makeC S rfl _ _ rfl cs.length rfl rfl ?_ ?_; omega; clear S; intro bl w' S))
  go_loopw [4] (fun i wr => ∃ k : Nat, i = .int .i64 k ∧ k ≤ cs.length ∧ St w wr [EB bl 43 (ccs (padI (0, 0) cs k cs.length))]) (fun i _ => cs.length - (intOf i).toNat)
  case atStart => exact ⟨0, rfl, by omega, by rw [padI_0]; exact S⟩
  case round =>
    clear S
    obtain ⟨k, rfl, hk, S⟩ := hrel
    by_cases hkl : k < cs.length
    · obtain ⟨d, hd⟩ : ∃ d, cs[k]? = some d := ⟨_, List.getElem?_eq_getElem hkl⟩
      have HS := Lib.hid (padI_set (0, 0) cs rfl hkl hd)
      have hpl : k < (padI (0, 0) cs k cs.length).length := by rw [padI_length _ cs rfl (by omega)]; exact hkl
      have HD := Lib.hid hd; clear hd
      go_wp2_with (first
        | (refine W_index rfl _ _ _ rfl _ _ _ rfl _ rfl _ Try.underlying26 _ Try.sizeOf40 ?_ ?_ ?_ ?_; omega; omega; exact (hR.1 (ccs_ne HD.out)); intro bi oi hAi; subst hAi)
        | (refine W_elem cenc rfl _ _ rfl bi oi k 2 ?_ cs ?_ (fun _ => rfl) d ?_ Try.isAgg40 Try.sizeOf40 ?_; rfl; exact hR.st S; exact HD.out)
        | (go_at_call 17; refine (toCell_any d.1 d.2 _).mono ?_; rintro e w1 ⟨rfl, hb⟩; replace S := S.callB hb; clear hb)
        | (refine W_storeN S rfl _ _ _ rfl _ (k * 2) ?_ 0 _ (ccs ((padI (0, 0) cs k cs.length))) rfl (.agg (cenc (d)).toArray) ?_ Try.sizeOf43 (one_cells rfl) (ccs (((padI (0, 0) cs k cs.length)).set (k) (d))) ?_ ?_ ?_; rfl; rfl; exact ccs_room hpl; exact ccs_set hpl; clear S; intro w' S; simp only [List.set_cons_zero, List.set_cons_succ] at S))
      refine ⟨⟨k + 1, by go_num, by omega, by rw [← HS.out]; exact S⟩, ?_⟩
      simp [intOf]; omega
    · have hke : k = cs.length := by omega
      subst hke
      rw [padI_all _ cs _ rfl] at S
      go_wp2
      go_ret
      exact ⟨bl, rfl, S⟩
end Go.Proofs.Ytpfmmbdddecphaa
