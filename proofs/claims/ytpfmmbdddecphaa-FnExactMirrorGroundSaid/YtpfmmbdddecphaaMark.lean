/- The laws' marks: cells are written over, and looked at again. -/
import Derived.Test.YtpfmmbdddecphaaHeld
import Derived.Test.YtpfmmbdddecphaaOpen
namespace Go.Proofs.Ytpfmmbdddecphaa
open Go.RowKit Go.Sort
set_option linter.unusedVariables false
set_option linter.unusedSimpArgs false

/-- A row that reads as told. -/
def ERd (A : Option Addr) (xs : List Value) : Ent :=
  ⟨A.map (·.block), fun w => Rd w A xs, fun w w' h hw => ⟨hw.1, fun b o hA j u hu => by
    have h1 := hw.2 b o hA j u hu
    have h2 := h b (by rw [hA]; rfl)
    unfold World.cell? at h1 ⊢
    simp only [] at h1 ⊢
    rw [h2]; exact h1⟩⟩
theorem St.rdE {w0 w : World} {L : List Ent} (S : St w0 w L) {k : Nat} {A : Option Addr} {xs : List Value} (h : L[k]? = some (ERd A xs)) : Rd w A xs := S.get h
theorem ret_num {k : IntKind} {a b : Int} (h : a = b) : Value.int k a = .int k b := by rw [h]
theorem set_self {α : Type} {L : List α} {k : Nat} {e : α} (h : L[k]? = some e) : L.set k e = L := by
  apply List.ext_getElem?
  intro i
  by_cases hi : i = k
  · subst hi
    have hl : i < L.length := by
      rcases Nat.lt_or_ge i L.length with h' | h'
      · exact h'
      · rw [List.getElem?_eq_none h'] at h; cases h
    rw [List.getElem?_set_self hl, h]
  · rw [List.getElem?_set_ne (by omega)]
theorem some_lt {α : Type} {L : List α} {k : Nat} {e : α} (h : L[k]? = some e) : k < L.length := by
  rcases Nat.lt_or_ge k L.length with h' | h'
  · exact h'
  · rw [List.getElem?_eq_none h'] at h; cases h
/-- An owned row is nil, or a block. -/
theorem St.toEB {w0 w : World} {L : List Ent} (S : St w0 w L) {k : Nat} {e : TypeId} {sz n c : Nat} {A : Option Addr} {xs : List Value} (hk : L[k]? = some (ER e sz (.slice A n c) n xs)) :
    (A = none ∧ n = 0 ∧ xs = []) ∨ ∃ b rest, A = some ⟨b, 0, none⟩ ∧ xs.length = n * sz ∧ St w0 w (L.set k (EB b e (xs ++ rest))) := by
  have h := S.get hk
  obtain ⟨h1, h2⟩ := h
  rcases h2 with ⟨he, h0⟩ | ⟨g, cap, cur, he, hb, hh, h3, h4, h5, ht⟩
  · left
    injection he with he
    subst h0
    exact ⟨he, rfl, by simpa using h1⟩
  · right
    injection he with he hn hc
    subst he
    refine ⟨g, cur.toList.drop (n * sz), rfl, h1, ?_⟩
    refine S.mut k _ _ hk (grownBy_refl w _) ?_ (.inr (.inl rfl))
    show w.heap[g]? = some (.cells (xs ++ cur.toList.drop (n * sz)).toArray e (0, 0))
    rw [hh, ← ht, List.take_append_drop]
theorem St.toRd {w0 w : World} {L : List Ent} (S : St w0 w L) {k b : Nat} {t : TypeId} {xs rest : List Value} (hk : L[k]? = some (EB b t (xs ++ rest))) : St w0 w (L.set k (ERd (some ⟨b, 0, none⟩) xs)) :=
  S.mut k _ _ hk (grownBy_refl w _) (Rd.EB S hk 0 (fun j u hu => by
    rw [Nat.zero_add, List.getElem?_append_left (some_lt hu)]; exact hu)) (.inr (.inl rfl))
theorem St.nilRd {w0 w : World} {L : List Ent} (S : St w0 w L) {k : Nat} {e : Ent} (hk : L[k]? = some e) : St w0 w (L.set k (ERd none [])) :=
  S.mut k _ _ hk (grownBy_refl w _) (Rd.nil _ _) (.inl rfl)

def w8 (k : Int) : Int := IntKind.i8.wrap k
def markC (k : Int) (i : Nat) : Pt := (w8 (k + 2 * i), w8 (k + 2 * i + 1))
def markL (k : Int) (n : Nat) : List Pt := (List.range n).map (markC k)
theorem markL_length (k : Int) (n : Nat) : (markL k n).length = n := by simp [markL]
theorem markL_succ (k : Int) (n : Nat) : markL k (n + 1) = markL k n ++ [markC k n] := by simp [markL, List.range_succ]
theorem markL_at (k : Int) {i n : Nat} (h : i < n) : (markL k n)[i]? = some (markC k i) := by simp [markL, h]
def mixL (k : Int) (ys : List Pt) (i : Nat) : List Pt := markL k i ++ ys.drop i
theorem mixL_length (k : Int) (ys : List Pt) {i : Nat} (h : i ≤ ys.length) : (mixL k ys i).length = ys.length := by simp [mixL, markL_length]; omega
theorem mixL_set (k : Int) (ys : List Pt) {i : Nat} (h : i < ys.length) : (mixL k ys i).set i (markC k i) = mixL k ys (i + 1) := by
  unfold mixL
  rw [List.set_append_right _ _ (by rw [markL_length]; omega), markL_length, Nat.sub_self, markL_succ, List.append_assoc]
  congr 1
  rw [List.drop_eq_getElem_cons h]
  rfl
theorem ccs_set2 (zs : List Pt) (rest : List Value) {i : Nat} (h : i < zs.length) (p : Pt) : ((ccs zs ++ rest).set (i * 2) (.int .i8 p.1)).set (i * 2 + 1) (.int .i8 p.2) = ccs (zs.set i p) ++ rest := by
  have hl : (ccs zs).length = zs.length * 2 := ccs_length zs
  rw [List.set_append_left _ _ (by omega), List.set_append_left _ _ (by rw [List.length_set]; omega)]
  congr 1
  rw [ccs_set h]
  apply List.ext_getElem?
  intro j
  by_cases h1 : j = i * 2 + 1
  · subst h1
    rw [List.getElem?_set_self (by rw [List.length_set]; omega), List.append_assoc, List.getElem?_append_right (by rw [List.length_take]; omega), List.length_take, show i * 2 + 1 - min (i * 2) (ccs zs).length = 1 by omega]
    rfl
  · rw [List.getElem?_set_ne (by omega)]
    by_cases h2 : j = i * 2
    · subst h2
      rw [List.getElem?_set_self (by omega), List.append_assoc, List.getElem?_append_right (by rw [List.length_take]; omega), List.length_take, show i * 2 - min (i * 2) (ccs zs).length = 0 by omega]
      rfl
    · rw [List.getElem?_set_ne (by omega)]
      rcases Nat.lt_or_ge j (i * 2) with h3 | h3
      · rw [List.append_assoc, List.getElem?_append_left (by rw [List.length_take]; omega), List.getElem?_take, if_pos h3]
      · rw [List.getElem?_append_right (by simp [cenc]; omega), List.getElem?_drop]
        congr 1
        simp [cenc]; omega

set_option maxRecDepth 100000 in
set_option maxHeartbeats 1000000 in
theorem markCellS_any (w0 w : World) (L : List Ent) (S : St w0 w L) (j : Nat) (A : Option Addr) (n c : Nat) (ys : List Pt) (hj : L[j]? = some (ER 43 2 (.slice A n c) n (ccs ys))) (k : Int) (hk : 0 ≤ k ∧ k ≤ 1000000000) (hn : n ≤ 4000000) :
    Calls Try.prog 21 #[.slice A n c, .int .i64 k] w fun e w' => e = .returned (.int .i64 (k + 2 * n)) ∧ St w0 w' (L.set j (ERd A (ccs (markL k n)))) := by
  rcases S.toEB hj with ⟨rfl, rfl, _⟩ | ⟨b, rest, rfl, hl, S1⟩
  · have HS := Lib.hid (S.nilRd hj)
    go_enter Try.func21, Try.ntmps21
    go_wp2
    refine wp_loop_rounds 1 ?_
    rw [rounds_succ]
    go_wp2
    go_ret
    exact ⟨ret_i (by simp), HS.out⟩
  · have hyl : ys.length = n := by rw [ccs_length] at hl; omega
    have hjl := some_lt hj
    clear S hj hl
    go_enter Try.func21, Try.ntmps21
    go_wp2
    go_loopw [1, 5] (fun u i wr => ∃ i' : Nat, i = .int .i64 i' ∧ i' ≤ n ∧ u = .int .i64 (k + 2 * i') ∧ St w0 wr (L.set j (EB b 43 (ccs (mixL k ys i') ++ rest)))) (fun _ i _ => n - (intOf i).toNat)
    case atStart => exact ⟨0, rfl, by omega, by simp, S1⟩
    case round =>
      clear S1
      obtain ⟨i, rfl, hi, rfl, S⟩ := hrel
      by_cases hil : i < n
      · have hml := mixL_length k ys (i := i) (by omega)
        have hcl := ccs_length (mixL k ys i)
        have HE := Lib.hid (ccs_set2 (mixL k ys i) rest (i := i) (by omega) (markC k i))
        have HM := Lib.hid (mixL_set k ys (i := i) (by omega))
        have hle : i * 2 + 1 < (ccs (mixL k ys i) ++ rest).length := by rw [List.length_append]; omega
        clear hcl hml
        go_wp2_with (first
          | ((with_reducible refine at_store_ 22 rfl rfl ?_); (refine W_store1 S rfl _ _ _ rfl b (i * 2) rfl j _ _ (List.getElem?_set_self hjl) (.int .i8 (w8 (k + 2 * i))) rfl rfl Try.sizeOf22 rfl (by omega) ?_; clear S; intro w' S; rw [List.set_set] at S))
          | ((with_reducible refine at_store_ 22 rfl rfl ?_); (refine W_store1 S rfl _ _ _ rfl b (i * 2 + 1) rfl j _ _ (List.getElem?_set_self hjl) (.int .i8 (w8 (k + 2 * i + 1))) rfl rfl Try.sizeOf22 rfl (by rw [List.length_set]; omega) ?_; clear S; intro w' S; rw [List.set_set] at S)))
        refine ⟨⟨i + 1, by go_num, by omega, by rw [ret_num (show k + 2 * (i : Int) + 1 + 1 = k + 2 * ((i + 1 : Nat) : Int) by omega)], by rw [← HM.out, ← HE.out]; exact S⟩, ?_⟩
        simp [intOf]; omega
      · have hie : i = n := by omega
        subst hie
        have HM : Hid (mixL k ys i = markL k i) := by show _ = _; unfold mixL; rw [List.drop_eq_nil_of_le (by omega), List.append_nil]
        rw [HM.out] at S
        have HS := Lib.hid (S.toRd (List.getElem?_set_self hjl))
        rw [List.set_set] at HS
        go_wp2
        go_ret
        exact ⟨rfl, HS.out⟩

set_option maxRecDepth 100000 in
set_option maxHeartbeats 1000000 in
theorem heldCellS_any (A : Option Addr) (n c : Nat) (k : Int) (hk : 0 ≤ k ∧ k ≤ 1000000000) (hn : n ≤ 4000000) (w : World) (hR : Rd w A (ccs (markL k n))) :
    Calls Try.prog 22 #[.slice A n c, .int .i64 k] w fun e w' => e = .returned (.int .i64 (k + 2 * n)) ∧ Below w.heap.size w w' := by
  have S := St.refl w
  go_enter Try.func22, Try.ntmps22
  go_wp2
  go_loopw [1, 5] (fun u i wr => ∃ i' : Nat, i = .int .i64 i' ∧ i' ≤ n ∧ u = .int .i64 (k + 2 * i') ∧ St w wr []) (fun _ i _ => n - (intOf i).toNat)
  case atStart => exact ⟨0, rfl, by omega, by simp, S⟩
  case round =>
    clear S
    obtain ⟨i, rfl, hi, rfl, S⟩ := hrel
    by_cases hil : i < n
    · have HD := Lib.hid (markL_at k hil)
      obtain ⟨bi, oi, hA⟩ := hR.1 (ccs_ne HD.out)
      subst hA
      have hRd := hR.st S
      have hc0 := hRd.2 bi oi rfl (i * 2 + 0) (.int .i8 (w8 (k + 2 * i))) (cells_mid cenc 2 (fun _ => rfl) _ i _ HD.out 0 _ rfl)
      have hc1 := hRd.2 bi oi rfl (i * 2 + 1) (.int .i8 (w8 (k + 2 * i + 1))) (cells_mid cenc 2 (fun _ => rfl) _ i _ HD.out 1 _ rfl)
      have e1 : (w8 (k + 2 * i) != IntKind.i8.wrap (k + 2 * i)) = false := by unfold w8; simp
      have e2 : (w8 (k + 2 * i + 1) != IntKind.i8.wrap (k + 2 * i + 1)) = false := by unfold w8; simp
      rw [Nat.add_zero] at hc0
      rw [← Nat.add_assoc] at hc1
      have H0 := Lib.hid hc0
      have H1 := Lib.hid hc1
      clear hc0 hc1
      go_wp2_with (first
        | ((with_reducible refine at_load_ 22 rfl rfl ?_); (refine W_load1C rfl _ _ rfl ⟨bi, oi + i * 2, none⟩ rfl _ Try.isAgg22 H0.out ?_))
        | ((with_reducible refine at_load_ 22 rfl rfl ?_); (refine W_load1C rfl _ _ rfl ⟨bi, oi + i * 2 + 1, none⟩ rfl _ Try.isAgg22 H1.out ?_)))
      refine ⟨⟨i + 1, by go_num, by omega, by rw [ret_num (show k + 2 * (i : Int) + 1 + 1 = k + 2 * ((i + 1 : Nat) : Int) by omega)], S⟩, ?_⟩
      simp [intOf]; omega
    · have hie : i = n := by omega
      subst hie
      go_wp2
      go_ret
      exact ⟨rfl, S.below⟩

set_option maxRecDepth 100000 in
set_option maxHeartbeats 1000000 in
theorem markGround_any (G : Gnd) (hG : G.Ok) (w0 w : World) (L : List Ent) (S : St w0 w L) (j b : Nat) (hj : L[j]? = some (EB b 43 (ccs G.gul))) (k : Int) (hk : 0 ≤ k ∧ k ≤ 1000000000) (hn : G.gul.length ≤ 4000000) :
    Calls Try.prog 20 #[gv G (.slice (some ⟨b, 0, none⟩) G.gul.length G.gul.length), .int .i64 k] w fun e w' => e = .returned (.int .i64 (k + 2 * G.gul.length)) ∧ St w0 w' (L.set j (ERd (some ⟨b, 0, none⟩) (ccs (markL k G.gul.length)))) := by
  have hjl := some_lt hj
  have hl := ccs_length G.gul
  replace S := S.own j b _ _ hj 2 G.gul.length G.gul.length (ccs G.gul) hl (Nat.le_refl _) (by unfold maxLen; omega) hl (by rw [List.take_of_length_le]; omega)
  clear hl hj
  go_enter Try.func20, Try.ntmps20
  go_wp2_with (first
    | ((with_reducible refine at_box_ 34 rfl rfl ?_); (refine W_box S rfl _ _ rfl (gv G (.slice (some ⟨b, 0, none⟩) G.gul.length G.gul.length)) rfl ?_; clear S; intro bg w' S; change St _ _ (EB _ _ (gcs G (.slice (some ⟨b, 0, none⟩) G.gul.length G.gul.length)) :: _) at S))
    | ((with_reducible refine at_load_ 32 rfl rfl ?_); (refine W_load1 S rfl _ _ rfl bg 83 rfl 0 _ _ rfl (.slice (some ⟨b, 0, none⟩) G.gul.length G.gul.length) Try.isAgg32 (gcs_gul hG.len _) ?_))
    | (go_at_call 21; refine Calls.mono (markCellS_any _ _ _ S (j + 1) (some ⟨b, 0, none⟩) _ _ G.gul (by rw [List.getElem?_cons_succ, List.getElem?_set_self hjl]) k hk hn) ?_; rintro e w1 ⟨rfl, S2⟩; replace S := S2; clear S2; rw [List.set_cons_succ, List.set_set] at S))
  go_ret
  exact ⟨rfl, S.tail⟩

set_option maxRecDepth 100000 in
set_option maxHeartbeats 1000000 in
theorem heldGround_any (G : Gnd) (hG : G.Ok) (A : Option Addr) (c : Nat) (n : Nat) (k : Int) (hk : 0 ≤ k ∧ k ≤ 1000000000) (hn : n ≤ 4000000) (w : World) (hR : Rd w A (ccs (markL k n))) :
    Calls Try.prog 29 #[gv G (.slice A n c), .int .i64 k] w fun e w' => e = .returned (.int .i64 (k + 2 * n)) ∧ Below w.heap.size w w' := by
  have S := St.refl w
  go_enter Try.func29, Try.ntmps29
  go_wp2_with (first
    | ((with_reducible refine at_box_ 34 rfl rfl ?_); (refine W_box S rfl _ _ rfl (gv G (.slice A n c)) rfl ?_; clear S; intro bg w' S; change St _ _ (EB _ _ (gcs G (.slice A n c)) :: _) at S))
    | ((with_reducible refine at_load_ 32 rfl rfl ?_); (refine W_load1 S rfl _ _ rfl bg 83 rfl 0 _ _ rfl (.slice A n c) Try.isAgg32 (gcs_gul hG.len _) ?_))
    | (go_at_call 22; refine (heldCellS_any A n c k hk hn _ (hR.st S)).mono ?_; rintro e w1 ⟨rfl, hb⟩; replace S := S.callB hb; clear hb))
  go_ret
  exact ⟨rfl, S.below⟩
end Go.Proofs.Ytpfmmbdddecphaa
