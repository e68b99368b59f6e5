/- slices.IndexFunc, DeleteFunc at cells; (Square).cells. -/
import Derived.Test.YtpfmmbdddecphaaOpb
import Derived.Test.YtpfmmbdddecphaaGnd
import Derived.Shelf.Abstract
namespace Go.Proofs.Ytpfmmbdddecphaa
open Go.RowKit Go.Sort
set_option linter.unusedVariables false
set_option linter.unusedSimpArgs false

def firstI {α : Type} (p : α → Bool) (xs : List α) : Int := if xs.any p = true then (xs.findIdx p : Int) else -1
theorem firstI_at {α : Type} {p : α → Bool} {xs : List α} {k : Nat} {x : α} (h : xs[k]? = some x) (hp : p x = true) (hb : ∀ j y, j < k → xs[j]? = some y → p y = false) : firstI p xs = k := by
  have hk : k < xs.length := by
    rcases Nat.lt_or_ge k xs.length with h' | h'
    · exact h'
    · rw [List.getElem?_eq_none h'] at h; cases h
  have hx : xs[k] = x := by rw [List.getElem?_eq_getElem hk] at h; injection h
  have ha : xs.any p = true := List.any_eq_true.2 ⟨x, by rw [← hx]; exact List.getElem_mem hk, hp⟩
  unfold firstI
  rw [if_pos ha]
  have : xs.findIdx p = k := by
    rw [List.findIdx_eq hk]
    refine ⟨by rw [hx]; exact hp, fun j hj => ?_⟩
    have := hb j (xs[j]'(by omega)) hj (List.getElem?_eq_getElem (by omega))
    simpa using this
  rw [this]
theorem firstI_no {α : Type} {p : α → Bool} {xs : List α} (hb : ∀ j y, j < xs.length → xs[j]? = some y → p y = false) : firstI p xs = -1 := by
  unfold firstI
  rw [if_neg]
  simp only [List.any_eq_true, not_exists, not_and]
  intro x hx
  obtain ⟨j, hj, rfl⟩ := List.mem_iff_getElem.1 hx
  rw [hb j _ hj (List.getElem?_eq_getElem hj)]; simp
theorem upto_more {α : Type} {xs : List α} {q : α → Prop} {k : Nat} {x : α} (hb : ∀ j y, j < k → xs[j]? = some y → q y) (h : xs[k]? = some x) (hp : q x) : ∀ j y, j < k + 1 → xs[j]? = some y → q y := fun j y hj hy => by
  rcases Nat.lt_or_ge j k with h1 | h1
  · exact hb j y h1 hy
  · have : j = k := by omega
    subst this; rw [h] at hy; injection hy with hy; subst hy; exact hp

set_option maxRecDepth 100000 in
set_option maxHeartbeats 1000000 in
theorem indexFunc_any (A : Option Addr) (c : Nat) (xs : List Pt) (p : Pt → Bool) (kf : Nat) (caps : Array Value) (w : World) (hR : Rd w A (ccs xs)) (hn : xs.length ≤ maxLen) (eg : ∀ args w, (callFunc kf args).run Try.prog w = .ok (.enter kf args) w)
    (hf : ∀ x ∈ xs, ∀ w', Below w.heap.size w w' → Calls Try.prog kf (#[cv x] ++ caps) w' fun e w'' => e = .returned (.bool (p x)) ∧ Below w'.heap.size w' w'') :
    Calls Try.prog 142 #[.slice A xs.length c, .func (.func kf) #[] caps] w fun e w' => e = .returned (.int .i64 (firstI p xs)) ∧ Below w.heap.size w w' := by
  have S := St.refl w
  unfold maxLen at hn
  go_enter Try.func142, Try.ntmps142
  go_wp2
  go_loopw [8] (fun i wr => ∃ k : Nat, k ≤ xs.length ∧ i = .int .i64 k ∧ Hid (∀ j y, j < k → xs[j]? = some y → p y = false) ∧ St w wr []) (fun i _ => xs.length - (intOf i).toNat)
  case atStart => exact ⟨0, by omega, rfl, fun j y h => absurd h (by omega), S⟩
  case round =>
    obtain ⟨k, hk, rfl, HK, S⟩ := hrel
    by_cases hkl : k < xs.length
    · obtain ⟨d, hd⟩ : ∃ d, xs[k]? = some d := ⟨_, List.getElem?_eq_getElem hkl⟩
      have hdm := List.mem_of_getElem? hd
      have HD := Lib.hid hd; clear hd
      have HF := fun w' hb => hf d hdm w' hb
      go_wp2_with (first
        | (refine W_index rfl _ _ _ rfl _ _ _ rfl _ rfl _ Try.underlying32 _ Try.sizeOf43 ?_ ?_ ?_ ?_; omega; omega; exact (hR.1 (ccs_ne HD.out)); intro bi oi hAi; subst hAi)
        | (refine W_elem cenc rfl _ _ rfl bi oi (k) 2 ?_ (xs) ?_ (fun _ => rfl) (d) ?_ Try.isAgg43 Try.sizeOf43 ?_; rfl; exact (hR.st S); exact HD.out)
        | (go_at_fn kf; refine Calls.mono (HF _ S.below) ?_; rintro e w1 ⟨rfl, hb⟩; replace S := S.callB hb; clear hb))
      · go_ret; exact ⟨ret_i (firstI_at HD.out (by assumption) HK.out).symm, S.below⟩
      · refine ⟨⟨k + 1, by omega, by go_num, upto_more HK.out HD.out (by assumption), S⟩, ?_⟩
        simp [intOf]; omega
    · have hke : k = xs.length := by omega
      subst hke
      go_wp2
      go_ret; exact ⟨ret_i (firstI_no HK.out).symm, S.below⟩

theorem firstI_cases {α : Type} (p : α → Bool) (xs : List α) : (firstI p xs = -1 ∧ ∀ x ∈ xs, p x = false) ∨ ∃ (k : Nat) (x : α), xs[k]? = some x ∧ p x = true ∧ firstI p xs = k ∧ ∀ j y, j < k → xs[j]? = some y → p y = false := by
  by_cases h : xs.any p = true
  · right
    have hk : xs.findIdx p < xs.length := List.findIdx_lt_length.2 (List.any_eq_true.1 h)
    refine ⟨xs.findIdx p, xs[xs.findIdx p], List.getElem?_eq_getElem hk, List.findIdx_getElem, by unfold firstI; rw [if_pos h], fun j y hj hy => ?_⟩
    have h1 := List.not_of_lt_findIdx hj
    rw [List.getElem?_eq_getElem (by omega)] at hy
    injection hy with hy
    rw [hy] at h1; simpa using h1
  · left
    refine ⟨by unfold firstI; rw [if_neg h], fun x hx => ?_⟩
    cases hp : p x with
    | false => rfl
    | true => exact absurd (List.any_eq_true.2 ⟨x, hx, hp⟩) h

def kept {α : Type} (p : α → Bool) (xs : List α) : List α := xs.filter fun x => !p x
theorem kept_none {α : Type} {p : α → Bool} {xs : List α} (h : ∀ x ∈ xs, p x = false) : kept p xs = xs := by
  unfold kept; rw [List.filter_eq_self]; intro x hx; simp [h x hx]
theorem kept_step {α : Type} (p : α → Bool) {xs : List α} {j : Nat} {x : α} (h : xs[j]? = some x) : kept p (xs.take (j + 1)) = kept p (xs.take j) ++ if p x = true then [] else [x] := by
  unfold kept
  have hj : j < xs.length := by
    rcases Nat.lt_or_ge j xs.length with h' | h'
    · exact h'
    · rw [List.getElem?_eq_none h'] at h; cases h
  rw [List.take_add_one, h, List.filter_append]
  cases hp : p x <;> simp [hp]
/-- How a row stands while it is gone through: the first i are those that are kept, from j on it is as it was. -/
structure Del (p : Pt → Bool) (xs ys : List Pt) (i j : Nat) : Prop where
  len : ys.length = xs.length
  le : i ≤ j
  lj : j ≤ xs.length
  head : ys.take i = kept p (xs.take j)
  cnt : i = (kept p (xs.take j)).length
  tail : ys.drop j = xs.drop j
theorem Del.start {p : Pt → Bool} {xs : List Pt} {k : Nat} {x : Pt} (h : xs[k]? = some x) (hp : p x = true) (hb : ∀ j y, j < k → xs[j]? = some y → p y = false) : Del p xs xs k (k + 1) := by
  have hj : k < xs.length := by
    rcases Nat.lt_or_ge k xs.length with h' | h'
    · exact h'
    · rw [List.getElem?_eq_none h'] at h; cases h
  have e : kept p (xs.take (k + 1)) = xs.take k := by
    rw [kept_step p h, if_pos hp, List.append_nil, kept_none]
    intro y hy
    obtain ⟨i, hi, rfl⟩ := List.mem_iff_getElem.1 hy
    simp only [List.length_take] at hi
    refine hb i _ (by omega) ?_
    rw [List.getElem_take, List.getElem?_eq_getElem]
  exact ⟨rfl, by omega, by omega, e.symm, by rw [e, List.length_take]; omega, rfl⟩
theorem Del.at {p : Pt → Bool} {xs ys : List Pt} {i j : Nat} {x : Pt} (D : Del p xs ys i j) (h : xs[j]? = some x) : ys[j]? = some x := by
  have := congrArg (·[0]?) D.tail
  simpa [h] using this
theorem Del.keep {p : Pt → Bool} {xs ys : List Pt} {i j : Nat} {x : Pt} (D : Del p xs ys i j) (h : xs[j]? = some x) (hp : p x = false) : Del p xs (ys.set i x) (i + 1) (j + 1) := by
  have hj : j < xs.length := by
    rcases Nat.lt_or_ge j xs.length with h' | h'
    · exact h'
    · rw [List.getElem?_eq_none h'] at h; cases h
  have e := kept_step p h
  rw [if_neg (by simp [hp])] at e
  have hl := D.len
  have hle := D.le
  refine ⟨by simp [hl], by omega, by omega, ?_, by rw [e, List.length_append, ← D.cnt]; rfl, ?_⟩
  · rw [e, ← D.head, List.take_add_one, List.getElem?_set_self (by omega), List.take_set_of_le (by omega)]; rfl
  · rw [List.drop_set_of_lt (by omega)]
    rw [← List.drop_drop (j := j) (i := 1), ← List.drop_drop (j := j) (i := 1), D.tail]
theorem Del.drop {p : Pt → Bool} {xs ys : List Pt} {i j : Nat} {x : Pt} (D : Del p xs ys i j) (h : xs[j]? = some x) (hp : p x = true) : Del p xs ys i (j + 1) := by
  have hj : j < xs.length := by
    rcases Nat.lt_or_ge j xs.length with h' | h'
    · exact h'
    · rw [List.getElem?_eq_none h'] at h; cases h
  have e := kept_step p h
  rw [if_pos hp, List.append_nil] at e
  have hle := D.le
  exact ⟨D.len, by omega, by omega, by rw [e]; exact D.head, by rw [e]; exact D.cnt, by
    rw [← List.drop_drop (j := j) (i := 1), ← List.drop_drop (j := j) (i := 1), D.tail]⟩
theorem Del.last {p : Pt → Bool} {xs ys : List Pt} {i : Nat} (D : Del p xs ys i xs.length) : ys.take i = kept p xs ∧ i = (kept p xs).length := by
  have h1 := D.head
  have h2 := D.cnt
  rw [List.take_length] at h1 h2
  exact ⟨h1, h2⟩

theorem del_room0 {n m l : Nat} (h : l = m * 2) (hm : m = n) : n * 2 + 0 * 2 ≤ l := by omega
theorem del_room {n i m l : Nat} (h : l = m * 2) (hm : m = n) (hi : i ≤ n) : i * 2 + (n - i) * 2 ≤ l := by omega
theorem ccs_length (xs : List Pt) : (ccs xs).length = xs.length * 2 := flat_length cenc 2 (fun _ => rfl) xs
theorem ccs_room {xs : List Pt} {i : Nat} (h : i < xs.length) : i * 2 + 2 ≤ (ccs xs).length := by rw [ccs_length]; omega
theorem ccs_set {xs : List Pt} {i : Nat} {x : Pt} (h : i < xs.length) : ccs (xs.set i x) = (ccs xs).take (i * 2) ++ cenc x ++ (ccs xs).drop (i * 2 + 2) := flat_set cenc 2 (fun _ => rfl) xs i h x

set_option maxRecDepth 100000 in
set_option maxHeartbeats 1000000 in
theorem deleteFunc_any (w0 w : World) (L : List Ent) (b : Nat) (xs : List Pt) (p : Pt → Bool) (kf : Nat) (caps : Array Value) (S : St w0 w (EB b 43 (ccs xs) :: L)) (hn : xs.length ≤ 1000000) (eg : ∀ args w, (callFunc kf args).run Try.prog w = .ok (.enter kf args) w)
    (hf : ∀ x ∈ xs, ∀ w' ys, St w0 w' (EB b 43 ys :: L) → Calls Try.prog kf (#[cv x] ++ caps) w' fun e w'' => e = .returned (.bool (p x)) ∧ Below w'.heap.size w' w'') :
    Calls Try.prog 135 #[.slice (some ⟨b, 0, none⟩) xs.length xs.length, .func (.func kf) #[] caps] w fun e w' =>
      e = .returned (.slice (some ⟨b, 0, none⟩) (kept p xs).length xs.length) ∧ St w0 w' (ER 43 2 (.slice (some ⟨b, 0, none⟩) (kept p xs).length xs.length) (kept p xs).length (ccs (kept p xs)) :: L) := by
  have hfi := indexFunc_any (some ⟨b, 0, none⟩) xs.length xs p kf caps w (Rd.EB S (k := 0) rfl 0 (fun j u hu => by rw [Nat.zero_add]; exact hu)) (by unfold maxLen; omega) eg (fun x hx w' hb => hf x hx w' _ (S.callB hb))
  rcases firstI_cases p xs with ⟨hi, ha⟩ | ⟨k, x, hx, hp, hi, hb⟩
  · rw [hi] at hfi
    go_enter Try.func135, Try.ntmps135
    go_wp2_with (go_at_call 142; refine hfi.mono ?_; rintro e w1 ⟨rfl, hb⟩; replace S := S.callB hb; clear hb)
    go_ret
    rw [kept_none ha]
    exact ⟨rfl, S.own 0 b _ _ rfl 2 xs.length xs.length (ccs xs) (ccs_length xs) (Nat.le_refl _) (by unfold maxLen; omega) (ccs_length xs) (by rw [List.take_of_length_le]; rw [ccs_length]; omega)⟩
  · rw [hi] at hfi
    have HD := Lib.hid (Del.start hx hp hb)
    have hkx : k < xs.length := by
      rcases Nat.lt_or_ge k xs.length with h' | h'
      · exact h'
      · rw [List.getElem?_eq_none h'] at hx; cases hx
    clear hx hp hb hi
    have hkn : ((k : Int) == -1) = false := beq_eq_false_iff_ne.2 (by omega)
    go_enter Try.func135, Try.ntmps135
    go_wp2_with (go_at_call 142; refine hfi.mono ?_; rintro e w1 ⟨rfl, hb⟩; replace S := S.callB hb; clear hb)
    go_loopw [5, 6] (fun i j wr => ∃ (k l : Nat) (ys : List Pt), i = .int .i64 k ∧ j = .int .i64 l ∧ Hid (Del p xs ys k l) ∧ St w0 wr (EB b 43 (ccs ys) :: L)) (fun _ j _ => xs.length - (intOf j).toNat)
    case atStart => exact ⟨k, k + 1, xs, rfl, by go_num, HD, S⟩
    case round =>
      obtain ⟨i, j, ys, rfl, rfl, HD, S⟩ := hrel
      have d1 := HD.out.le
      have d2 := HD.out.lj
      have d3 := HD.out.len
      by_cases hjl : j < xs.length
      · obtain ⟨d, hd⟩ : ∃ d, xs[j]? = some d := ⟨_, List.getElem?_eq_getElem hjl⟩
        have hdm := List.mem_of_getElem? hd
        have HX := Lib.hid hd; clear hd
        have hi : i < ys.length := by omega
        go_wp2_with (first
          | (refine W_loadN S rfl _ _ rfl _ (j * 2) ?_ 0 _ (ccs (ys)) rfl (cenc (d)) Try.isAgg43 Try.sizeOf43 ?_ ?_; rfl; exact fun jq uq hq => cells_mid cenc 2 (fun _ => rfl) (ys) (j) (d) (HD.out.at HX.out) jq uq hq)
          | (refine W_alloc S rfl _ rfl _ Try.zeroValue43 ?_; clear S; intro bc w' S; change St _ _ (EB _ _ ([.int .i8 0, .int .i8 0]) :: _) at S)
          | (refine W_storeN S rfl _ _ _ rfl _ _ rfl 0 _ _ rfl (.agg #[.int .i8 d.1, .int .i8 d.2]) rfl Try.sizeOf43 (one_cells rfl) [.int .i8 d.1, .int .i8 d.2] (Nat.le_refl _) rfl ?_; clear S; intro w' S; simp only [List.set_cons_zero, List.set_cons_succ] at S)
          | (refine W_loadN S rfl _ _ rfl _ _ rfl 0 _ _ rfl (cenc d) Try.isAgg43 Try.sizeOf43 (fun jq uq hq => by rw [Nat.zero_add]; exact hq) ?_)
          | (go_at_fn kf; refine Calls.mono (hf d hdm _ _ S.tail) ?_; rintro e w1 ⟨rfl, hb⟩; replace S := S.callB hb; clear hb)
          | (refine W_storeN S rfl _ _ _ rfl _ (i * 2) ?_ 1 _ (ccs (ys)) rfl (.agg (cenc (d)).toArray) ?_ Try.sizeOf43 (one_cells rfl) (ccs ((ys).set (i) (d))) ?_ ?_ ?_; rfl; rfl; exact ccs_room hi; exact ccs_set hi; clear S; intro w' S; simp only [List.set_cons_zero, List.set_cons_succ] at S))
        · refine ⟨⟨i + 1, j + 1, ys.set i d, by go_num, by go_num, HD.out.keep HX.out (by cases hpd : p d <;> simp_all), S.tail⟩, ?_⟩
          simp [intOf]; omega
        · refine ⟨⟨i, j + 1, ys, rfl, by go_num, HD.out.drop HX.out (by cases hpd : p d <;> simp_all), S.tail⟩, ?_⟩
          simp [intOf]; omega
      · have hje : j = xs.length := by omega
        subst hje
        have HL := Lib.hid HD.out.last
        have hlc := ccs_length ys
        by_cases hin : i < xs.length
        · go_wp2_with (first
            | (refine W_clear S rfl _ _ rfl 0 _ _ _ rfl (i * 2) (i * 2) (xs.length - i) (xs.length - i) ?_ ?_ _ Try.underlying32 _ Try.zeroValue43 (one_cells rfl) ?_ ?_; rfl; omega; exact del_room hlc d3 d1; clear S; intro w' cs' hl' ht' S; simp only [List.set_cons_zero, List.set_cons_succ] at S))
          go_ret
          obtain ⟨e1, e2⟩ := HL.out
          rw [← e2, ← e1]
          exact ⟨rfl, S.own 0 b _ _ rfl 2 i xs.length (ccs (ys.take i)) (by rw [hl', hlc, d3]) d1 (by unfold maxLen; omega) (by rw [ccs_length, List.length_take, d3, Nat.min_eq_left d1]) (by rw [ht']; exact flat_take cenc 2 (fun _ => rfl) ys i)⟩
        · have hie : i = xs.length := by omega
          subst hie
          go_wp2_with (first
            | (refine W_clear S rfl _ _ rfl 0 _ _ _ rfl (xs.length * 2) (0) (0) (0) ?_ ?_ _ Try.underlying32 _ Try.zeroValue43 (one_cells rfl) ?_ ?_; rfl; omega; exact del_room0 hlc d3; clear S; intro w' cs' hl' ht' S; simp only [List.set_cons_zero, List.set_cons_succ] at S))
          go_ret
          obtain ⟨e1, e2⟩ := HL.out
          rw [← e2, ← e1]
          exact ⟨rfl, S.own 0 b _ _ rfl 2 xs.length xs.length (ccs (ys.take xs.length)) (by rw [hl', hlc, d3]) d1 (by unfold maxLen; omega) (by rw [ccs_length, List.length_take, d3, Nat.min_self]) (by
            rw [ht']; exact flat_take cenc 2 (fun _ => rfl) ys xs.length)⟩
end Go.Proofs.Ytpfmmbdddecphaa
