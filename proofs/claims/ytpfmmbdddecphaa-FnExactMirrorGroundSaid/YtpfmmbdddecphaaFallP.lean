/- How water runs, in plain words: the lowest point beside, the run. -/
import Derived.Test.YtpfmmbdddecphaaSpecF
namespace Go.Proofs.Ytpfmmbdddecphaa
open Go.RowKit Go.Sort
set_option linter.unusedVariables false
set_option linter.unusedSimpArgs false

def lowS (G : Gnd) (b c : Pt) : Pt := if G.h c < G.h b then c else b
def lowL (G : Gnd) (c : Pt) : Pt := (besideL G c).foldl (lowS G) c
theorem lowS_yes {G : Gnd} {b c : Pt} (h : G.h c < G.h b) : lowS G b c = c := if_pos h
theorem lowS_no {G : Gnd} {b c : Pt} (h : ¬ G.h c < G.h b) : lowS G b c = b := if_neg h
theorem fold_more {α β : Type} {f : β → α → β} {b : β} {xs : List α} {k : Nat} {x : α} (h : xs[k]? = some x) : (xs.take (k + 1)).foldl f b = f ((xs.take k).foldl f b) x := by
  rw [List.take_add_one, h, List.foldl_append]; rfl
theorem low_inv {G : Gnd} (P : Pt → Prop) (xs : List Pt) (hx : ∀ x ∈ xs, P x) (b : Pt) (hb : P b) : P (xs.foldl (lowS G) b) := by
  induction xs generalizing b with
  | nil => exact hb
  | cons y ys ih =>
    refine ih (fun x h => hx x (List.mem_cons_of_mem _ h)) _ ?_
    unfold lowS
    split
    · exact hx y (List.mem_cons_self ..)
    · exact hb
theorem low_cell {G : Gnd} {c : Pt} (hc : isCellB G.wide G.high c = true) (k : Nat) : isCellB G.wide G.high (((besideL G c).take k).foldl (lowS G) c) = true :=
  low_inv (fun d => isCellB G.wide G.high d = true) _ (fun x hx => beside_cell (List.mem_of_mem_take hx)) c hc
theorem lowL_cell {G : Gnd} {c : Pt} (hc : isCellB G.wide G.high c = true) : isCellB G.wide G.high (lowL G c) = true :=
  low_inv (fun d => isCellB G.wide G.high d = true) _ (fun x hx => beside_cell hx) c hc
theorem low_le {G : Gnd} (xs : List Pt) (b : Pt) : (xs.foldl (lowS G) b = b ∨ G.h (xs.foldl (lowS G) b) < G.h b) := by
  induction xs generalizing b with
  | nil => exact .inl rfl
  | cons y ys ih =>
    show ys.foldl (lowS G) (lowS G b y) = b ∨ G.h (ys.foldl (lowS G) (lowS G b y)) < G.h b
    by_cases h : G.h y < G.h b
    · rw [lowS_yes h]
      rcases ih y with h1 | h1
      · rw [h1]; exact .inr h
      · exact .inr (by omega)
    · rw [lowS_no h]; exact ih b
theorem lowL_lt {G : Gnd} {c : Pt} (h : lowL G c ≠ c) : G.h (lowL G c) < G.h c := (low_le _ c).resolve_left h
def neC (c d : Pt) : Bool := !decide (c = d)
theorem neC_t {c d : Pt} : neC c d = true ↔ c ≠ d := by simp [neC]
theorem neC_f {c d : Pt} : neC c d = false ↔ c = d := by simp [neC]
/-- Whether water runs on from a point, and to which. -/
def falls (G : Gnd) (c : Pt) : Bool := !decide (c ∈ G.gul) && neC (lowL G c) c
def fallTo (G : Gnd) (c : Pt) : Pt := if c ∈ G.gul then c else lowL G c
theorem fallTo_gul {G : Gnd} {c : Pt} (h : c ∈ G.gul) : fallTo G c = c := if_pos h
theorem fallTo_no {G : Gnd} {c : Pt} (h : c ∉ G.gul) : fallTo G c = lowL G c := if_neg h
theorem falls_gul {G : Gnd} {c : Pt} (h : c ∈ G.gul) : falls G c = false := by simp [falls, h]
theorem falls_no {G : Gnd} {c : Pt} (h : c ∉ G.gul) : falls G c = neC (lowL G c) c := by simp [falls, h]
theorem falls_to {G : Gnd} {c : Pt} (h : falls G c = true) : fallTo G c = lowL G c ∧ c ∉ G.gul ∧ lowL G c ≠ c := by
  by_cases hg : c ∈ G.gul
  · rw [falls_gul hg] at h; cases h
  · rw [falls_no hg] at h
    exact ⟨fallTo_no hg, hg, neC_t.1 h⟩
theorem falls_lt {G : Gnd} {c : Pt} (h : falls G c = true) : G.h (fallTo G c) < G.h c := by
  obtain ⟨h1, _, h3⟩ := falls_to h
  rw [h1]; exact lowL_lt h3
theorem fallTo_cell {G : Gnd} {c : Pt} (hc : isCellB G.wide G.high c = true) : isCellB G.wide G.high (fallTo G c) = true := by
  unfold fallTo; split
  · exact hc
  · exact lowL_cell hc
def runN (G : Gnd) : Nat → Pt → List Pt
  | 0, c => [c]
  | n + 1, c => if falls G c = true then c :: runN G n (fallTo G c) else [c]
theorem runN_more {G : Gnd} (V : ValidG G) : ∀ (n m : Nat) (c : Pt), isCellB G.wide G.high c = true → (G.h c).toNat ≤ n → (G.h c).toNat ≤ m → runN G n c = runN G m c
  | 0, 0, c, _, _, _ => rfl
  | 0, m + 1, c, hc, h1, _ => by
    have h0 := V.h_le hc
    have : falls G c = false := by
      cases hf : falls G c with
      | false => rfl
      | true =>
        have h2 := falls_lt hf
        have h3 := V.h_le (fallTo_cell hc)
        omega
    simp [runN, this]
  | n + 1, 0, c, hc, _, h2 => by
    have h0 := V.h_le hc
    have : falls G c = false := by
      cases hf : falls G c with
      | false => rfl
      | true =>
        have h2 := falls_lt hf
        have h3 := V.h_le (fallTo_cell hc)
        omega
    simp [runN, this]
  | n + 1, m + 1, c, hc, h1, h2 => by
    cases hf : falls G c with
    | false => simp [runN, hf]
    | true =>
      have h3 := falls_lt hf
      have h4 := V.h_le (fallTo_cell hc)
      have h5 := V.h_le hc
      simp only [runN, hf, if_true]
      rw [runN_more V n m (fallTo G c) (fallTo_cell hc) (by omega) (by omega)]
/-- All points over which water runs. -/
def runG (G : Gnd) (c : Pt) : List Pt := runN G (G.h c).toNat c
theorem runG_stop {G : Gnd} {c : Pt} (h : falls G c = false) : runG G c = [c] := by
  unfold runG
  cases (G.h c).toNat with
  | zero => rfl
  | succ n => simp [runN, h]
theorem runG_on {G : Gnd} (V : ValidG G) {c : Pt} (hc : isCellB G.wide G.high c = true) (h : falls G c = true) : runG G c = c :: runG G (fallTo G c) := by
  have h3 := falls_lt h
  have h4 := V.h_le (fallTo_cell hc)
  have h5 := V.h_le hc
  unfold runG
  obtain ⟨n, hn⟩ : ∃ n, (G.h c).toNat = n + 1 := ⟨(G.h c).toNat - 1, by omega⟩
  rw [hn]
  simp only [runN, h, if_true]
  rw [runN_more V n (G.h (fallTo G c)).toNat (fallTo G c) (fallTo_cell hc) (by omega) (Nat.le_refl _)]
theorem runN_length {G : Gnd} : ∀ (n : Nat) (c : Pt), (runN G n c).length ≤ n + 1
  | 0, c => by simp [runN]
  | n + 1, c => by
    simp only [runN]
    split
    · have := runN_length (G := G) n (fallTo G c)
      simp only [List.length_cons]; omega
    · simp
theorem runG_length {G : Gnd} (V : ValidG G) {c : Pt} (hc : isCellB G.wide G.high c = true) : (runG G c).length ≤ 201 := by
  have := runN_length (G := G) (G.h c).toNat c
  have := V.h_le hc
  unfold runG; omega
theorem runG_ne {G : Gnd} {c : Pt} : runG G c ≠ [] := by
  unfold runG
  cases (G.h c).toNat with
  | zero => simp [runN]
  | succ n => simp only [runN]; split <;> simp
/-- How a run stands: what has been told, and where it is. -/
structure RunAt (G : Gnd) (c0 : Pt) (out : List Pt) (c : Pt) : Prop where
  cell : isCellB G.wide G.high c = true
  all : ∃ pre, out = pre ++ [c] ∧ runG G c0 = pre ++ runG G c
  len : out.length + (G.h c).toNat ≤ 201
theorem RunAt.start {G : Gnd} (V : ValidG G) {c : Pt} (hc : isCellB G.wide G.high c = true) : RunAt G c [c] c :=
  ⟨hc, ⟨[], rfl, rfl⟩, by have := V.h_le hc; simp; omega⟩
theorem RunAt.on {G : Gnd} (V : ValidG G) {c0 c : Pt} {out : List Pt} (R : RunAt G c0 out c) (h : falls G c = true) : RunAt G c0 (out ++ [fallTo G c]) (fallTo G c) := by
  obtain ⟨pre, rfl, he⟩ := R.all
  have h3 := falls_lt h
  have h4 := V.h_le (fallTo_cell R.cell)
  have hl := R.len
  refine ⟨fallTo_cell R.cell, ⟨pre ++ [c], rfl, by rw [he, runG_on V R.cell h]; simp⟩, ?_⟩
  rw [List.length_append]; simp only [List.length_cons, List.length_nil]; omega
theorem RunAt.stop {G : Gnd} {c0 c : Pt} {out : List Pt} (R : RunAt G c0 out c) (h : falls G c = false) : out = runG G c0 := by
  obtain ⟨pre, rfl, he⟩ := R.all
  rw [he, runG_stop h]
/-- The code of a ground and a point. -/
noncomputable def ptCode (G : Gnd) (c : Pt) : Int := if validB G = true then (if isCellB G.wide G.high c = true then 0 else 2) else 1
theorem ptCode_0 {G : Gnd} {c : Pt} : ptCode G c = 0 ↔ ValidG G ∧ isCellB G.wide G.high c = true := by
  unfold ptCode
  by_cases h : validB G = true
  · rw [if_pos h]
    by_cases h2 : isCellB G.wide G.high c = true <;> simp [h2, validB_t.1 h]
  · rw [if_neg h]
    simp only [Int.reduceEq, false_iff, not_and]
    intro hv; exact absurd (validB_t.2 hv) h
noncomputable def runR (G : Gnd) (c : Pt) : List Pt := if ptCode G c = 0 then runG G c else []
theorem runR_0 {G : Gnd} {c : Pt} (h : ptCode G c = 0) : runR G c = runG G c := if_pos h
theorem runR_no {G : Gnd} {c : Pt} (h : ¬ ptCode G c = 0) : runR G c = [] := if_neg h
theorem runR_length {G : Gnd} {c : Pt} : (runR G c).length ≤ 201 := by
  by_cases h : ptCode G c = 0
  · rw [runR_0 h]
    obtain ⟨V, hc⟩ := ptCode_0.1 h
    exact runG_length V hc
  · rw [runR_no h]; simp
theorem gul_idx {G : Gnd} {c : Pt} (h : c ∈ G.gul) : 0 ≤ gulI G c := gulI_pos.2 h
end Go.Proofs.Ytpfmmbdddecphaa
