/- The plain law of levels: the greatest table that keeps three bounds; one alone. -/
import Derived.Test.YtpfmmbdddecphaaSprP
namespace Go.Proofs.Ytpfmmbdddecphaa
open Go.RowKit Go.Sort
set_option linter.unusedVariables false
set_option linter.unusedSimpArgs false

theorem beside_iff {G : Gnd} {c d : Pt} : d ∈ besideL G c ↔ isCellB G.wide G.high d = true ∧ ((c.1 = d.1 ∧ (c.2 = d.2 + 1 ∨ d.2 = c.2 + 1)) ∨ (c.2 = d.2 ∧ (c.1 = d.1 + 1 ∨ d.1 = c.1 + 1))) := by
  rw [besideL_mem, and_comm]
  obtain ⟨x, y⟩ := c
  obtain ⟨a, b⟩ := d
  simp only [four, List.mem_cons, List.not_mem_nil, or_false, Prod.mk.injEq]
  constructor <;> (rintro ⟨h, h'⟩; exact ⟨h, by omega⟩)
theorem beside_symm {G : Gnd} {c d : Pt} (hc : isCellB G.wide G.high c = true) (h : d ∈ besideL G c) : c ∈ besideL G d := by
  rw [beside_iff] at h ⊢
  exact ⟨hc, by omega⟩
theorem cell_iff {G : Gnd} {c : Pt} : isCellB G.wide G.high c = true ↔ (0 ≤ c.1 ∧ c.1 < G.wide) ∧ 0 ≤ c.2 ∧ c.2 < G.high := by
  simp only [isCellB, within, Bool.and_eq_true, decide_eq_true_eq]
  omega

theorem cellXY {G : Gnd} {x y : Int} : isCellB G.wide G.high (x, y) = true ↔ 0 ≤ x ∧ x < G.wide ∧ 0 ≤ y ∧ y < G.high := by rw [cell_iff]; constructor <;> (rintro h; omega)
/-- What is closed under going on from point to point, and holds of one, holds of all. -/
theorem closed_all {G : Gnd} (D : Pt → Prop) (g : Pt) (hg : isCellB G.wide G.high g = true) (hD : D g) (hc : ∀ a b, isCellB G.wide G.high a = true → b ∈ besideL G a → D a → D b) : ∀ c, isCellB G.wide G.high c = true → D c := by
  have hor : ∀ n : Nat, ∀ x y : Int, isCellB G.wide G.high (x, y) = true → ∀ z : Int, (z - x).natAbs = n → isCellB G.wide G.high (z, y) = true → D (x, y) → D (z, y) := by
    intro n
    induction n with
    | zero => intro x y _ z hz _ h; have : z = x := by omega
              subst this; exact h
    | succ n ih =>
      intro x y h1 z hz h2 h3
      rcases Int.lt_or_gt_of_ne (show z ≠ x by omega) with hlt | hlt
      · have h4 : isCellB G.wide G.high (x - 1, y) = true := by have h5 := cellXY.1 h1; have h6 := cellXY.1 h2; exact cellXY.2 (by omega)
        exact ih (x - 1) y h4 z (by omega) h2 (hc (x, y) (x - 1, y) h1 (beside_iff.2 ⟨h4, .inr ⟨rfl, .inl (by show x = x - 1 + 1; omega)⟩⟩) h3)
      · have h4 : isCellB G.wide G.high (x + 1, y) = true := by have h5 := cellXY.1 h1; have h6 := cellXY.1 h2; exact cellXY.2 (by omega)
        exact ih (x + 1) y h4 z (by omega) h2 (hc (x, y) (x + 1, y) h1 (beside_iff.2 ⟨h4, .inr ⟨rfl, .inr rfl⟩⟩) h3)
  have ver : ∀ n : Nat, ∀ x y : Int, isCellB G.wide G.high (x, y) = true → ∀ z : Int, (z - y).natAbs = n → isCellB G.wide G.high (x, z) = true → D (x, y) → D (x, z) := by
    intro n
    induction n with
    | zero => intro x y _ z hz _ h; have : z = y := by omega
              subst this; exact h
    | succ n ih =>
      intro x y h1 z hz h2 h3
      rcases Int.lt_or_gt_of_ne (show z ≠ y by omega) with hlt | hlt
      · have h4 : isCellB G.wide G.high (x, y - 1) = true := by have h5 := cellXY.1 h1; have h6 := cellXY.1 h2; exact cellXY.2 (by omega)
        exact ih x (y - 1) h4 z (by omega) h2 (hc (x, y) (x, y - 1) h1 (beside_iff.2 ⟨h4, .inl ⟨rfl, .inl (by show y = y - 1 + 1; omega)⟩⟩) h3)
      · have h4 : isCellB G.wide G.high (x, y + 1) = true := by have h5 := cellXY.1 h1; have h6 := cellXY.1 h2; exact cellXY.2 (by omega)
        exact ih x (y + 1) h4 z (by omega) h2 (hc (x, y) (x, y + 1) h1 (beside_iff.2 ⟨h4, .inl ⟨rfl, .inr rfl⟩⟩) h3)
  rintro ⟨x, y⟩ hp
  obtain ⟨gx, gy⟩ := g
  have hmid : isCellB G.wide G.high (x, gy) = true := by have h5 := cellXY.1 hg; have h6 := cellXY.1 hp; exact cellXY.2 (by omega)
  exact ver _ x gy hmid y rfl hp (hor _ gx gy hg x rfl hmid hD)

def Gnd.h (G : Gnd) (c : Pt) : Int := G.at c.1 c.2
structure LevG (G : Gnd) (L : Pt → Int) : Prop where
  gul : ∀ g ∈ G.gul, L g ≤ G.h g
  hi : ∀ c, isCellB G.wide G.high c = true → L c ≤ 200
  step : ∀ c, isCellB G.wide G.high c = true → ∀ d ∈ besideL G c, L c ≤ max (G.h c) (L d)
structure TopG (G : Gnd) (L : Pt → Int) : Prop extends LevG G L where
  top : ∀ M, LevG G M → ∀ c, isCellB G.wide G.high c = true → M c ≤ L c
def tabL (G : Gnd) (L : Pt → Int) : List Int := (List.range 81).map fun (i : Nat) => if isCellB G.wide G.high (((i % 9 : Nat) : Int), ((i / 9 : Nat) : Int)) = true then L (((i % 9 : Nat) : Int), ((i / 9 : Nat) : Int)) else 0
/-- The levels of a ground. -/
def IsLev (G : Gnd) (ts : List Int) : Prop := ∃ L, TopG G L ∧ ts = tabL G L
theorem IsLev.unique {G : Gnd} {ts us : List Int} (h1 : IsLev G ts) (h2 : IsLev G us) : ts = us := by
  obtain ⟨L, hL, rfl⟩ := h1
  obtain ⟨M, hM, rfl⟩ := h2
  unfold tabL
  refine List.map_congr_left fun i _ => ?_
  by_cases hc : isCellB G.wide G.high (((i % 9 : Nat) : Int), ((i / 9 : Nat) : Int)) = true
  · rw [if_pos hc, if_pos hc]
    exact Int.le_antisymm (hM.top L hL.toLevG _ hc) (hL.top M hM.toLevG _ hc)
  · rw [if_neg hc, if_neg hc]

theorem ValidG.h_le {G : Gnd} (V : ValidG G) {c : Pt} (hc : isCellB G.wide G.high c = true) : 0 ≤ G.h c ∧ G.h c ≤ 200 := by
  have hr := cell_range V hc
  have := V.hs c.1.toNat c.2.toNat (by omega) (by omega)
  rw [show ((c.1.toNat : Int), (c.2.toNat : Int)) = c from Prod.ext (by simp only []; omega) (by simp only []; omega), if_pos hc] at this
  have e1 : ((c.1.toNat : Nat) : Int) = c.1 := by omega
  have e2 : ((c.2.toNat : Nat) : Int) = c.2 := by omega
  rw [e1, e2] at this
  exact this
theorem gul_cell {G : Gnd} (V : ValidG G) {g : Pt} (hg : g ∈ G.gul) : isCellB G.wide G.high g = true := by
  obtain ⟨i, hi, rfl⟩ := List.mem_iff_getElem.1 hg
  exact V.gul i _ (List.getElem?_eq_getElem hi)

theorem isLev_spread {G : Gnd} (V : ValidG G) (hne : G.gul ≠ []) {m : Mp} (h : Spread G G.h (fun n d => max n (G.h d)) m) : IsLev G (tableOf m) := by
  obtain ⟨g0, hg0⟩ := List.exists_mem_of_ne_nil _ hne
  have hall : ∀ c, isCellB G.wide G.high c = true → ∃ v, getM m c = some v := by
    refine closed_all (fun c => ∃ v, getM m c = some v) g0 (gul_cell V hg0) ?_ ?_
    · obtain ⟨v, hv, _⟩ := h.gul g0 hg0; exact ⟨v, hv⟩
    · rintro a b ha hb ⟨v, hv⟩
      obtain ⟨u, hu, _⟩ := h.closed a ha v hv b hb
      exact ⟨u, hu⟩
  have hL : ∀ c v, getM m c = some v → (getM m c).getD 0 = v := fun c v h => by rw [h]; rfl
  refine ⟨fun c => (getM m c).getD 0, ⟨⟨?_, ?_, ?_⟩, ?_⟩, ?_⟩
  · intro g hg
    obtain ⟨v, hv, hle⟩ := h.gul g hg
    simp only [hv]; exact hle
  · intro c hc
    obtain ⟨v, hv⟩ := hall c hc
    have := h.low (fun c n => n ≤ 200) (fun g hg => (V.h_le (gul_cell V hg)).2) (fun c v d hv hc hd => by have := (V.h_le (beside_cell hd)).2; have hv' : v ≤ 200 := hv; show max v (G.h d) ≤ 200; omega) c v hv
    simp only [hv]; exact this
  · intro c hc d hd
    obtain ⟨v, hv⟩ := hall d (beside_cell hd)
    obtain ⟨u, hu, hle⟩ := h.closed d (beside_cell hd) v hv c (beside_symm hc hd)
    simp only [hu, hv, Option.getD_some]
    rw [Int.max_comm]; exact hle
  · intro M hM c hc
    obtain ⟨v, hv⟩ := hall c hc
    have := h.low (fun c n => M c ≤ n) (fun g hg => hM.gul g hg) (fun c v d hv hc hd => by
      have h1 := hM.step d (beside_cell hd) c (beside_symm hc hd)
      show M d ≤ max v (G.h d)
      have h2 : M c ≤ v := hv
      omega) c v hv
    simp only [hv]; exact this
  · unfold tableOf tabL
    refine List.map_congr_left fun i _ => ?_
    by_cases hc : isCellB G.wide G.high (((i % 9 : Nat) : Int), ((i / 9 : Nat) : Int)) = true
    · rw [if_pos hc]
    · rw [if_neg hc]
      cases hg : getM m (((i % 9 : Nat) : Int), ((i / 9 : Nat) : Int)) with
      | none => rfl
      | some v => exact absurd (h.keys _ v hg) hc
end Go.Proofs.Ytpfmmbdddecphaa
