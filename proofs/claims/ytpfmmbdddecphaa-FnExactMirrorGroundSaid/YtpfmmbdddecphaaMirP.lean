/- Mirrored grounds, in plain words: the table, the gullies in order. -/
import Derived.Test.YtpfmmbdddecphaaDryS
namespace Go.Proofs.Ytpfmmbdddecphaa
open Go.RowKit Go.Sort
set_option linter.unusedVariables false
set_option linter.unusedSimpArgs false

def mir (G : Gnd) (c : Pt) : Pt := (G.wide - 1 - c.1, c.2)
theorem mir_mir (G : Gnd) (c : Pt) : mir G (mir G c) = c := by unfold mir; exact Prod.ext (by simp only []; omega) rfl
theorem mir_inj {G : Gnd} {c d : Pt} (h : mir G c = mir G d) : c = d := by rw [← mir_mir G c, h, mir_mir]
theorem mir_cell {G : Gnd} {c : Pt} : isCellB G.wide G.high (mir G c) = true ↔ isCellB G.wide G.high c = true := by
  rw [cell_iff, cell_iff]; unfold mir; simp only []; constructor <;> (rintro h; omega)
def mirT (G : Gnd) : List Int := tabL G fun c => G.h (mir G c)
theorem mirT_length (G : Gnd) : (mirT G).length = 81 := by simp [mirT, tabL]
def mirGul (G : Gnd) : List Pt := (pts G).filter fun c => decide (mir G c ∈ G.gul)
def mirG (G : Gnd) : Gnd := ⟨G.wide, G.high, mirT G, mirGul G⟩
/-- Some places have been written. -/
structure MirTo (G : Gnd) (ts : List Int) (done : List Pt) : Prop extends TBase G ts where
  at' : ∀ c ∈ done, tat ts c = G.h (mir G c)
theorem MirTo.start (G : Gnd) : MirTo G (List.replicate 81 0) [] := ⟨TBase.start G, fun c h => by cases h⟩
theorem MirTo.more {G : Gnd} (V : ValidG G) {ts : List Int} {done : List Pt} (T : MirTo G ts done) (hd : ∀ c ∈ done, isCellB G.wide G.high c = true) {c : Pt} (hc : isCellB G.wide G.high c = true) {v : Int} (hv : v = G.h (mir G c)) : MirTo G (ts.set (tix c) v) (done ++ [c]) := by
  refine ⟨T.toTBase.set V hc v, fun d hm => ?_⟩
  rcases List.mem_append.1 hm with hm | hm
  · rw [tat_set V T.len hc (hd d hm)]
    by_cases e : d = c
    · subst e; rw [if_pos rfl, hv]
    · rw [if_neg e]; exact T.at' d hm
  · have : d = c := by simpa using hm
    subst this
    rw [tat_set V T.len hc hc, if_pos rfl, hv]
theorem tabL_congr {G : Gnd} {f g : Pt → Int} (h : ∀ c, isCellB G.wide G.high c = true → f c = g c) : tabL G f = tabL G g := by
  unfold tabL
  refine List.map_congr_left fun i _ => ?_
  by_cases hc : isCellB G.wide G.high (((i % 9 : Nat) : Int), ((i / 9 : Nat) : Int)) = true
  · rw [if_pos hc, if_pos hc]; exact h _ hc
  · rw [if_neg hc, if_neg hc]
theorem MirTo.all {G : Gnd} {ts : List Int} {done : List Pt} (T : MirTo G ts done) (h : ∀ c, isCellB G.wide G.high c = true → c ∈ done) : ts = mirT G := by
  rw [T.toTBase.tab]
  exact tabL_congr fun c hc => T.at' c (h c hc)

/-! ### the order of points -/
def ltC (a b : Pt) : Prop := a.2 < b.2 ∨ (a.2 = b.2 ∧ a.1 < b.1)
theorem cmpC_lt {a b : Pt} : cmpC a b < 0 ↔ ltC a b := by
  unfold cmpC cmpI ltC
  (repeat' split) <;> constructor <;> intro h <;> omega
theorem ltC_trans {a b c : Pt} (h1 : ltC a b) (h2 : ltC b c) : ltC a c := by unfold ltC at *; omega
theorem rowC_sorted (y n : Nat) : (rowC y n).Pairwise ltC := by
  induction n with
  | zero => simp [rowC]
  | succ n ih =>
    rw [rowC_succ, List.pairwise_append]
    refine ⟨ih, by simp, fun a ha b hb => ?_⟩
    simp only [rowC, List.mem_map, List.mem_range] at ha
    obtain ⟨x, hx, rfl⟩ := ha
    have : b = ((n : Int), (y : Int)) := by simpa using hb
    subst this
    exact .inr ⟨rfl, by simp only []; omega⟩
theorem allC_sorted (wd n : Nat) : (allC wd n).Pairwise ltC := by
  induction n with
  | zero => simp [allC]
  | succ n ih =>
    rw [allC_succ, List.pairwise_append]
    refine ⟨ih, rowC_sorted _ _, fun a ha b hb => ?_⟩
    simp only [allC, rowC, List.mem_flatMap, List.mem_map, List.mem_range] at ha hb
    obtain ⟨y, hy, x, hx, rfl⟩ := ha
    obtain ⟨x', hx', rfl⟩ := hb
    exact .inl (by simp only []; omega)
theorem pts_sorted (G : Gnd) : (pts G).Pairwise ltC := by
  unfold pts cellsL
  exact (allC_sorted _ _).filter _
theorem sorted_nodup {xs : List Pt} (h : xs.Pairwise ltC) : xs.Nodup := h.imp fun {a b} hab he => by subst he; unfold ltC at hab; omega
theorem sorted_unique {xs ys : List Pt} (hx : xs.Pairwise ltC) (hy : ys.Pairwise ltC) (h : ∀ c, c ∈ xs ↔ c ∈ ys) : xs = ys := by
  have hp : xs.Perm ys := (List.perm_ext_iff_of_nodup (sorted_nodup hx) (sorted_nodup hy)).2 h
  exact hp.eq_of_pairwise (fun a b _ _ h1 h2 => by unfold ltC at h1 h2; omega) hx hy
theorem mirGul_sorted (G : Gnd) : (mirGul G).Pairwise ltC := (pts_sorted G).filter _
theorem mirGul_mem {G : Gnd} (V : ValidG G) {c : Pt} : c ∈ mirGul G ↔ c ∈ G.gul.map (mir G) := by
  simp only [mirGul, List.mem_filter, pts_mem, decide_eq_true_eq, List.mem_map]
  constructor
  · rintro ⟨_, h⟩; exact ⟨_, h, mir_mir G c⟩
  · rintro ⟨d, hd, rfl⟩
    exact ⟨mir_cell.2 (gul_cell V hd), by rw [mir_mir]; exact hd⟩
theorem gul_sorted {G : Gnd} (V : ValidG G) : G.gul.Pairwise ltC := by
  rw [List.pairwise_iff_getElem]
  intro i j hi hj hij
  have key : ∀ d : Nat, ∀ i : Nat, (hi : i < G.gul.length) → (hj : i + d + 1 < G.gul.length) → ltC (G.gul[i]) (G.gul[i + d + 1]) := by
    intro d
    induction d with
    | zero => intro i hi hj; exact cmpC_lt.1 (V.rise i _ _ (List.getElem?_eq_getElem hi) (List.getElem?_eq_getElem hj))
    | succ d ih =>
      intro i hi hj
      have h1 := ih i hi (by omega)
      have h2 := cmpC_lt.1 (V.rise (i + d + 1) _ _ (List.getElem?_eq_getElem (by omega)) (List.getElem?_eq_getElem (by omega)))
      exact ltC_trans h1 h2
  have := key (j - i - 1) i hi (by omega)
  have e : i + (j - i - 1) + 1 = j := by omega
  simp only [e] at this
  exact this
theorem mirmap_nodup {G : Gnd} (V : ValidG G) : (G.gul.map (mir G)).Nodup := by
  have := sorted_nodup (gul_sorted V)
  exact List.Pairwise.map (mir G) (fun a b (hab : a ≠ b) he => hab (mir_inj he)) this
/-- What SortFunc leaves. -/
theorem mir_sorts {G : Gnd} (V : ValidG G) {ds : List Pt} (hp : ds.Perm (G.gul.map (mir G))) (hs : ∀ (i j : Nat) (a b : Pt), i < j → ds[i]? = some a → ds[j]? = some b → ¬ cmpC b a < 0) : ds = mirGul G := by
  have hn : ds.Nodup := hp.nodup_iff.2 (mirmap_nodup V)
  refine sorted_unique ?_ (mirGul_sorted G) (fun c => by rw [hp.mem_iff, mirGul_mem V])
  rw [List.pairwise_iff_getElem]
  intro i j hi hj hij
  have h1 := hs i j _ _ hij (List.getElem?_eq_getElem hi) (List.getElem?_eq_getElem hj)
  rw [cmpC_lt] at h1
  have hne : ds[i] ≠ ds[j] := fun he => by
    have := (List.getElem_inj hn).1 he
    omega
  generalize ds[i] = a at h1 hne
  generalize ds[j] = b at h1 hne
  unfold ltC at h1 ⊢
  have : ¬ (a.1 = b.1 ∧ a.2 = b.2) := fun h => hne (Prod.ext h.1 h.2)
  omega
theorem mirG_ok {G : Gnd} (hG : G.Ok) (V : ValidG G) : (mirG G).Ok := by
  refine ⟨hG.wide, hG.high, mirT_length G, fun t ht => ?_, fun c hc => ?_⟩
  · simp only [mirG, mirT, tabL, List.mem_map] at ht
    obtain ⟨i, _, rfl⟩ := ht
    split
    · rename_i hc
      have := V.h_le (mir_cell.2 hc); omega
    · omega
  · have hc' := (List.mem_filter.1 hc).1
    have := cell_range V (pts_mem.1 hc')
    omega
theorem mirGul_length {G : Gnd} (V : ValidG G) : (mirGul G).length = G.gul.length := by
  have hp : (mirGul G).Perm (G.gul.map (mir G)) := (List.perm_ext_iff_of_nodup (sorted_nodup (mirGul_sorted G)) (mirmap_nodup V)).2 (fun c => mirGul_mem V)
  rw [hp.length_eq, List.length_map]
end Go.Proofs.Ytpfmmbdddecphaa
