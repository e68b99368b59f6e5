/- The plain side of (Ground).spread: what its map holds. -/
import Derived.Test.YtpfmmbdddecphaaMap
namespace Go.Proofs.Ytpfmmbdddecphaa
open Go.RowKit Go.Sort
set_option linter.unusedVariables false
set_option linter.unusedSimpArgs false

def pts (G : Gnd) : List Pt := cellsL (fun _ => true) G.wide G.high
theorem pts_mem {G : Gnd} {c : Pt} : c ∈ pts G ↔ isCellB G.wide G.high c = true := by
  obtain ⟨x, y⟩ := c
  simp only [pts, cellsL, allC, rowC, List.mem_filter, and_true, List.mem_flatMap, List.mem_range, List.mem_map, Prod.mk.injEq, isCellB, within, Bool.and_eq_true, decide_eq_true_eq]
  constructor
  · rintro ⟨a, ha, b, hb, rfl, rfl⟩; omega
  · rintro ⟨h1, h2⟩
    exact ⟨y.toNat, by omega, x.toNat, by omega, by omega, by omega⟩
theorem pts_length (G : Gnd) : (pts G).length = G.high.toNat * G.wide.toNat := by
  unfold pts cellsL; rw [List.filter_eq_self.2 (fun _ _ => rfl), allC_length]
theorem cell_range {G : Gnd} (V : ValidG G) {c : Pt} (h : isCellB G.wide G.high c = true) : (0 ≤ c.1 ∧ c.1 ≤ 8) ∧ 0 ≤ c.2 ∧ c.2 ≤ 8 := by
  simp only [isCellB, within, Bool.and_eq_true, decide_eq_true_eq] at h
  have := V.wide; have := V.high
  omega
theorem beside_cell {G : Gnd} {c d : Pt} (h : d ∈ besideL G c) : isCellB G.wide G.high d = true := (besideL_mem.1 h).2
theorem beside_ne {G : Gnd} {c d : Pt} (h : d ∈ besideL G c) : d ≠ c := by
  have := (besideL_mem.1 h).1
  simp only [four, List.mem_cons, List.not_mem_nil, or_false] at this
  rintro rfl
  rcases this with h | h | h | h <;> (have h1 := congrArg Prod.fst h; have h2 := congrArg Prod.snd h; simp only [] at h1 h2; omega)

theorem nodup_le {α : Type} [DecidableEq α] : ∀ {l l2 : List α}, l.Nodup → (∀ x ∈ l, x ∈ l2) → l.length ≤ l2.length
  | [], _, _, _ => Nat.zero_le _
  | x :: l, l2, h, hs => by
    have hx : x ∈ l2 := hs x (by simp)
    have h1 := List.nodup_cons.1 h
    have := nodup_le (l := l) (l2 := l2.erase x) h1.2 (fun y hy => (List.mem_erase_of_ne (fun e => by subst e; exact h1.1 hy)).2 (hs y (by simp [hy])))
    rw [List.length_erase_of_mem hx] at this
    have := List.length_pos_of_mem hx
    simp only [List.length_cons]; omega

theorem getM_mem {m : Mp} {c : Pt} {v : Int} (h : getM m c = some v) : ∃ k : Nat, m[k]? = some (c, v) := by
  obtain ⟨k, _, _, h2, _⟩ := fndM_some h 0
  exact ⟨k, h2⟩
theorem getM_of_at {m : Mp} (hn : (m.map (·.1)).Nodup) {k : Nat} {c : Pt} {v : Int} (h : m[k]? = some (c, v)) : getM m c = some v := by
  induction m generalizing k with
  | nil => simp at h
  | cons p r ih =>
    obtain ⟨d, n⟩ := p
    simp only [List.map_cons, List.nodup_cons] at hn
    unfold getM
    cases k with
    | zero => simp at h; obtain ⟨rfl, rfl⟩ := h; simp
    | succ k =>
      have h' : r[k]? = some (c, v) := by simpa using h
      have : c ≠ d := by
        rintro rfl
        exact hn.1 (List.mem_map.2 ⟨(c, v), List.mem_of_getElem? h', rfl⟩)
      rw [if_neg this]
      exact ih hn.2 h'
theorem keys_upd (m : Mp) (c : Pt) (v : Int) : (updM m c v).map (·.1) = if (getM m c).isSome = true then m.map (·.1) else m.map (·.1) ++ [c] := by
  cases h : getM m c with
  | none => rw [updM_new h]; simp
  | some n =>
    obtain ⟨k, hk, _, h2, h3⟩ := fndM_some h 0
    rw [h3 v]
    simp only [Option.isSome_some, if_true]
    apply List.ext_getElem?
    intro j
    simp only [List.map_set]
    by_cases hj : k = j
    · subst hj
      rw [List.getElem?_set_self (by simpa using hk), List.getElem?_map, h2]; rfl
    · rw [List.getElem?_set_ne hj]
theorem getM_none_key {m : Mp} {c : Pt} (h : getM m c = none) : c ∉ m.map (·.1) := by
  intro hc
  induction m with
  | nil => simp at hc
  | cons p r ih =>
    obtain ⟨d, n⟩ := p
    unfold getM at h
    by_cases e : c = d
    · simp [e] at h
    · rw [if_neg e] at h
      exact ih h (by simpa [e] using hc)

/-- What stays true of the map. -/
structure MInv (G : Gnd) (B : Pt → Int) (F : Int → Pt → Int) (m : Mp) : Prop where
  keys : ∀ c v, getM m c = some v → isCellB G.wide G.high c = true
  nodup : (m.map (·.1)).Nodup
  bound : ∀ c v, getM m c = some v → 0 ≤ v ∧ v ≤ 200 * (m.length : Int)
  low : ∀ Q : Pt → Int → Prop, (∀ g ∈ G.gul, Q g (B g)) → (∀ c v d, Q c v → isCellB G.wide G.high c = true → d ∈ besideL G c → Q d (F v d)) → ∀ c v, getM m c = some v → Q c v
def GulIn (B : Pt → Int) (m : Mp) (gs : List Pt) : Prop := ∀ g ∈ gs, ∃ v, getM m g = some v ∧ v ≤ B g
def SatAt (F : Int → Pt → Int) (m : Mp) (v : Int) (d : Pt) : Prop := ∃ u, getM m d = some u ∧ u ≤ F v d
def ClosedAt (G : Gnd) (F : Int → Pt → Int) (m : Mp) (c : Pt) : Prop := ∀ v, getM m c = some v → ∀ d ∈ besideL G c, SatAt F m v d
structure Spread (G : Gnd) (B : Pt → Int) (F : Int → Pt → Int) (m : Mp) : Prop extends MInv G B F m where
  gul : GulIn B m G.gul
  closed : ∀ c, isCellB G.wide G.high c = true → ClosedAt G F m c
theorem MInv.nil (G : Gnd) (B : Pt → Int) (F : Int → Pt → Int) : MInv G B F [] :=
  ⟨fun c v h => by simp [getM] at h, by simp, fun c v h => by simp [getM] at h, fun Q _ _ c v h => by simp [getM] at h⟩
theorem MInv.length_le {G : Gnd} {B : Pt → Int} {F : Int → Pt → Int} {m : Mp} (I : MInv G B F m) (V : ValidG G) : m.length ≤ 81 := by
  have h := nodup_le I.nodup (l2 := pts G) (fun c hc => by
    cases h : getM m c with
    | none => exact absurd hc (getM_none_key h)
    | some v => exact pts_mem.2 (I.keys c v h))
  rw [List.length_map, pts_length] at h
  have h1 : G.high.toNat * G.wide.toNat ≤ 9 * 9 := Nat.mul_le_mul (by have := V.high; omega) (by have := V.wide; omega)
  omega
theorem MInv.put {G : Gnd} {B : Pt → Int} {F : Int → Pt → Int} {m : Mp} (I : MInv G B F m) {c : Pt} {n : Int} (hc : isCellB G.wide G.high c = true) (h0 : 0 ≤ n) (hb : n ≤ 200 * ((updM m c n).length : Int))
    (hl : ∀ Q : Pt → Int → Prop, (∀ g ∈ G.gul, Q g (B g)) → (∀ c v d, Q c v → isCellB G.wide G.high c = true → d ∈ besideL G c → Q d (F v d)) → Q c n) : MInv G B F (updM m c n) := by
  have hlen : m.length ≤ (updM m c n).length := by rw [updM_length]; split <;> omega
  refine ⟨fun d v h => ?_, ?_, fun d v h => ?_, fun Q h1 h2 d v h => ?_⟩
  · rw [getM_upd] at h
    by_cases e : d = c
    · subst e; exact hc
    · rw [if_neg e] at h; exact I.keys d v h
  · rw [keys_upd]
    split
    · exact I.nodup
    · rename_i hs
      have hn : getM m c = none := by simpa using hs
      rw [List.nodup_append]
      exact ⟨I.nodup, by simp, fun x hx y hy e => by simp at hy; subst hy; subst e; exact getM_none_key hn hx⟩
  · rw [getM_upd] at h
    by_cases e : d = c
    · rw [if_pos e] at h; injection h with h; subst h; exact ⟨h0, hb⟩
    · rw [if_neg e] at h
      have := I.bound d v h
      omega
  · rw [getM_upd] at h
    by_cases e : d = c
    · rw [if_pos e] at h; injection h with h; subst h; subst e; exact hl Q h1 h2
    · rw [if_neg e] at h; exact I.low Q h1 h2 d v h

/-- A gully is begun. -/
theorem MInv.begin {G : Gnd} {B : Pt → Int} {F : Int → Pt → Int} {m : Mp} (I : MInv G B F m) {g : Pt} (hg : g ∈ G.gul) (hc : isCellB G.wide G.high g = true) (hB : 0 ≤ B g ∧ B g ≤ 200) : MInv G B F (updM m g (B g)) := by
  refine I.put hc hB.1 ?_ (fun Q h1 _ => h1 g hg)
  have : 1 ≤ (updM m g (B g)).length := by
    rw [updM_length]
    split
    · rename_i h
      cases m with
      | nil => simp [getM] at h
      | cons p r => simp
    · omega
  omega
theorem GulIn.begin {B : Pt → Int} {m : Mp} {gs : List Pt} (h : GulIn B m gs) (g : Pt) : GulIn B (updM m g (B g)) (gs ++ [g]) := by
  intro x hx
  rw [getM_upd]
  by_cases e : x = g
  · subst e; exact ⟨B x, by simp, Int.le_refl _⟩
  · rw [if_neg e]
    exact h x (by simpa [e] using hx)

/-- A point is told a better number. -/
structure Better (m : Mp) (c : Pt) (n : Int) : Prop where
  lt : ∀ u, getM m c = some u → n < u
theorem MInv.better {G : Gnd} {B : Pt → Int} {F : Int → Pt → Int} {m : Mp} (I : MInv G B F m) (hF : ∀ n c, 0 ≤ n → isCellB G.wide G.high c = true → 0 ≤ F n c ∧ F n c ≤ n + 200) {at_ d : Pt} {n : Int} (ha : getM m at_ = some n) (hd : d ∈ besideL G at_) (hb : Better m d (F n d)) : MInv G B F (updM m d (F n d)) := by
  have h1 := I.bound at_ n ha
  have h2 := hF n d h1.1 (beside_cell hd)
  refine I.put (beside_cell hd) h2.1 ?_ (fun Q q1 q2 => q2 at_ n d (I.low Q q1 q2 at_ n ha) (I.keys at_ n ha) hd)
  rw [updM_length]
  cases h : getM m d with
  | none => simp; omega
  | some u =>
    have h3 := hb.lt u h
    have h4 := I.bound d u h
    simp; omega
theorem GulIn.better {B : Pt → Int} {m : Mp} {gs : List Pt} (h : GulIn B m gs) {d : Pt} {n : Int} (hb : Better m d n) : GulIn B (updM m d n) gs := by
  intro g hg
  obtain ⟨v, h1, h2⟩ := h g hg
  rw [getM_upd]
  by_cases e : g = d
  · subst e
    exact ⟨n, by simp, by have := hb.lt v h1; omega⟩
  · rw [if_neg e]; exact ⟨v, h1, h2⟩

/-- The numbers laid into a table. -/
def tableOf (m : Mp) : List Int := (List.range 81).map fun (i : Nat) => (getM m (((i % 9 : Nat) : Int), ((i / 9 : Nat) : Int))).getD 0
/-! ### the measure -/
def valM (m : Mp) (c : Pt) : Nat := match getM m c with | some v => v.toNat | none => 20000
def muM (ps : List Pt) (m : Mp) : Nat := (ps.map (valM m)).sum
theorem sum_le {α : Type} {f g : α → Nat} : ∀ {l : List α}, (∀ x ∈ l, f x ≤ g x) → (l.map f).sum ≤ (l.map g).sum
  | [], _ => Nat.le_refl _
  | x :: l, h => by
    have := sum_le (l := l) (fun y hy => h y (by simp [hy]))
    have := h x (by simp)
    simp only [List.map_cons, List.sum_cons]; omega
theorem sum_lt {α : Type} {f g : α → Nat} : ∀ {l : List α} {x : α}, (∀ x ∈ l, f x ≤ g x) → x ∈ l → f x < g x → (l.map f).sum < (l.map g).sum
  | [], _, _, hx, _ => by simp at hx
  | y :: l, x, h, hx, hlt => by
    simp only [List.map_cons, List.sum_cons]
    have h1 := sum_le (l := l) (fun y hy => h y (by simp [hy]))
    have h2 := h y (by simp)
    rcases List.mem_cons.1 hx with rfl | hx
    · omega
    · have := sum_lt (l := l) (fun y hy => h y (by simp [hy])) hx hlt
      omega
theorem mu_better {G : Gnd} {m : Mp} {d : Pt} {n : Int} (hd : isCellB G.wide G.high d = true) (h0 : 0 ≤ n) (hn : n < 20000) (hb : Better m d n) : muM (pts G) (updM m d n) < muM (pts G) m := by
  have key : valM (updM m d n) d < valM m d := by
    unfold valM
    rw [getM_upd, if_pos rfl]
    cases h : getM m d with
    | none => simp only []; omega
    | some u =>
      have := hb.lt u h
      simp only []; omega
  refine sum_lt (x := d) (fun x _ => ?_) (pts_mem.2 hd) key
  by_cases e : x = d
  · subst e; omega
  · unfold valM; rw [getM_upd, if_neg e]; exact Nat.le_refl _
end Go.Proofs.Ytpfmmbdddecphaa
