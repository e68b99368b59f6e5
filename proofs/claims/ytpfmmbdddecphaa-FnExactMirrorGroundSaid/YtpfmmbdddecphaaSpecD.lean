/- The reference's l04Levels, FillLevels. -/
import Derived.Test.YtpfmmbdddecphaaSpecC
namespace Go.Proofs.Ytpfmmbdddecphaa
open Go.RowKit Go.Sort
set_option linter.unusedVariables false
set_option linter.unusedSimpArgs false

def tix (c : Pt) : Nat := c.2.toNat * 9 + c.1.toNat
def tat (ts : List Int) (c : Pt) : Int := ts.getD (tix c) 0
theorem tix_lt {G : Gnd} (V : ValidG G) {c : Pt} (h : isCellB G.wide G.high c = true) : tix c < 81 := by
  have := cell_range V h
  unfold tix; omega
theorem tix_inj {G : Gnd} (V : ValidG G) {c d : Pt} (hc : isCellB G.wide G.high c = true) (hd : isCellB G.wide G.high d = true) (h : tix c = tix d) : c = d := by
  have h1 := cell_range V hc
  have h2 := cell_range V hd
  unfold tix at h
  exact Prod.ext (by omega) (by omega)
theorem tat_at {ts : List Int} {c : Pt} (h : tix c < ts.length) : (hvl ts)[c.2.toNat * 9 + c.1.toNat]? = some (.int .i16 (tat ts c)) := by
  show (hvl ts)[tix c]? = _
  simp only [hvl, List.getElem?_map, tat, List.getD_eq_getElem?_getD]
  rw [List.getElem?_eq_getElem h]; rfl
theorem tat_set {G : Gnd} (V : ValidG G) {ts : List Int} (hl : ts.length = 81) {c d : Pt} (hc : isCellB G.wide G.high c = true) (hd : isCellB G.wide G.high d = true) (v : Int) : tat (ts.set (tix c) v) d = if d = c then v else tat ts d := by
  have h1 := tix_lt V hc
  unfold tat
  simp only [List.getD_eq_getElem?_getD]
  by_cases e : d = c
  · subst e
    rw [List.getElem?_set_self (by omega), if_pos rfl]; rfl
  · rw [List.getElem?_set_ne (fun h => e (tix_inj V hd hc h.symm)), if_neg e]
structure TBase (G : Gnd) (ts : List Int) : Prop where
  len : ts.length = 81
  zero : ∀ i, i < 81 → isCellB G.wide G.high (((i % 9 : Nat) : Int), ((i / 9 : Nat) : Int)) = false → ts[i]? = some 0
theorem TBase.start (G : Gnd) : TBase G (List.replicate 81 0) := ⟨by simp, fun i hi _ => by rw [List.getElem?_replicate, if_pos hi]⟩
theorem TBase.set {G : Gnd} (V : ValidG G) {ts : List Int} (T : TBase G ts) {c : Pt} (hc : isCellB G.wide G.high c = true) (v : Int) : TBase G (ts.set (tix c) v) := by
  refine ⟨by rw [List.length_set]; exact T.len, fun i hi h => ?_⟩
  have hr := cell_range V hc
  have : tix c ≠ i := by
    rintro rfl
    have e : ((((tix c) % 9 : Nat) : Int), (((tix c) / 9 : Nat) : Int)) = c := by
      unfold tix; exact Prod.ext (by simp only []; omega) (by simp only []; omega)
    rw [e, hc] at h; cases h
  rw [List.getElem?_set_ne this]
  exact T.zero i hi h
theorem TBase.tab {G : Gnd} {ts : List Int} (T : TBase G ts) : ts = tabL G (tat ts) := by
  apply List.ext_getElem?
  intro i
  by_cases hi : i < 81
  · simp only [tabL, List.getElem?_map, List.getElem?_range hi, Option.map_some]
    by_cases hc : isCellB G.wide G.high (((i % 9 : Nat) : Int), ((i / 9 : Nat) : Int)) = true
    · rw [if_pos hc]
      have e : tix (((i % 9 : Nat) : Int), ((i / 9 : Nat) : Int)) = i := by unfold tix; simp only []; omega
      unfold tat
      rw [e, List.getD_eq_getElem?_getD, List.getElem?_eq_getElem (by rw [T.len]; exact hi)]; rfl
    · rw [if_neg hc]
      exact T.zero i hi (by simpa using hc)
  · rw [List.getElem?_eq_none (by rw [T.len]; omega), List.getElem?_eq_none (by simp [tabL]; omega)]

open Classical in
noncomputable def initL (G : Gnd) (c : Pt) : Int := if c ∈ G.gul then G.h c else 200
structure TInv (G : Gnd) (ts : List Int) : Prop extends TBase G ts where
  gul : ∀ g ∈ G.gul, tat ts g ≤ G.h g
  hi : ∀ c, isCellB G.wide G.high c = true → 0 ≤ tat ts c ∧ tat ts c ≤ 200
  top : ∀ M, LevG G M → ∀ c, isCellB G.wide G.high c = true → M c ≤ tat ts c
theorem TInv.start {G : Gnd} (V : ValidG G) {ts : List Int} (T : TBase G ts) (h : ∀ c ∈ pts G, tat ts c = initL G c) : TInv G ts := by
  have h' : ∀ c, isCellB G.wide G.high c = true → tat ts c = initL G c := fun c hc => h c (pts_mem.2 hc)
  refine ⟨T, fun g hg => ?_, fun c hc => ?_, fun M hM c hc => ?_⟩
  · rw [h' g (gul_cell V hg)]; unfold initL; rw [if_pos hg]; exact Int.le_refl _
  · rw [h' c hc]; unfold initL
    by_cases e : c ∈ G.gul
    · rw [if_pos e]; exact V.h_le hc
    · rw [if_neg e]; omega
  · rw [h' c hc]; unfold initL
    by_cases e : c ∈ G.gul
    · rw [if_pos e]; exact hM.gul c e
    · rw [if_neg e]; exact hM.hi c hc
theorem TInv.lower {G : Gnd} (V : ValidG G) {ts : List Int} (T : TInv G ts) {c d : Pt} (hc : isCellB G.wide G.high c = true) (hd : d ∈ besideL G c) (hlt : max (G.h c) (tat ts d) < tat ts c) : TInv G (ts.set (tix c) (max (G.h c) (tat ts d))) := by
  have hset := fun x hx => tat_set V T.len hc (d := x) hx (max (G.h c) (tat ts d))
  refine ⟨T.toTBase.set V hc _, fun g hg => ?_, fun x hx => ?_, fun M hM x hx => ?_⟩
  · rw [hset g (gul_cell V hg)]
    have := T.gul g hg
    by_cases e : g = c
    · subst e; rw [if_pos rfl]; omega
    · rw [if_neg e]; exact this
  · rw [hset x hx]
    by_cases e : x = c
    · have := V.h_le hc; have := T.hi c hc; rw [if_pos e]; omega
    · rw [if_neg e]; exact T.hi x hx
  · rw [hset x hx]
    by_cases e : x = c
    · subst e
      rw [if_pos rfl]
      have h1 := hM.step x hx d hd
      have h2 := T.top M hM d (beside_cell hd)
      omega
    · rw [if_neg e]; exact T.top M hM x hx
def StepAt (G : Gnd) (ts : List Int) (c : Pt) : Prop := ∀ d ∈ besideL G c, tat ts c ≤ max (G.h c) (tat ts d)
theorem TInv.lev {G : Gnd} {ts : List Int} (T : TInv G ts) (h : ∀ c ∈ pts G, StepAt G ts c) : IsLev G ts :=
  ⟨tat ts, ⟨⟨T.gul, fun c hc => (T.hi c hc).2, fun c hc d hd => h c (pts_mem.2 hc) d hd⟩, T.top⟩, T.toTBase.tab⟩
def muT (G : Gnd) (ts : List Int) : Nat := ((pts G).map fun c => (tat ts c).toNat).sum
theorem muT_lower {G : Gnd} (V : ValidG G) {ts : List Int} (T : TInv G ts) {c : Pt} (hc : isCellB G.wide G.high c = true) {v : Int} (h0 : 0 ≤ v) (hlt : v < tat ts c) : muT G (ts.set (tix c) v) < muT G ts := by
  refine sum_lt (x := c) (fun x hx => ?_) (pts_mem.2 hc) ?_
  · rw [tat_set V T.len hc (pts_mem.1 hx)]
    by_cases e : x = c
    · subst e; rw [if_pos rfl]; omega
    · rw [if_neg e]; exact Nat.le_refl _
  · rw [tat_set V T.len hc hc, if_pos rfl]; omega
inductive TPass (G : Gnd) (t0 ts : List Int) (done : List Pt) : Bool → Prop where
  | same : ts = t0 → (∀ c ∈ done, StepAt G ts c) → TPass G t0 ts done false
  | told : muT G ts < muT G t0 → TPass G t0 ts done true
inductive TOuter (G : Gnd) (ts : List Int) : Bool → Nat → Prop where
  | go : TOuter G ts true (muT G ts + 1)
  | stop : (∀ c ∈ pts G, StepAt G ts c) → TOuter G ts false 0
theorem TPass.ends {G : Gnd} {t0 ts : List Int} {b : Bool} (h : TPass G t0 ts (pts G) b) : ∃ g, g < muT G t0 + 1 ∧ TOuter G ts b g := by
  cases h with
  | same e hc => exact ⟨0, by omega, .stop hc⟩
  | told hlt => exact ⟨_, by omega, .go⟩
theorem TPass.more {G : Gnd} {t0 ts : List Int} {b : Bool} {done : List Pt} (h : TPass G t0 ts done b) {d : Pt} (hd : b = false → StepAt G ts d) : TPass G t0 ts (done ++ [d]) b := by
  cases h with
  | same e hc => exact .same e (fun c hm => by
      rcases List.mem_append.1 hm with hm | hm
      · exact hc c hm
      · have : c = d := by simpa using hm
        subst this; exact hd rfl)
  | told hlt => exact .told hlt
theorem TPass.tells {G : Gnd} {t0 ts ts' : List Int} {b : Bool} {done done' : List Pt} (h : TPass G t0 ts done b) (hlt : muT G ts' < muT G ts) : TPass G t0 ts' done' true := by
  cases h with
  | same e hc => subst e; exact .told hlt
  | told h1 => exact .told (by omega)
theorem step_all {G : Gnd} {ts : List Int} {c : Pt} (h : ∀ i e, i < (besideL G c).length → (besideL G c)[i]? = some e → tat ts c ≤ max (G.h c) (tat ts e)) : StepAt G ts c := fun d hd => by
  obtain ⟨i, hi, rfl⟩ := List.mem_iff_getElem.1 hd
  exact h i _ hi (List.getElem?_eq_getElem hi)
/-- The first numbers are laid. -/
def InitTo (G : Gnd) (ts : List Int) (done : List Pt) : Prop := ∀ c ∈ done, tat ts c = initL G c
theorem InitTo.more {G : Gnd} (V : ValidG G) {ts : List Int} (T : TBase G ts) {done : List Pt} (h : InitTo G ts done) (hd : ∀ c ∈ done, isCellB G.wide G.high c = true) {d : Pt} (hc : isCellB G.wide G.high d = true) {v : Int} (hv : v = initL G d) : InitTo G (ts.set (tix d) v) (done ++ [d]) := fun c hm => by
  rcases List.mem_append.1 hm with hm | hm
  · rw [tat_set V T.len hc (hd c hm)]
    by_cases e : c = d
    · subst e; rw [if_pos rfl, hv]
    · rw [if_neg e]; exact h c hm
  · have : c = d := by simpa using hm
    subst this
    rw [tat_set V T.len hc hc, if_pos rfl, hv]
section
variable {P : Program} {o : Oper} {a : Act} {w : World}
theorem Q_ldA {K : Act → Prop} (ty : TypeId) (x : Operand) (ho : o.op = .load ty x) (b off : Nat) (hx : a.eval x = .pointer (some ⟨b, off, none⟩)) (v : Value) (hag : ∀ w, (isAgg ty).run P w = .ok false w) (hv : w.cell? ⟨b, off, none⟩ = some v)
    (h : K (a.put o.dst v)) : o.quiet P a (mixC w) K :=
  Q_val (fun w' ⟨p, hp⟩ => by subst hp; exact exec_load1 ty x ho _ hx (hag _) v (by rw [cell_mix (block_lt_of_cell hv)]; exact hv)) h
end
end Go.Proofs.Ytpfmmbdddecphaa
