/- slices.SortFunc at cells, with compareCells. -/
import Derived.Test.YtpfmmbdddecphaaSortP
import Derived.Test.YtpfmmbdddecphaaMirP
import Derived.Shelf.SlSortCmp.NoneTotal
namespace Go.Proofs.Ytpfmmbdddecphaa
open Go.RowKit Go.Sort
set_option linter.unusedVariables false
set_option linter.unusedSimpArgs false

set_option maxRecDepth 100000 in
set_option maxHeartbeats 400000 in
theorem compareCells_lays (a b : Pt) (w : World) :
    Calls Try.prog 79 #[cv a, cv b] w fun e w' => e = .returned (.int .i64 (cmpC a b)) ∧ ∃ q os', w' = grow (w.drewN q) os' := by
  obtain ⟨a1, a2⟩ := a
  obtain ⟨b1, b2⟩ := b
  unfold cv
  go_enter Try.func79, Try.ntmps79
  go_wp2
  refine wp_region_tail 10 (by kernel_rfl) (by kernel_rfl) ?_
  simp only [List.take_succ_cons, List.take_zero, List.drop_succ_cons, List.drop_zero]
  iterate 4 still_step
  still_call ((compare8_any _ _ _).mono fun _ _ h => ⟨h.1, h.2.symm⟩)
  iterate 4 still_step
  still_call ((compare8_any _ _ _).mono fun _ _ h => ⟨h.1, h.2.symm⟩)
  refine wpStill_nil ?_
  go_wp2_with (go_at_call 115; refine Calls.mono (or2_any (cmpI a2 b2) (cmpI a1 b1) _ _ ?_ ?_) ?_; (any_goals (simp [go_sem]; done)); rintro e w' ⟨rfl, rfl⟩)
  go_ret
  refine ⟨ret_i (cmpC_eq _ _ _ _), ?_⟩
  exact ⟨1, _, by rw [alloc_eq_grow, alloc_eq_grow, alloc_eq_grow, grow_grow, grow_grow]; rfl⟩

theorem flat_ccs (ds : List Pt) : flatK cenc 2 ds.toArray = (ccs ds).toArray := by
  apply Array.ext
  · simp [ccs_length]
  · intro t h1 h2
    have h1' : t < ds.length * 2 := by simpa using h1
    have hd : t / 2 < ds.length := by omega
    obtain ⟨d, hd'⟩ : ∃ d, ds[t / 2]? = some d := ⟨_, List.getElem?_eq_getElem hd⟩
    have hm : t % 2 < 2 := Nat.mod_lt _ (by omega)
    have hu : (cenc d)[t % 2]? = some (cenc d)[t % 2]! := by
      rcases (by omega : t % 2 = 0 ∨ t % 2 = 1) with h | h <;> rw [h] <;> rfl
    have hc := cells_mid cenc 2 (fun _ => rfl) ds (t / 2) d hd' (t % 2) _ hu
    have e : t / 2 * 2 + t % 2 = t := by omega
    rw [e] at hc
    have e1 : (flatK cenc 2 ds.toArray)[t] = (flatK cenc 2 ds.toArray)[t]! := (getElem!_pos _ t h1).symm
    rw [e1, get_flatK _ _ _ _ (by simpa using h1')]
    have e2 : (ds.toArray)[t / 2]! = d := by
      rw [getElem!_pos _ _ (by simpa using hd)]
      rw [List.getElem?_eq_getElem hd] at hd'
      simpa using hd'
    rw [e2]
    have e3 : (ccs ds)[t]? = some (cenc d)[t % 2]! := hc
    rw [List.getElem?_eq_getElem (by simpa using h2)] at e3
    simpa using e3.symm

theorem holds_cells {w : World} {g : Nat} {cur : Array Value} {e : TypeId} {vs : List Value} (hb : w.heap[g]? = some (.cells cur e (0, 0))) (ht : cur.toList.take vs.length = vs) : Holds id w g 0 vs.toArray := by
  intro j hj
  have hj' : j < vs.length := by simpa using hj
  refine ⟨?_, by simp [World.frozen?, hb]⟩
  have h1 : (cur.toList.take vs.length)[j]? = vs[j]? := by rw [ht]
  rw [List.getElem?_take_of_lt hj'] at h1
  simp only [World.cell?, hb, Nat.zero_add]
  simp only [Option.isSome_none, Bool.false_eq_true, if_false]
  rw [← Array.getElem?_toList, h1]
  simp [hj']
theorem heap_sortedV {w : World} {g n : Nat} {os : Array Obj} {cur : Array Value} {e : TypeId} {fr : Nat × Nat} (d : Array Value) (hb : w.heap[g]? = some (.cells cur e fr)) :
    (grow (putRow id (Sort.ahead w n) g 0 d) os).heap[g]? = some (.cells (putCells id 0 d cur) e fr) := by
  have hg : g < w.heap.size := (Array.getElem?_eq_some_iff.1 hb).1
  rw [heap_grow_old _ _ (by simpa using hg)]
  simp [putRow, mapBlock, Sort.ahead, Array.getElem?_modify, hb, onCells]
theorem grownBy_sortedV {w : World} {g n : Nat} {os : Array Obj} (d : Array Value) : w.grownBy (grow (putRow id (Sort.ahead w n) g 0 d) os) (some g) := by
  refine ⟨rfl, rfl, rfl, by simp, fun k hk hne => ?_⟩
  rw [heap_grow_old _ _ (by simpa using hk)]
  have : g ≠ k := fun e => hne (by rw [e])
  simp [putRow, mapBlock, Sort.ahead, Array.getElem?_modify, this]
theorem take_putCellsV (cur : Array Value) (ts : List Value) (h : ts.length ≤ cur.size) : (putCells id 0 ts.toArray cur).toList.take ts.length = ts := by
  apply List.ext_getElem?
  intro j
  by_cases hj : j < ts.length
  · rw [List.getElem?_take_of_lt hj, Array.getElem?_toList]
    simp [putCells, hj, show j < cur.size by omega]
  · rw [List.getElem?_take_eq_none (by omega), List.getElem?_eq_none (by omega)]

theorem ltOf_cmpC {a b : Pt} : Go.Proofs.ltOf cmpC a b = true ↔ ltC a b := by
  unfold Go.Proofs.ltOf; rw [decide_eq_true_eq, cmpC_lt]
theorem ltOf_cmpC_f {a b : Pt} : Go.Proofs.ltOf cmpC a b = false ↔ ¬ ltC a b := by
  rw [← ltOf_cmpC]; simp
theorem swo_cmpC : SWO (Go.Proofs.ltOf cmpC) := by
  refine ⟨fun x => ?_, fun x y z h1 h2 => ?_, fun x y z h1 h2 => ?_⟩
  · rw [ltOf_cmpC_f]; unfold ltC; omega
  · rw [ltOf_cmpC] at *; unfold ltC at *; omega
  · rw [ltOf_cmpC_f] at *; unfold ltC at *; omega

set_option maxRecDepth 100000 in
set_option maxHeartbeats 1000000 in
theorem sortCells_any (w0 w : World) (L : List Ent) (S : St w0 w L) (j : Nat) (A : Option Addr) (n c : Nat) (ys : List Pt) (hj : L[j]? = some (ER 43 2 (.slice A n c) n (ccs ys))) (hn : ys.length = n) (h12 : n ≤ 12) :
    Calls Try.prog 78 #[.slice A n c, .func (.func 79) #[] #[]] w fun e w' => e = .returned (.tuple #[]) ∧ ∃ zs : List Pt, zs.Perm ys ∧ (∀ (i j : Nat) (a b : Pt), i < j → zs[i]? = some a → zs[j]? = some b → ¬ cmpC b a < 0) ∧ St w0 w' (L.set j (ER 43 2 (.slice A n c) n (ccs zs))) := by
  have hown := S.get hj
  rcases hown.2 with ⟨hnil, h0⟩ | ⟨g, cap, cur, hv, hb, hh, h1, h2, h3, h4⟩
  · cases hnil
    have hy : ys = [] := List.eq_nil_of_length_eq_zero (by omega)
    subst hy
    refine Calls.mono (AnyF.slices_SortFunc_none Try.sortC none 0 _ w) ?_
    rintro e w' ⟨rfl, rfl⟩
    exact ⟨rfl, [], .refl _, fun i j a b _ h => by simp at h, by rw [set_self hj]; exact S⟩
  · injection hv with hv1 _ hv2
    subst hv1 hv2
    have hg : g < w.heap.size := (Array.getElem?_eq_some_iff.1 hh).1
    have hcl := ccs_length ys
    have hH : HoldsK cenc 2 w g 0 ys.toArray := by
      unfold HoldsK
      rw [flat_ccs]
      exact holds_cells hh (by rw [hcl, hn]; exact h4)
    have hlen : ∀ (n : Nat) (W : World), n ≤ 12 → Calls Try.prog (Try.sortC_ren.f 15) #[.int .u64 n] W fun e w' => (∃ l : Int, e = .returned (.int .i64 l)) ∧ w' = W := fun n W h =>
      (Any.bits_Len Try.lays125 n W (by omega) (by omega)).mono fun _ _ ⟨he, hw⟩ => ⟨⟨_, he⟩, hw⟩
    have eg : ∀ args w, (callFunc 79 args).run Try.prog w = .ok (.enter 79 args) w := enters_of Try.func79 (by kernel_rfl) rfl
    have hs : ys.toArray.size = n := by simpa using hn
    have hcon := AnyQ.slices_SortFunc_small_sorted Try.sortC 2 Try.isAgg43 Try.sizeOf43 cenc (fun _ => rfl) (fun x v hv => by simp only [cenc, List.mem_cons, List.not_mem_nil, or_false] at hv; rcases hv with rfl | rfl <;> rfl) cmpC 79 #[] swo_cmpC g 0 c ys.toArray w eg (fun _ _ _ _ x y => compareCells_lays x y _) hH hg (by omega) hlen
    rw [hs] at hcon
    refine Calls.mono hcon ?_
    rintro e w' ⟨rfl, d', m, os, hp, hso, rfl⟩
    obtain ⟨hp1, hp2, hp3⟩ := hp
    have hd : d'.size = n := by rw [hp1, hs]
    refine ⟨rfl, d'.toList, ?_, ?_, ?_⟩
    · rw [show d'.extract 0 n = d' by rw [← hd]; exact Array.extract_size .., show ys.toArray.extract 0 n = ys.toArray by rw [← hs]; exact Array.extract_size ..] at hp3
      simpa using hp3
    · intro i k a b hik ha hb'
      have hkl : k < d'.size := by
        rcases Nat.lt_or_ge k d'.size with h | h
        · exact h
        · rw [List.getElem?_eq_none (by simpa using h)] at hb'; cases hb'
      have := hso i k (Nat.zero_le _) hik (by omega)
      rw [getElem!_pos d' k hkl, getElem!_pos d' i (by omega)] at this
      rw [List.getElem?_eq_getElem (by simpa using hkl)] at hb'
      rw [List.getElem?_eq_getElem (by simp; omega)] at ha
      simp only [Array.getElem_toList, Option.some.injEq] at ha hb'
      subst ha hb'
      unfold Go.Proofs.ltOf at this
      simpa using this
    · have hf : flatK cenc 2 d' = (ccs d'.toList).toArray := by
        have := flat_ccs d'.toList
        simpa using this
      have hl2 : (ccs d'.toList).length = n * 2 := by rw [ccs_length]; simp [hd]
      refine S.mut j _ _ hj ?_ ?_ (.inr (.inl rfl))
      · show World.grownBy _ _ (some g)
        unfold sortWorldK putRowK
        exact grownBy_sortedV _
      · refine ⟨hl2, .inr ⟨g, c, putCells id 0 (ccs d'.toList).toArray cur, rfl, hb, ?_, h1, h2, ?_, ?_⟩⟩
        · unfold sortWorldK putRowK
          rw [hf]
          exact heap_sortedV _ hh
        · simp [putCells, h3]
        · have := take_putCellsV cur (ccs d'.toList) (by rw [hl2, h3]; exact Nat.mul_le_mul_right _ h1)
          rwa [hl2] at this
end Go.Proofs.Ytpfmmbdddecphaa
