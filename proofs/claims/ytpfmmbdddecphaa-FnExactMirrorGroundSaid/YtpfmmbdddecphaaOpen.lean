/- Arguments that are grounds or cells, opened: what a row's reading says of them. -/
import Derived.Test.YtpfmmbdddecphaaTo
import Derived.Deep.SlicePairs
import Derived.Lib.SmallJoins
import Derived.WideLaws
namespace Go.Proofs.Ytpfmmbdddecphaa
open Go.RowKit Go.Sort Go.ChangeShapes Go.WideShapes Go.Deep
set_option linter.unusedVariables false
set_option linter.unusedSimpArgs false

theorem cell_int {P : Program} {w : World} {r : Reach} {base : Nat} {t : TypeId} {k : IntKind} {v : Value} (ht : P.underlying t = some (.int k)) (h : Cell.okWide P w r base t v) : ∃ n, v = .int k n ∧ k.min ≤ n ∧ n ≤ k.max := by
  simp only [Cell.okWide, ht] at h
  cases v <;> simp_all [Cell.ok, IntKind.has]
theorem cell_slice {P : Program} {w : World} {r : Reach} {base : Nat} {t e : TypeId} {v : Value} (ht : P.underlying t = some (.slice e)) (h : Cell.okWide P w r base t v) : ∃ a l c, v = .slice a l c ∧ ∀ A, a = some A → A.spot = none := by
  simp only [Cell.okWide, ht] at h
  cases v with
  | slice a l c =>
    refine ⟨a, l, c, rfl, fun A hA => ?_⟩
    subst hA
    simp only [Cell.ok, ht] at h
    exact h.2.2.2.1
  | _ => simp_all [Cell.ok]
theorem i8_of {n : Int} (h : IntKind.i8.min ≤ n ∧ n ≤ IntKind.i8.max) : -128 ≤ n ∧ n ≤ 127 := h
theorem i16_of {n : Int} (h : IntKind.i16.min ≤ n ∧ n ≤ IntKind.i16.max) : -32768 ≤ n ∧ n ≤ 32767 := h

section
variable {H : Type} {enc : TypeId × Value → H} {W : World}
/-- A row of cells that came in. -/
theorem open_cells {fuel : Nat} {a : Option Addr} {l c : Nat} {x : DataW H × List MemPlace} (hsp : ∀ A, a = some A → A.spot = none) (h : DataW.trod enc Try.prog W 0 (fun _ => true) true fuel 26 [.slice a l c] = some x) :
    ∃ cs : List Pt, cs.length = l ∧ l ≤ maxLen ∧ Rd W a (ccs cs) ∧ ∀ d ∈ cs, (-128 ≤ d.1 ∧ d.1 ≤ 127) ∧ -128 ≤ d.2 ∧ d.2 ≤ 127 := by
  have hs := open_slice_pairs Try.underlying26 Try.underlying40 (by kernel_rfl) rfl rfl (by kernel_rfl) (by kernel_rfl) h
  rcases hs with ⟨hcs, _⟩ | ⟨A, len, cap, m, n, V0, V1, D0, D1, P0, P1, hcs, _, hlc, hcap, hm, _, hcell⟩
  · simp at hcs
    obtain ⟨rfl, rfl, rfl⟩ := hcs
    exact ⟨[], rfl, by unfold maxLen; omega, Rd.nil _ _, fun d hd => by simp at hd⟩
  · simp at hcs hm
    obtain ⟨rfl, rfl, rfl⟩ := hcs
    subst hm
    have hb := hsp A rfl
    obtain ⟨bk, of, sp⟩ := A
    have hb : sp = none := hb
    subst hb
    have key : ∀ i, i < l → ∃ p : Pt, (W.cell? ⟨bk, of + i * 2, none⟩ = some (.int .i8 p.1) ∧ W.cell? ⟨bk, of + (i * 2 + 1), none⟩ = some (.int .i8 p.2)) ∧ (-128 ≤ p.1 ∧ p.1 ≤ 127) ∧ -128 ≤ p.2 ∧ p.2 ≤ 127 := by
      intro i hi
      obtain ⟨h0, h1, t0, t1⟩ := hcell i (by omega)
      obtain ⟨n0, e0, _, w0⟩ := DataW.trod_int Try.underlying22 t0
      obtain ⟨n1, e1, _, w1⟩ := DataW.trod_int Try.underlying22 t1
      simp only [List.cons.injEq, and_true] at e0 e1
      rw [e0, add_at] at h0
      rw [e1, add_at] at h1
      simp only [Lit.wf, Bool.and_eq_true, decide_eq_true_eq] at w0 w1
      exact ⟨(n0, n1), ⟨h0, h1⟩, i8_of w0, i8_of w1⟩
    obtain ⟨f, hf⟩ := choose_lt key
    refine ⟨(List.range l).map f, by simp, by omega, ⟨fun _ => ⟨bk, of, rfl⟩, fun b o hA j u hu => ?_⟩, fun d hd => ?_⟩
    · injection hA with hA
      injection hA with hb ho
      subst hb ho
      have hlen : (ccs ((List.range l).map f)).length = l * 2 := by rw [ccs_length]; simp
      have hj : j < l * 2 := by
        rcases Nat.lt_or_ge j (l * 2) with h' | h'
        · exact h'
        · rw [List.getElem?_eq_none (by omega)] at hu; cases hu
      have hi : j / 2 < l := by omega
      have hd : ((List.range l).map f)[j / 2]? = some (f (j / 2)) := by simp [hi]
      obtain ⟨⟨h0, h1⟩, _⟩ := hf (j / 2) hi
      rcases Nat.mod_two_eq_zero_or_one j with hm | hm
      · have := cells_mid cenc 2 (fun _ => rfl) _ _ _ hd 0 _ rfl
        have e : j / 2 * 2 + 0 = j := by omega
        rw [e] at this
        rw [ccs_eq, this] at hu
        injection hu with hu
        rw [show of + j = of + j / 2 * 2 by omega, h0, hu]
      · have := cells_mid cenc 2 (fun _ => rfl) _ _ _ hd 1 _ rfl
        have e : j / 2 * 2 + 1 = j := by omega
        rw [e] at this
        rw [ccs_eq, this] at hu
        injection hu with hu
        rw [show of + j = of + (j / 2 * 2 + 1) by omega, h1, hu]
    · obtain ⟨i, hi, rfl⟩ := List.mem_map.1 hd
      exact (hf i (List.mem_range.1 hi)).2

theorem arr_eq {cs : Array Value} {xs : List Value} (hs : cs.size = xs.length) (h : ∀ i, i < xs.length → cs[i]? = xs[i]?) : cs = xs.toArray := by
  apply Array.ext_getElem?
  intro i
  rcases Nat.lt_or_ge i xs.length with hi | hi
  · rw [h i hi]; simp
  · rw [Array.getElem?_eq_none (by omega)]; simp [hi]

def gcell : List TypeId := 22 :: 22 :: (List.replicate 81 23 ++ [26])
theorem gcell_mid {i : Nat} (h2 : 2 ≤ i) (h : i < 83) : gcell[i % gcell.length]? = some 23 := by
  have e : gcell.length = 84 := rfl
  rw [e, Nat.mod_eq_of_lt (by omega)]
  obtain ⟨j, rfl⟩ : ∃ j, i = j + 2 := ⟨i - 2, by omega⟩
  show (List.replicate 81 23 ++ [26])[j]? = _
  rw [List.getElem?_append_left (by simp; omega), List.getElem?_replicate, if_pos (by omega)]

set_option maxRecDepth 100000 in
theorem gcell_0 : gcell[0 % gcell.length]? = some 22 := rfl
set_option maxRecDepth 100000 in
theorem gcell_1 : gcell[1 % gcell.length]? = some 22 := rfl
set_option maxRecDepth 100000 in
theorem gcell_83 : gcell[83 % gcell.length]? = some 26 := rfl
set_option maxRecDepth 100000 in
/-- A ground that came in. -/
theorem open_ground {base : Nat} {v : Value} {d : DataW H} {p : List MemPlace} (hv : Value.okWide Try.prog W .any base 28 v) (h : DataW.Trod enc Try.prog W 0 (fun _ => true) true 28 v d p) :
    ∃ (G : Gnd) (A : Option Addr) (c : Nat), v = gv G (.slice A G.gul.length c) ∧ G.Ok ∧ Rd W A (ccs G.gul) ∧ G.gul.length ≤ maxLen := by
  unfold Value.okWide at hv
  rw [Try.underlying28] at hv
  obtain ⟨cs, rfl, hsz, ts, hts, _, hcell⟩ := hv
  have hsz : cs.size = 84 := hsz.trans (by kernel_rfl)
  have e : Try.prog.cellTypes Try.prog.depth 28 = some gcell := by kernel_rfl
  rw [e] at hts
  injection hts with hts
  subst hts
  have e0 := hcell 0 cs[0] (by simp)
  have e1 := hcell 1 cs[1] (by simp)
  have e83 := hcell 83 cs[83] (by simp)
  obtain ⟨u0, hu0, k0⟩ := e0
  obtain ⟨u1, hu1, k1⟩ := e1
  obtain ⟨u83, hu83, k83⟩ := e83
  rw [gcell_0] at hu0
  rw [gcell_1] at hu1
  rw [gcell_83] at hu83
  have hu0 : u0 = 22 := by injection hu0 with hu0; exact hu0.symm
  have hu1 : u1 = 22 := by injection hu1 with hu1; exact hu1.symm
  have hu83 : u83 = 26 := by injection hu83 with hu83; exact hu83.symm
  subst hu0 hu1 hu83
  obtain ⟨wd, hwd, rwd⟩ := cell_int Try.underlying22 k0
  obtain ⟨hi, hhi, rhi⟩ := cell_int Try.underlying22 k1
  obtain ⟨A, l, c, hsl, hsp⟩ := cell_slice Try.underlying26 k83
  have mid : ∀ i, i < 81 → ∃ n : Int, cs[i + 2]? = some (.int .i16 n) ∧ -32768 ≤ n ∧ n ≤ 32767 := by
    intro i hi
    obtain ⟨u, hu, k⟩ := hcell (i + 2) (cs[i + 2]'(by omega)) (by simp)
    rw [gcell_mid (by omega) (by omega)] at hu
    injection hu with hu
    subst hu
    obtain ⟨n, hn, rn⟩ := cell_int Try.underlying23 k
    exact ⟨n, by rw [Array.getElem?_eq_getElem (by omega), hn], i16_of rn⟩
  obtain ⟨f, hf⟩ := choose_lt mid
  obtain ⟨fuel, ht⟩ := h
  obtain ⟨y0, y1, y2, y3, n, _, _, _, _, _, ht3⟩ := Joins.trod_struct4 Try.underlying28 ht
  have hlast : ((Value.agg cs).cells.toList.drop 83).take 1 = [.slice A l c] := by
    show (cs.toList.drop 83).take 1 = _
    have hlen : cs.toList.length = 84 := by simpa using hsz
    rw [List.drop_eq_getElem_cons (by omega), List.take_succ_cons, List.take_zero]
    congr 1
  have c1 : Try.prog.cellsOf 26 = 1 := by kernel_rfl
  simp only [c1] at ht3
  rw [hlast] at ht3
  obtain ⟨gul, hgl, hml, hR, hgr⟩ := open_cells hsp ht3
  subst hgl
  refine ⟨⟨wd, hi, (List.range 81).map f, gul⟩, A, c, ?_, ⟨i8_of rwd, i8_of rhi, by simp, ?_, hgr⟩, hR, hml⟩
  · show Value.agg cs = Value.agg _
    congr 1
    refine arr_eq (by rw [hsz]; simp [gcs]) (fun i hi => ?_)
    have hi : i < 84 := by simpa [gcs] using hi
    match i, hi with
    | 0, _ => rw [Array.getElem?_eq_getElem (by omega), hwd]; rfl
    | 1, _ => rw [Array.getElem?_eq_getElem (by omega), hhi]; rfl
    | j + 2, hj =>
      rw [gcs_h, List.getElem?_cons_succ, List.getElem?_cons_succ]
      rcases Nat.lt_or_ge j 81 with h' | h'
      · rw [List.getElem?_append_left (by simp [hvl]; omega), (hf j h').1]
        simp [hvl, h']
      · have : j = 81 := by omega
        subst this
        rw [Array.getElem?_eq_getElem (by omega), hsl, List.getElem?_append_right (by simp [hvl])]
        simp [hvl]
  · intro h hh
    obtain ⟨i, hi, rfl⟩ := List.mem_map.1 hh
    exact (hf i (List.mem_range.1 hi)).2
end
end Go.Proofs.Ytpfmmbdddecphaa
