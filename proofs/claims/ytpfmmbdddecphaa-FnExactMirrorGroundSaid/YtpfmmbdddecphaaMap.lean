/- A map from cells to numbers that the call owns: its operations. -/
import Derived.Test.YtpfmmbdddecphaaAround
import Derived.Maps.RangeRun
import Derived.MapKept
import Derived.Laws.StructEq
import Derived.Deep.RegionHeld3
namespace Go.Proofs.Ytpfmmbdddecphaa
open Go.RowKit Go.Sort
open Go.ChangeMaps (setBlock)
set_option linter.unusedVariables false
set_option linter.unusedSimpArgs false

abbrev Mp := List (Pt × Int)
def getM : Mp → Pt → Option Int
  | [], _ => none
  | (d, n) :: r, c => if c = d then some n else getM r c
def updM : Mp → Pt → Int → Mp
  | [], c, v => [(c, v)]
  | (d, n) :: r, c, v => if c = d then (c, v) :: r else (d, n) :: updM r c v
theorem getM_upd (m : Mp) (c : Pt) (v : Int) (d : Pt) : getM (updM m c v) d = if d = c then some v else getM m d := by
  induction m with
  | nil => simp [updM, getM]
  | cons p r ih =>
    obtain ⟨e, n⟩ := p
    unfold updM
    by_cases h : c = e
    · subst h
      rw [if_pos rfl]
      simp only [getM]
      by_cases h2 : d = c <;> simp [h2]
    · rw [if_neg h]
      simp only [getM, ih]
      by_cases h2 : d = e
      · subst h2; rw [if_pos rfl, if_neg (Ne.symm h), if_pos rfl]
      · rw [if_neg h2, if_neg h2]
theorem updM_length (m : Mp) (c : Pt) (v : Int) : (updM m c v).length = if (getM m c).isSome = true then m.length else m.length + 1 := by
  induction m with
  | nil => rfl
  | cons p r ih =>
    obtain ⟨e, n⟩ := p
    unfold updM getM
    by_cases h : c = e
    · simp [h]
    · simp only [if_neg h, List.length_cons, ih]
      split <;> rfl

def ments : Nat → Mp → List MapEntry
  | _, [] => []
  | i, (c, n) :: r => ⟨cv c, .int .i64 n, i⟩ :: ments (i + 1) r
def fndM : Mp → Pt → Nat → Option (Nat × Value)
  | [], _, _ => none
  | (d, n) :: r, c, j => if c = d then some (j, .int .i64 n) else fndM r c (j + 1)
theorem fndM_none {m : Mp} {c : Pt} {j : Nat} : fndM m c j = none ↔ getM m c = none := by
  induction m generalizing j with
  | nil => simp [fndM, getM]
  | cons p r ih =>
    obtain ⟨e, n⟩ := p
    unfold fndM getM
    by_cases h : c = e
    · simp [h]
    · simp [h, ih]
theorem fndM_some {m : Mp} {c : Pt} {n : Int} (h : getM m c = some n) : ∀ j, ∃ k, k < m.length ∧ fndM m c j = some (j + k, .int .i64 n) ∧ m[k]? = some (c, n) ∧ ∀ v, updM m c v = m.set k (c, v) := by
  induction m with
  | nil => simp [getM] at h
  | cons p r ih =>
    obtain ⟨e, x⟩ := p
    unfold getM at h
    intro j
    by_cases hc : c = e
    · subst hc
      rw [if_pos rfl] at h
      injection h with h; subst h
      exact ⟨0, by simp, by simp [fndM], by simp, fun v => by simp [updM]⟩
    · rw [if_neg hc] at h
      obtain ⟨k, hk, h1, h2, h3⟩ := ih h (j + 1)
      refine ⟨k + 1, by simp; omega, ?_, by simpa using h2, fun v => ?_⟩
      · unfold fndM; rw [if_neg hc, h1, show j + 1 + k = j + (k + 1) by omega]
      · unfold updM; rw [if_neg hc, h3 v]; rfl
theorem updM_new {m : Mp} {c : Pt} (h : getM m c = none) (v : Int) : updM m c v = m ++ [(c, v)] := by
  induction m with
  | nil => rfl
  | cons p r ih =>
    obtain ⟨e, x⟩ := p
    unfold getM at h
    by_cases hc : c = e
    · simp [hc] at h
    · rw [if_neg hc] at h
      unfold updM
      rw [if_neg hc, ih h]; rfl
theorem ments_length (i : Nat) (m : Mp) : (ments i m).length = m.length := by
  induction m generalizing i with
  | nil => rfl
  | cons p r ih => simp [ments, ih]
theorem ments_at (i : Nat) (m : Mp) (k : Nat) (c : Pt) (n : Int) (h : m[k]? = some (c, n)) : (ments i m)[k]? = some ⟨cv c, .int .i64 n, i + k⟩ := by
  induction m generalizing i k with
  | nil => simp at h
  | cons p r ih =>
    cases k with
    | zero => simp at h; subst h; rfl
    | succ k =>
      have := ih (i + 1) k (by simpa using h)
      simp only [ments, List.getElem?_cons_succ, this]
      congr 2; omega
theorem ments_set (i : Nat) (m : Mp) (k : Nat) (c : Pt) (n v : Int) (h : m[k]? = some (c, n)) : ments i (m.set k (c, v)) = (ments i m).set k ⟨cv c, .int .i64 v, i + k⟩ := by
  induction m generalizing i k with
  | nil => simp at h
  | cons p r ih =>
    cases k with
    | zero => simp [ments]
    | succ k =>
      have := ih (i + 1) k (by simpa using h)
      simp only [ments, List.set_cons_succ, this]
      congr 3; omega
theorem ments_app (i : Nat) (m : Mp) (c : Pt) (v : Int) : ments i (m ++ [(c, v)]) = ments i m ++ [⟨cv c, .int .i64 v, i + m.length⟩] := by
  induction m generalizing i with
  | nil => simp [ments]
  | cons p r ih =>
    obtain ⟨e, x⟩ := p
    simp only [List.cons_append, ments, ih, List.length_cons]
    rw [show i + 1 + r.length = i + (r.length + 1) by omega]

/-- The map, known whole. -/
def EM (b : Nat) (m : Mp) : Ent :=
  ⟨some b, fun w => w.heap[b]? = some (.map (ments 0 m).toArray m.length), fun w w' h hw => by rw [h b rfl]; exact hw⟩

section
variable {ops : Array Oper} {rest : List Oper} {o : Oper} {a : Act} {Q : Exit → Act → World → Prop} {K : Act → World → Prop} {E : Prop} {w0 w : World} {L : List Ent}

theorem run_eqC (c d : Pt) (w : World) : (Op.equal 43 (cv c) (cv d)).run Try.prog w = .ok (decide (c = d)) w := by
  have u := Try.underlying22
  have hS : Try.prog.underlying 43 = some (.struct (Try.prog.fieldsOf 43)) := by kernel_rfl
  have hp : Try.prog.stoodInHeld 43 = false := by kernel_rfl
  unfold Op.equal Op.maxDepth cv
  rw [show (10000 : Nat) = 9999 + 1 from rfl, run_equalIn_agg w 9999 43 _ _ hS hp]
  simp only [Program.fieldsOf, Try.underlying43]
  go_simp
  obtain ⟨c1, c2⟩ := c
  obtain ⟨d1, d2⟩ := d
  by_cases h1 : c1 = d1 <;> by_cases h2 : c2 = d2 <;> simp [h1, h2]

theorem run_findA (c : Pt) (m : Mp) (i j : Nat) (w : World) : (Instr.findAsking 43 (cv c) (ments i m) j).run Try.prog w = .ok (fndM m c j) w := by
  induction m generalizing i j with
  | nil => rfl
  | cons p r ih =>
    obtain ⟨d, n⟩ := p
    simp only [ments, Instr.findAsking, Sem.run_bind, run_eqC, Result.andThen_ok, fndM]
    by_cases h : c = d
    · simp [h]
    · simp only [h, decide_false, Bool.false_eq_true, if_false]
      exact ih (i + 1) (j + 1)
theorem run_findC (c : Pt) (m : Mp) (w : World) : (Instr.findKey 43 (cv c) (ments 0 m)).run Try.prog w = .ok (fndM m c 0) w := by
  unfold Instr.findKey
  simp only [Sem.run_bind, run_underlying Try.underlying43, Result.andThen_ok]
  cases m with
  | nil => rfl
  | cons p r => exact run_findA c (p :: r) 0 0 w
theorem run_checkC (em : Bool) (c : Pt) (w : World) : (Instr.checkKey em 10000 43 (cv c)).run Try.prog w = .ok () w := by
  have u := Try.underlying22
  unfold cv
  rw [show (10000 : Nat) = 9998 + 1 + 1 from rfl]
  unfold Instr.checkKey
  simp only [Sem.run_bind, run_underlying Try.underlying43, Result.andThen_ok]
  unfold Instr.checkKey
  go_simp

theorem grownBy_setBlock (w : World) (b : Nat) (o : Obj) : w.grownBy (setBlock w b o) (some b) :=
  ⟨rfl, rfl, rfl, by simp [setBlock], fun k _ hk => by
    simp only [setBlock]
    rw [Array.getElem?_setIfInBounds_ne (fun h => hk (by rw [h]))]⟩
theorem heap_setBlock {w : World} {b : Nat} {x : Obj} (h : w.heap[b]? = some x) (o : Obj) : (setBlock w b o).heap[b]? = some o := by
  have hb : b < w.heap.size := by
    rcases Nat.lt_or_ge b w.heap.size with h' | h'
    · exact h'
    · rw [Array.getElem?_eq_none h'] at h; cases h
  simp [setBlock, hb]

theorem run_lookS {b : Nat} {m : Mp} {c : Pt} {v : Int} {w : World} (hb : (EM b m).holds w) (h : getM m c = some v) : (Instr.lookup 133 (.map (some b)) (cv c) true).run Try.prog w = .ok (.tuple #[.int .i64 v, .bool true]) w := by
  have hb' : w.heap[b]? = some (.map (ments 0 m).toArray m.length) := hb
  obtain ⟨k, hk, h1, h2, _⟩ := fndM_some h 0
  simp [Instr.lookup, Sem.run_bind, run_underlying Try.underlying133, getObj, Sem.run, hb', run_checkC, run_findC, h1]
theorem run_lookN {b : Nat} {m : Mp} {c : Pt} {w : World} (hb : (EM b m).holds w) (h : getM m c = none) : (Instr.lookup 133 (.map (some b)) (cv c) true).run Try.prog w = .ok (.tuple #[.int .i64 0, .bool false]) w := by
  have hb' : w.heap[b]? = some (.map (ments 0 m).toArray m.length) := hb
  have h1 := fndM_none (j := 0).2 h
  simp [Instr.lookup, Sem.run_bind, run_underlying Try.underlying133, getObj, Sem.run, hb', run_checkC, run_findC, h1, Try.zeroValue2]
theorem same_cv (c : Pt) (w : World) : (Instr.keyThatStays (cv c) (cv c)).run Try.prog w = .ok (cv c) w := by
  have : Instr.sameBits 10000 (cv c) (cv c) = true := by
    rw [show (10000 : Nat) = 9998 + 1 + 1 from rfl]
    simp [cv, Instr.sameBits]
  simp [Instr.keyThatStays, this]
theorem run_updC {b : Nat} {m : Mp} {w : World} (c : Pt) (v : Int) (hb : (EM b m).holds w) : (Instr.mapUpdate 133 (.map (some b)) (cv c) (.int .i64 v)).run Try.prog w = .ok () (setBlock w b (.map (ments 0 (updM m c v)).toArray (updM m c v).length)) := by
  have hb' : w.heap[b]? = some (.map (ments 0 m).toArray m.length) := hb
  cases h : getM m c with
  | none =>
    have h1 := fndM_none (j := 0).2 h
    have h2 := updM_new h v
    simp [Instr.mapUpdate, Sem.run_bind, run_underlying Try.underlying133, getObj, setObj, Sem.run, hb', run_checkC, run_findC, h1, h2, ments_app, setBlock]
  | some n =>
    obtain ⟨k, hk, h1, h2, h3⟩ := fndM_some h 0
    have h4 := ments_at 0 m k c n h2
    have h5 := ments_set 0 m k c n v h2
    have hk' : k < (ments 0 m).length := by rw [ments_length]; exact hk
    have h6 : ((ments 0 m).modify k fun e => { e with key := cv c, val := .int .i64 v }) = (ments 0 m).set k ⟨cv c, .int .i64 v, 0 + k⟩ := by
      apply List.ext_getElem?
      intro j
      rw [List.getElem?_modify]
      by_cases hj : k = j
      · subst hj
        rw [List.getElem?_set_self hk', h4]
        simp
      · rw [List.getElem?_set_ne hj]
        simp [hj]
    rw [Nat.zero_add] at h1 h4
    simp [Instr.mapUpdate, Sem.run_bind, run_underlying Try.underlying133, getObj, setObj, Sem.run, hb', run_checkC, run_findC, h1, h3, h4, h5, h6, same_cv, setBlock]

theorem St.setM {w0 w : World} {L : List Ent} (S : St w0 w L) (k b : Nat) (m m' : Mp) (hk : L[k]? = some (EM b m)) : St w0 (setBlock w b (.map (ments 0 m').toArray m'.length)) (L.set k (EM b m')) :=
  S.mut k _ _ hk (grownBy_setBlock w b _) (heap_setBlock (S.get hk) _) (.inr (.inl rfl))

theorem W_makeMap (S : St w0 w L) (hw : Region.wanted o (yielded ops a.tmps) = true) (T : TypeId) (ho : o.op = .makeMap T none)
    (h : ∀ b w', St w0 w' (EM b [] :: L) → wpList Try.prog ops Q rest (a.put o.dst (.map (some b))) w') : wpList Try.prog ops Q (o :: rest) a w := by
  refine wpl_val hw (v := .map (some w.heap.size)) (w' := w.alloc (.map #[] 0)) ?_ (h _ _ ?_)
  · unfold execOp; simp only [ho]
    simp [Instr.makeMap, newObj, Sem.run]
  · have h1 : St w (w.alloc (.map #[] 0)) [EM w.heap.size []] := by
      refine ⟨(Below.refl _ _).alloc (Nat.le_refl _) _, ?_, ?_⟩
      · intro i e hi
        cases i with
        | zero =>
          simp at hi; subst hi
          refine ⟨by show (w.alloc _).heap[w.heap.size]? = _; rw [heap_alloc_new]; rfl, fun b hb => ?_⟩
          have : w.heap.size = b := by simpa [EM] using hb
          subst this
          exact ⟨Nat.le_refl _, by show _ < (w.heap.push _).size; simp⟩
        | succ i => simp at hi
      · intro i j e f hne hi hj
        cases i <;> cases j <;> simp_all
    simpa using S.call h1
theorem W_lookS (S : St w0 w L) (hw : Region.wanted o (yielded ops a.tmps) = true) (x i : Operand) (ho : o.op = .lookup 133 x i true) (b : Nat) (hx : a.eval x = .map (some b)) (c : Pt) (hi : a.eval i = cv c)
    (k : Nat) (m : Mp) (hk : L[k]? = some (EM b m)) (v : Int) (hv : getM m c = some v) (h : wpList Try.prog ops Q rest (a.put o.dst (.tuple #[.int .i64 v, .bool true])) w) : wpList Try.prog ops Q (o :: rest) a w := by
  refine wpl_val hw ?_ h
  unfold execOp; simp only [ho, hx, hi]
  rw [Sem.run_bind, run_lookS (S.get hk) hv]; rfl
theorem W_lookN (S : St w0 w L) (hw : Region.wanted o (yielded ops a.tmps) = true) (x i : Operand) (ho : o.op = .lookup 133 x i true) (b : Nat) (hx : a.eval x = .map (some b)) (c : Pt) (hi : a.eval i = cv c)
    (k : Nat) (m : Mp) (hk : L[k]? = some (EM b m)) (hv : getM m c = none) (h : wpList Try.prog ops Q rest (a.put o.dst (.tuple #[.int .i64 0, .bool false])) w) : wpList Try.prog ops Q (o :: rest) a w := by
  refine wpl_val hw ?_ h
  unfold execOp; simp only [ho, hx, hi]
  rw [Sem.run_bind, run_lookN (S.get hk) hv]; rfl
/-- The store into the map, at a step of a region that draws. -/
theorem step_upd (S : St w0 w L) (hgd : o.guard = none) (x y z : Operand) (ho : o.op = .mapUpdate 133 x y z) (b : Nat) (hx : a.eval x = .map (some b)) (c : Pt) (hy : a.eval y = cv c) (v : Int) (hz : a.eval z = .int .i64 v)
    (k : Nat) (m : Mp) (hk : L[k]? = some (EM b m)) (h : ∀ w', St w0 w' (L.set k (EM b (updM m c v))) → K (a.put o.dst undef) w') :
    if Region.wanted o (yielded ops a.tmps) = true then Oper.wp Try.prog o a w K Q else E := by
  have hw : Region.wanted o (yielded ops a.tmps) = true := by simp [Region.wanted, hgd]
  rw [if_pos hw]
  unfold Oper.wp execOp
  simp only [ho, hx, hy, hz]
  rw [Sem.run_bind, run_updC c v (S.get hk)]
  exact h _ (S.setM k b m _ hk)

/-! ### ranging over it -/
def EI (r bm n : Nat) (seen : Array Nat) : Ent :=
  ⟨some r, fun w => w.heap[r]? = some (.mapIter (some bm) n seen n), fun w w' h hw => by rw [h r rfl]; exact hw⟩
theorem ments_mem {i : Nat} {m : Mp} {e : MapEntry} (h : e ∈ ments i m) : ∃ (k : Nat) (c : Pt) (v : Int), m[k]? = some (c, v) ∧ e = ⟨cv c, .int .i64 v, i + k⟩ := by
  induction m generalizing i with
  | nil => simp [ments] at h
  | cons p r ih =>
    obtain ⟨d, n⟩ := p
    simp only [ments, List.mem_cons] at h
    rcases h with rfl | h
    · exact ⟨0, d, n, rfl, rfl⟩
    · obtain ⟨k, c, v, h1, h2⟩ := ih h
      exact ⟨k + 1, c, v, by simpa using h1, by rw [h2]; congr 1; omega⟩
theorem ments_born {i : Nat} {m : Mp} : (ments i m).map (·.born) = List.range' i m.length := by
  induction m generalizing i with
  | nil => rfl
  | cons p r ih =>
    obtain ⟨d, n⟩ := p
    simp only [ments, List.map_cons, ih, List.length_cons, List.range'_succ]
theorem W_range (S : St w0 w L) (hw : Region.wanted o (yielded ops a.tmps) = true) (x : Operand) (ho : o.op = .range 133 x) (b : Nat) (hx : a.eval x = .map (some b)) (k : Nat) (m : Mp) (hk : L[k]? = some (EM b m))
    (h : ∀ r w', St w0 w' (EI r b m.length #[] :: L) → wpList Try.prog ops Q rest (a.put o.dst (.pointer (some ⟨r, 0, none⟩))) w') : wpList Try.prog ops Q (o :: rest) a w := by
  have hb : w.heap[b]? = some (.map (ments 0 m).toArray m.length) := S.get hk
  refine wpl_val hw (v := .pointer (some ⟨w.heap.size, 0, none⟩)) (w' := w.alloc (.mapIter (some b) m.length #[] m.length)) ?_ (h _ _ ?_)
  · unfold execOp; simp only [ho, hx]
    simp [Instr.range, Sem.run_bind, run_underlying Try.underlying133, getObj, newObj, Sem.run, hb]
  · have h1 : St w (w.alloc (.mapIter (some b) m.length #[] m.length)) [EI w.heap.size b m.length #[]] := by
      refine ⟨(Below.refl _ _).alloc (Nat.le_refl _) _, ?_, ?_⟩
      · intro i e hi
        cases i with
        | zero =>
          simp at hi; subst hi
          refine ⟨by show (w.alloc _).heap[w.heap.size]? = _; rw [heap_alloc_new], fun b hb => ?_⟩
          have : w.heap.size = b := by simpa [EI] using hb
          subst this
          exact ⟨Nat.le_refl _, by show _ < (w.heap.push _).size; simp⟩
        | succ i => simp at hi
      · intro i j e f hne hi hj
        cases i <;> cases j <;> simp_all
    simpa using S.call h1
theorem drew_below (w : World) : Below w.heap.size w w.drew := ⟨rfl, rfl, rfl, Nat.le_refl _, fun _ _ => rfl⟩
theorem next_cases (S : St w0 w L) (ki kj r bm : Nat) (m : Mp) (seen : Array Nat) (hki : L[ki]? = some (EI r bm m.length seen)) (hkj : L[kj]? = some (EM bm m)) :
    ((∀ k, k < m.length → k ∈ seen.toList) ∧ (Instr.next (.pointer (some ⟨r, 0, none⟩)) false 0).run Try.prog w = .ok (.tuple #[.bool false]) w) ∨
    ∃ (k : Nat) (c : Pt) (v : Int) (w' : World), m[k]? = some (c, v) ∧ k ∉ seen.toList ∧ (Instr.next (.pointer (some ⟨r, 0, none⟩)) false 0).run Try.prog w = .ok (.tuple #[.bool true, cv c, .int .i64 v]) w' ∧ St w0 w' (L.set ki (EI r bm m.length (seen.push k))) := by
  have hr : w.heap[r]? = some (.mapIter (some bm) m.length seen m.length) := S.get hki
  have hb : w.heap[bm]? = some (.map (ments 0 m).toArray m.length) := S.get hkj
  have hlt : ∀ x ∈ (ments 0 m).toArray.toList, x.born < m.length := fun x hx => by
    obtain ⟨k, c, v, h1, rfl⟩ := ments_mem (by simpa using hx)
    have : k < m.length := by
      rcases Nat.lt_or_ge k m.length with h | h
      · exact h
      · rw [List.getElem?_eq_none h] at h1; cases h1
    simpa using this
  rcases run_next_at (P := Try.prog) w 0 r bm m.length m.length seen (ments 0 m).toArray m.length hr hb hlt (Nat.le_refl _) with ⟨h0, hrun⟩ | ⟨e, he, w1, hw1, hrun⟩
  · refine .inl ⟨fun k hk => ?_, hrun⟩
    have h1 : leftOf (ments 0 m).toArray seen = #[] := Array.eq_empty_of_size_eq_zero h0
    obtain ⟨⟨c, v⟩, hc⟩ : ∃ p, m[k]? = some p := ⟨_, List.getElem?_eq_getElem hk⟩
    have h2 := ments_at 0 m k c v hc
    have h3 := List.mem_of_getElem? h2
    unfold leftOf at h1
    rw [Array.filter_eq_empty_iff] at h1
    have h4 := h1 _ (by simpa using h3)
    simpa using h4
  · right
    unfold leftOf at he
    simp only [Array.toList_filter, List.mem_filter] at he
    obtain ⟨k, c, v, h1, rfl⟩ := ments_mem (by simpa using he.1)
    have h2 := he.2
    rw [Nat.zero_add] at h2 hrun
    refine ⟨k, c, v, _, h1, by simpa using h2, hrun, ?_⟩
    have S1 : St w0 w1 L := by
      rcases hw1 with rfl | rfl
      · exact S
      · exact S.callB (drew_below w)
    exact S1.mut ki _ _ hki (grownBy_setBlock w1 r _) (heap_setBlock (S1.get hki) _) (.inr (.inl rfl))
theorem W_run (hw : Region.wanted o (yielded ops a.tmps) = true) {v : Value} {w' : World} (x : Operand) (ho : o.op = .next x false) (u : Value) (hx : a.eval x = u) (hrun : (Instr.next u false 0).run Try.prog w = .ok v w') (h : wpList Try.prog ops Q rest (a.put o.dst v) w') : wpList Try.prog ops Q (o :: rest) a w := by
  refine wpl_val hw ?_ h
  unfold execOp; simp only [ho, hx]
  rw [Sem.run_bind, show Instr.next u false o.type = Instr.next u false 0 from rfl, hrun]; rfl
theorem W_entry (S : St w0 w L) (hw : Region.wanted o (yielded ops a.tmps) = true) (x : Operand) (ho : o.op = .entry x) (r : Nat) (hx : a.eval x = .pointer (some ⟨r, 0, none⟩)) (ki kj bm : Nat) (m : Mp) (seen : Array Nat) (k : Nat) (c : Pt) (v : Int)
    (hki : L[ki]? = some (EI r bm m.length (seen.push k))) (hkj : L[kj]? = some (EM bm m)) (hc : m[k]? = some (c, v))
    (h : wpList Try.prog ops Q rest (a.put o.dst (.tuple #[cv c, .int .i64 v])) w) : wpList Try.prog ops Q (o :: rest) a w := by
  have hr : w.heap[r]? = some (.mapIter (some bm) m.length (seen.push k) m.length) := S.get hki
  have hb : w.heap[bm]? = some (.map (ments 0 m).toArray m.length) := S.get hkj
  have h2 := ments_at 0 m k c v hc
  rw [Nat.zero_add] at h2
  have := run_entry_at (P := Try.prog) w r bm m.length seen (ments 0 m).toArray m.length ⟨cv c, .int .i64 v, k⟩ hr hb (by simpa using List.mem_of_getElem? h2) (by
    show ((ments 0 m).map (·.born)).Nodup
    rw [ments_born]; exact List.nodup_range')
  refine wpl_val hw ?_ h
  unfold execOp; simp only [ho, hx]
  rw [Sem.run_bind, this]; rfl
/-- A store, at a step of a region that draws. -/
theorem step_st (S : St w0 w L) (hgd : o.guard = none) (ty : TypeId) (x y : Operand) (ho : o.op = .store ty x y) (b off : Nat) (hx : a.eval x = .pointer (some ⟨b, off, none⟩))
    (k : Nat) (t : TypeId) (cs : List Value) (hk : L[k]? = some (EB b t cs)) (v : Value) (hy : a.eval y = v) (hsz : ∀ w, (sizeOf ty).run Try.prog w = .ok v.cells.size w) (h1 : ∀ u ∈ v.cells.toList, u.oneCell' = true) (cs' : List Value)
    (hle : off + v.cells.size ≤ cs.length) (hcs : cs' = cs.take off ++ v.cells.toList ++ cs.drop (off + v.cells.size))
    (h : ∀ w', St w0 w' (L.set k (EB b t cs')) → K (a.put o.dst undef) w') : if Region.wanted o (yielded ops a.tmps) = true then Oper.wp Try.prog o a w K Q else E := by
  subst hcs
  have hw : Region.wanted o (yielded ops a.tmps) = true := by simp [Region.wanted, hgd]
  rw [if_pos hw]
  unfold Oper.wp execOp
  simp only [ho, hx, hy]
  rw [Sem.run_bind, run_storeN ty v (hsz w) h1 b off t cs (S.get hk) hle]
  exact h _ (S.put k b t cs _ hk)
end
end Go.Proofs.Ytpfmmbdddecphaa
