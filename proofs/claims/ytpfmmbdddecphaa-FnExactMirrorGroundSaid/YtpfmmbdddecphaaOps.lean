/- The operations' laws over 'St': boxes, loads, stores, slices that are read, appends. Plain laws over any program. -/
import Derived.Test.YtpfmmbdddecphaaSt
namespace Go.Proofs.Ytpfmmbdddecphaa
open Go.RowKit Go.Sort
set_option linter.unusedVariables false
set_option linter.unusedSimpArgs false

section
variable {P : Program} {ops : Array Oper} {rest : List Oper} {o : Oper} {a : Act} {Q : Exit → Act → World → Prop} {w0 w : World} {L : List Ent}

theorem wpl_val (hw : Region.wanted o (yielded ops a.tmps) = true) {v : Value} {w' : World} (hrun : (execOp a.eval o).run P w = .ok (.value v) w') (h : wpList P ops Q rest (a.put o.dst v) w') : wpList P ops Q (o :: rest) a w := by
  refine BigFrame.wpList_want hw fun K hK => ?_
  unfold Oper.wp; rw [hrun]; exact hK _ _ h
theorem wpl_skip (hw : Region.wanted o (yielded ops a.tmps) = true) {w' : World} (hrun : (execOp a.eval o).run P w = .ok .skip w') (h : wpList P ops Q rest (a.put o.dst undef) w') : wpList P ops Q (o :: rest) a w := by
  refine BigFrame.wpList_want hw fun K hK => ?_
  unfold Oper.wp; rw [hrun]; exact hK _ _ h

theorem add_at (g off j : Nat) : (⟨g, off, none⟩ : Addr).add j = ⟨g, off + j, none⟩ := by unfold Addr.add; split <;> simp_all

/-- A new block, whatever the operation that makes it: 'hrun' by simp. -/
theorem W_new (S : St w0 w L) (hw : Region.wanted o (yielded ops a.tmps) = true) (cs : Array Value) (t : TypeId) (f : Nat → Value)
    (hrun : ∀ w : World, (execOp a.eval o).run P w = .ok (.value (f w.heap.size)) (w.alloc (.cells cs t)))
    (h : ∀ b w', St w0 w' (EB b t cs.toList :: L) → wpList P ops Q rest (a.put o.dst (f b)) w') : wpList P ops Q (o :: rest) a w :=
  wpl_val hw (hrun w) (h _ _ (S.alloc cs t))

theorem W_box (S : St w0 w L) (hw : Region.wanted o (yielded ops a.tmps) = true) (t : TypeId) (x : Operand) (ho : o.op = .box t x) (v : Value) (hx : a.eval x = v)
    (h : ∀ b w', St w0 w' (EB b t v.cells.toList :: L) → wpList P ops Q rest (a.put o.dst (.pointer (some ⟨b, 0, none⟩))) w') : wpList P ops Q (o :: rest) a w :=
  W_new S hw v.cells t (fun b => .pointer (some ⟨b, 0, none⟩)) (fun w => by
    unfold execOp; simp only [ho, hx]
    simp [Instr.box, newVar, newRow]) h

theorem W_alloc (S : St w0 w L) (hw : Region.wanted o (yielded ops a.tmps) = true) (t : TypeId) (ho : o.op = .alloc t) (z : Value) (hz : ∀ w, (zeroValue t).run P w = .ok z w)
    (h : ∀ b w', St w0 w' (EB b t z.cells.toList :: L) → wpList P ops Q rest (a.put o.dst (.pointer (some ⟨b, 0, none⟩))) w') : wpList P ops Q (o :: rest) a w :=
  W_new S hw z.cells t (fun b => .pointer (some ⟨b, 0, none⟩)) (fun w => by
    unfold execOp; simp only [ho]
    simp [Instr.alloc, hz, newVar, newRow]) h

/-! ### loads -/
theorem run_load1 (ty : TypeId) (hag : (isAgg ty).run P w = .ok false w) (ad : Addr) (v : Value) (hc : w.cell? ad = some v) : (Instr.loadAt ty (.pointer (some ad))).run P w = .ok v w := by
  simp [Instr.loadAt, Instr.sureAddr, loadVar, hag, Sem.run_bind, run_load, hc]
theorem run_loadN (ty : TypeId) (cs : List Value) (hag : (isAgg ty).run P w = .ok true w) (hsz : (sizeOf ty).run P w = .ok cs.length w) (b off : Nat)
    (hc : ∀ j u, cs[j]? = some u → w.cell? ⟨b, off + j, none⟩ = some u) : (Instr.loadAt ty (.pointer (some ⟨b, off, none⟩))).run P w = .ok (.agg cs.toArray) w := by
  have := run_loadCells_list (P := P) w ⟨b, off, none⟩ cs (fun j v hv => by rw [add_at]; exact hc j v hv)
  simp [Instr.loadAt, Instr.sureAddr, loadVar, hag, hsz, Sem.run_bind, this]
theorem exec_load1 (ty : TypeId) (x : Operand) (ho : o.op = .load ty x) (ad : Addr) (hx : a.eval x = .pointer (some ad)) (hag : (isAgg ty).run P w = .ok false w) (v : Value) (hc : w.cell? ad = some v) :
    (execOp a.eval o).run P w = .ok (.value v) w := by
  unfold execOp; simp only [ho, hx]
  rw [Sem.run_bind, run_load1 ty hag ad v hc]; rfl
theorem exec_loadN (ty : TypeId) (x : Operand) (ho : o.op = .load ty x) (b off : Nat) (hx : a.eval x = .pointer (some ⟨b, off, none⟩)) (cs : List Value) (hag : (isAgg ty).run P w = .ok true w) (hsz : (sizeOf ty).run P w = .ok cs.length w)
    (hc : ∀ j u, cs[j]? = some u → w.cell? ⟨b, off + j, none⟩ = some u) : (execOp a.eval o).run P w = .ok (.value (.agg cs.toArray)) w := by
  unfold execOp; simp only [ho, hx]
  rw [Sem.run_bind, run_loadN ty cs hag hsz b off hc]; rfl

theorem EB.cell {b : Nat} {t : TypeId} {cs : List Value} (h : (EB b t cs).holds w) {j : Nat} {u : Value} (hu : cs[j]? = some u) : w.cell? ⟨b, j, none⟩ = some u := by
  have h' : w.heap[b]? = some (.cells cs.toArray t (0, 0)) := h
  rw [cell_of_row w b j _ t _ h']; simpa using hu

/-- One cell of a block that is known whole. -/
theorem W_load1 (S : St w0 w L) (hw : Region.wanted o (yielded ops a.tmps) = true) (ty : TypeId) (x : Operand) (ho : o.op = .load ty x) (b off : Nat) (hx : a.eval x = .pointer (some ⟨b, off, none⟩))
    (k : Nat) (t : TypeId) (cs : List Value) (hk : L[k]? = some (EB b t cs)) (v : Value) (hag : ∀ w, (isAgg ty).run P w = .ok false w) (hv : cs[off]? = some v)
    (h : wpList P ops Q rest (a.put o.dst v) w) : wpList P ops Q (o :: rest) a w :=
  wpl_val hw (exec_load1 ty x ho _ hx (hag w) v (EB.cell (S.get hk) hv)) h
/-- Some cells of it (from 'off' on). -/
theorem W_loadN (S : St w0 w L) (hw : Region.wanted o (yielded ops a.tmps) = true) (ty : TypeId) (x : Operand) (ho : o.op = .load ty x) (b off : Nat) (hx : a.eval x = .pointer (some ⟨b, off, none⟩))
    (k : Nat) (t : TypeId) (cs : List Value) (hk : L[k]? = some (EB b t cs)) (vs : List Value) (hag : ∀ w, (isAgg ty).run P w = .ok true w) (hsz : ∀ w, (sizeOf ty).run P w = .ok vs.length w)
    (hv : ∀ j u, vs[j]? = some u → cs[off + j]? = some u) (h : wpList P ops Q rest (a.put o.dst (.agg vs.toArray)) w) : wpList P ops Q (o :: rest) a w :=
  wpl_val hw (exec_loadN ty x ho b off hx vs (hag w) (hsz w) (fun j u hu => EB.cell (S.get hk) (hv j u hu))) h
/-- Cells that are known in the world itself. -/
theorem W_loadC (hw : Region.wanted o (yielded ops a.tmps) = true) (ty : TypeId) (x : Operand) (ho : o.op = .load ty x) (b off : Nat) (hx : a.eval x = .pointer (some ⟨b, off, none⟩))
    (vs : List Value) (hag : ∀ w, (isAgg ty).run P w = .ok true w) (hsz : ∀ w, (sizeOf ty).run P w = .ok vs.length w)
    (hv : ∀ j u, vs[j]? = some u → w.cell? ⟨b, off + j, none⟩ = some u) (h : wpList P ops Q rest (a.put o.dst (.agg vs.toArray)) w) : wpList P ops Q (o :: rest) a w :=
  wpl_val hw (exec_loadN ty x ho b off hx vs (hag w) (hsz w) hv) h
theorem W_load1C (hw : Region.wanted o (yielded ops a.tmps) = true) (ty : TypeId) (x : Operand) (ho : o.op = .load ty x) (ad : Addr) (hx : a.eval x = .pointer (some ad))
    (v : Value) (hag : ∀ w, (isAgg ty).run P w = .ok false w) (hv : w.cell? ad = some v) (h : wpList P ops Q rest (a.put o.dst v) w) : wpList P ops Q (o :: rest) a w :=
  wpl_val hw (exec_load1 ty x ho ad hx (hag w) v hv) h

/-! ### stores -/
theorem set_eq_splice (cs : List Value) (off : Nat) (v : Value) (h : off < cs.length) : cs.take off ++ [v] ++ cs.drop (off + 1) = cs.set off v := by
  rw [List.set_eq_take_append_cons_drop, if_pos h]; simp
theorem run_storeN (ty : TypeId) (v : Value) (hsz : (sizeOf ty).run P w = .ok v.cells.size w) (h1 : ∀ u ∈ v.cells.toList, u.oneCell' = true) (b off : Nat) (t : TypeId) (cs : List Value) (hb : w.heap[b]? = some (.cells cs.toArray t (0, 0))) (hle : off + v.cells.size ≤ cs.length) :
    (Instr.storeAt ty (.pointer (some ⟨b, off, none⟩)) v).run P w = .ok () (w.setRow b (cs.take off ++ v.cells.toList ++ cs.drop (off + v.cells.size)).toArray) := by
  have := run_storeCells_at (P := P) b off t v.cells.toList 0 cs.toArray w hb (by simpa using hle) h1
  simp only [Nat.add_zero, Array.length_toList] at this
  simp [Instr.storeAt, Instr.sureAddr, storeVar, hsz, Sem.run_bind, this]
theorem W_storeN (S : St w0 w L) (hw : Region.wanted o (yielded ops a.tmps) = true) (ty : TypeId) (x y : Operand) (ho : o.op = .store ty x y) (b off : Nat) (hx : a.eval x = .pointer (some ⟨b, off, none⟩))
    (k : Nat) (t : TypeId) (cs : List Value) (hk : L[k]? = some (EB b t cs)) (v : Value) (hy : a.eval y = v) (hsz : ∀ w, (sizeOf ty).run P w = .ok v.cells.size w) (h1 : ∀ u ∈ v.cells.toList, u.oneCell' = true) (cs' : List Value)
    (hle : off + v.cells.size ≤ cs.length) (hcs : cs' = cs.take off ++ v.cells.toList ++ cs.drop (off + v.cells.size))
    (h : ∀ w', St w0 w' (L.set k (EB b t cs')) → wpList P ops Q rest (a.put o.dst undef) w') : wpList P ops Q (o :: rest) a w := by
  subst hcs
  refine wpl_skip hw (w' := w.setRow b (cs.take off ++ v.cells.toList ++ cs.drop (off + v.cells.size)).toArray) ?_ (h _ (S.put k b t cs _ hk))
  unfold execOp; simp only [ho, hx, hy]
  rw [Sem.run_bind, run_storeN ty v (hsz w) h1 b off t cs (S.get hk) hle]; rfl
theorem W_store1 (S : St w0 w L) (hw : Region.wanted o (yielded ops a.tmps) = true) (ty : TypeId) (x y : Operand) (ho : o.op = .store ty x y) (b off : Nat) (hx : a.eval x = .pointer (some ⟨b, off, none⟩))
    (k : Nat) (t : TypeId) (cs : List Value) (hk : L[k]? = some (EB b t cs)) (v : Value) (hy : a.eval y = v) (hv : v.cells = #[v]) (hsz : ∀ w, (sizeOf ty).run P w = .ok 1 w) (h1 : v.oneCell' = true) (hle : off < cs.length)
    (h : ∀ w', St w0 w' (L.set k (EB b t (cs.set off v))) → wpList P ops Q rest (a.put o.dst undef) w') : wpList P ops Q (o :: rest) a w :=
  W_storeN S hw ty x y ho b off hx k t cs hk v hy (by rw [hv]; exact hsz) (by rw [hv]; simpa using h1) (cs.set off v) (by rw [hv]; simp; omega) (by rw [hv]; simp only [List.size_toArray, List.length_cons, List.length_nil, Nat.zero_add]; exact (set_eq_splice cs off v hle).symm) h

/-- A whole block is written. -/
theorem W_storeW (S : St w0 w L) (hw : Region.wanted o (yielded ops a.tmps) = true) (ty : TypeId) (x y : Operand) (ho : o.op = .store ty x y) (b : Nat) (hx : a.eval x = .pointer (some ⟨b, 0, none⟩))
    (k : Nat) (t : TypeId) (cs : List Value) (hk : L[k]? = some (EB b t cs)) (vs : List Value) (hy : a.eval y = .agg vs.toArray) (hsz : ∀ w, (sizeOf ty).run P w = .ok vs.length w) (hlen : cs.length = vs.length) (h1 : ∀ u ∈ vs, u.oneCell' = true)
    (h : ∀ w', St w0 w' (L.set k (EB b t vs)) → wpList P ops Q rest (a.put o.dst undef) w') : wpList P ops Q (o :: rest) a w :=
  W_storeN S hw ty x y ho b 0 hx k t cs hk (.agg vs.toArray) hy (by simpa [Value.cells] using hsz) (by simpa [Value.cells] using h1) vs (by simp [Value.cells, hlen]) (by simp [Value.cells, ← hlen]) h

/-! ### slices that are read -/
/-- The address of an element: the slice's address is drawn out here, so that nil and others go one way. -/
theorem W_index (hw : Region.wanted o (yielded ops a.tmps) = true) (ty : TypeId) (x i : Operand) (ho : o.op = .indexAddr ty x i) (A : Option Addr) (n c : Nat) (hx : a.eval x = .slice A n c) (j : Int) (hi : a.eval i = .int .i64 j)
    (e : TypeId) (hu : P.underlying ty = some (.slice e)) (sz : Nat) (hsz : ∀ w, (sizeOf e).run P w = .ok sz w) (h0 : 0 ≤ j) (h1 : j < n) (hA : ∃ b o, A = some ⟨b, o, none⟩)
    (h : ∀ b off, A = some ⟨b, off, none⟩ → wpList P ops Q rest (a.put o.dst (.pointer (some ⟨b, off + j.toNat * sz, none⟩))) w) : wpList P ops Q (o :: rest) a w := by
  obtain ⟨b, off, rfl⟩ := hA
  refine wpl_val hw (v := .pointer (some ⟨b, off + j.toNat * sz, none⟩)) ?_ (h b off rfl)
  unfold execOp; simp only [ho, hx, hi]
  simp [Instr.indexAt, asIntOf, run_underlying hu, hsz, h0, h1, add_at, Sem.run_bind]

theorem cells_mid {α : Type} (enc : α → List Value) (sz : Nat) (he : ∀ x, (enc x).length = sz) (xs : List α) (i : Nat) (x : α) (hx : xs[i]? = some x) (j : Nat) (u : Value) (hu : (enc x)[j]? = some u) : (xs.flatMap enc)[i * sz + j]? = some u := by
  induction xs generalizing i with
  | nil => simp at hx
  | cons y ys ih =>
    cases i with
    | zero =>
      have : y = x := by simpa using hx
      subst this
      have hj : j < (enc y).length := by
        rcases Nat.lt_or_ge j (enc y).length with h | h
        · exact h
        · rw [List.getElem?_eq_none h] at hu; cases hu
      simp only [List.flatMap_cons, Nat.zero_mul, Nat.zero_add]
      rw [List.getElem?_append_left hj]; exact hu
    | succ i =>
      simp only [List.flatMap_cons]
      rw [List.getElem?_append_right (by rw [he]; rw [Nat.succ_mul]; omega), he]
      rw [show (i + 1) * sz + j - sz = i * sz + j by rw [Nat.succ_mul]; omega]
      exact ih i (by simpa using hx)
theorem flat_length {α : Type} (enc : α → List Value) (sz : Nat) (he : ∀ x, (enc x).length = sz) (xs : List α) : (xs.flatMap enc).length = xs.length * sz := by
  induction xs with
  | nil => simp
  | cons y ys ih => simp only [List.flatMap_cons, List.length_append, he, ih, List.length_cons, Nat.succ_mul]; omega

/-- An element of several cells, out of a row that is read. -/
theorem W_elem {α : Type} (enc : α → List Value) (hw : Region.wanted o (yielded ops a.tmps) = true) (ty : TypeId) (x : Operand) (ho : o.op = .load ty x) (b off i : Nat) (sz : Nat) (hx : a.eval x = .pointer (some ⟨b, off + i * sz, none⟩))
    (xs : List α) (hr : Rd w (some ⟨b, off, none⟩) (xs.flatMap enc)) (he : ∀ x, (enc x).length = sz) (y : α) (hy : xs[i]? = some y) (hag : ∀ w, (isAgg ty).run P w = .ok true w) (hsz : ∀ w, (sizeOf ty).run P w = .ok sz w)
    (h : wpList P ops Q rest (a.put o.dst (.agg (enc y).toArray)) w) : wpList P ops Q (o :: rest) a w :=
  W_loadC hw ty x ho b _ hx (enc y) hag (by rw [he]; exact hsz) (fun j u hu => by
    have := hr.2 b off rfl (i * sz + j) u (cells_mid enc sz he xs i y hy j u hu)
    rwa [← Nat.add_assoc] at this) h

/-! ### an array by value, indexed -/
theorem W_idxN (hw : Region.wanted o (yielded ops a.tmps) = true) (ty : TypeId) (x i : Operand) (ho : o.op = .index ty x i) (cs : List Value) (hx : a.eval x = .agg cs.toArray) (j : Int) (hi : a.eval i = .int .i64 j)
    (n : Nat) (e : TypeId) (hu : P.underlying ty = some (.array n e)) (sz : Nat) (hag : ∀ w, (isAgg e).run P w = .ok true w) (hsz : ∀ w, (sizeOf e).run P w = .ok sz w) (h0 : 0 ≤ j) (h1 : j < n)
    (vs : List Value) (hvs : vs = (cs.drop (j.toNat * sz)).take sz) (h : wpList P ops Q rest (a.put o.dst (.agg vs.toArray)) w) : wpList P ops Q (o :: rest) a w := by
  subst hvs
  refine wpl_val hw ?_ h
  unfold execOp; simp only [ho, hx, hi]
  simp [Instr.index, asIntOf, run_underlying hu, hsz, hag, h0, h1, part, Sem.run_bind, List.extract_eq_take_drop]
theorem W_idx1 (hw : Region.wanted o (yielded ops a.tmps) = true) (ty : TypeId) (x i : Operand) (ho : o.op = .index ty x i) (cs : List Value) (hx : a.eval x = .agg cs.toArray) (j : Int) (hi : a.eval i = .int .i64 j)
    (n : Nat) (e : TypeId) (hu : P.underlying ty = some (.array n e)) (hag : ∀ w, (isAgg e).run P w = .ok false w) (hsz : ∀ w, (sizeOf e).run P w = .ok 1 w) (h0 : 0 ≤ j) (h1 : j < n)
    (v : Value) (hv : cs[j.toNat]? = some v) (h : wpList P ops Q rest (a.put o.dst v) w) : wpList P ops Q (o :: rest) a w := by
  refine wpl_val hw ?_ h
  unfold execOp; simp only [ho, hx, hi]
  simp [Instr.index, asIntOf, run_underlying hu, hsz, hag, h0, h1, part, Sem.run_bind, hv]

/-! ### append -/
theorem W_append (S : St w0 w L) (hw : Region.wanted o (yielded ops a.tmps) = true) (s x : Operand) (T : TypeId) (ho : o.op = .call { callee := .builtin .append, args := #[s, x], argTypes := #[T, T] })
    (k : Nat) (e : TypeId) (sz : Nat) (v : Value) (n : Nat) (xs : List Value) (hk : L[k]? = some (ER e sz v n xs)) (hs : a.eval s = v)
    (j : Nat) (b : Nat) (t : TypeId) (news : List Value) (hj : L[j]? = some (EB b t news)) (m c : Nat) (hx : a.eval x = .slice (some ⟨b, 0, none⟩) m c)
    (i : TypeInfo) (z : Value) (bytes : Nat) (hT : P.underlying T = some (.slice e)) (hinfo : (P.info? e).map (fun i => (i.zero, i.size, i.bytes)) = some (some z, sz, bytes)) (hzs : z.cells.size = sz) (h0 : 0 < sz)
    (hl : news.length = m * sz) (h1 : ∀ u ∈ news, u.oneCell' = true) (hn : n + m ≤ maxLen) (hbytes : (n + m) * bytes ≤ 140737488355328)
    (h : ∀ A' c' w', St w0 w' (L.set k (ER e sz (.slice A' (n + m) c') (n + m) (xs ++ news))) → wpList P ops Q rest (a.put o.dst (.slice A' (n + m) c')) w') : wpList P ops Q (o :: rest) a w := by
  obtain ⟨i0, hi, hzz⟩ := Option.map_eq_some_iff.1 hinfo
  simp only [Prod.mk.injEq] at hzz
  obtain ⟨hz0, hz1, hz2⟩ := hzz
  have hb := S.get hj
  obtain ⟨v', w', hr, h2, h3, _, h5⟩ := run_append_own_at (P := P) w 0 T o.type e i0 z sz bytes hT hi hz0 hz1 hz2 hzs h0 v n xs (S.get hk) ⟨b, 0, none⟩ m c news hl
    (fun q u hu => by rw [add_at, Nat.zero_add]; exact EB.cell hb hu) h1 hn hbytes (Nat.zero_le _)
  obtain ⟨A', c', rfl⟩ := owns_slice h2
  refine wpl_val hw (v := .slice A' (n + m) c') (w' := w') ?_ (h A' c' w' (S.mut k _ _ hk h3 h2 ?_))
  · unfold execOp
    simp only [ho, resolve, invoke, builtin, Sem.run_bind, Sem.run_pure, Result.andThen_ok, List.map_toArray, List.map_cons, List.map_nil, hs, hx, hr]
  · rcases h5 with h5 | h5
    · exact .inr (.inl h5)
    · refine .inr (.inr ⟨w.heap.size, h5, Nat.le_refl _, ?_⟩)
      exact (h2.lt _ h5).2

/-! ### results that lie in cells -/
theorem loadVar_EB (S : St w0 w L) (k : Nat) (b : Nat) (t ty : TypeId) (cs : List Value) (hk : L[k]? = some (EB b t cs)) (hag : ∀ w, (isAgg ty).run P w = .ok true w) (hsz : ∀ w, (sizeOf ty).run P w = .ok cs.length w) :
    (loadVar ty ⟨b, 0, none⟩).run P w = .ok (.agg cs.toArray) w := by
  have := run_loadN (P := P) ty cs (hag w) (hsz w) b 0 (fun j u hu => by rw [Nat.zero_add]; exact EB.cell (S.get hk) hu)
  simpa [Instr.loadAt, Instr.sureAddr] using this
theorem W_ret_c {fn : Func} {R : Ending → World → Prop} {p : Tmp} {ty : TypeId} (hf : fn.results = #[.cell p ty]) (S : St w0 w L) (b : Nat) (hp : a.tmps.getD p undef = .pointer (some ⟨b, 0, none⟩)) (hd : a.defers = [])
    (k : Nat) (t : TypeId) (cs : List Value) (hk : L[k]? = some (EB b t cs)) (hag : ∀ w, (isAgg ty).run P w = .ok true w) (hsz : ∀ w, (sizeOf ty).run P w = .ok cs.length w)
    (hR : R (.returned (.agg cs.toArray)) w) : bodyPost P fn R .ret a w := by
  refine bodyPost_ret (v := .agg cs.toArray) ?_ hd hR
  have hp' : a.tmps[p]?.getD undef = .pointer (some ⟨b, 0, none⟩) := by simpa using hp
  simp [results, hf, hp', asAddr, loadVar_EB S k b t ty cs hk hag hsz]
theorem W_ret_ct {fn : Func} {R : Ending → World → Prop} {p q : Tmp} {ty : TypeId} (hf : fn.results = #[.cell p ty, .tmp q]) (S : St w0 w L) (b : Nat) (hp : a.tmps.getD p undef = .pointer (some ⟨b, 0, none⟩)) (u : Value) (hq : a.tmps.getD q undef = u) (hd : a.defers = [])
    (k : Nat) (t : TypeId) (cs : List Value) (hk : L[k]? = some (EB b t cs)) (hag : ∀ w, (isAgg ty).run P w = .ok true w) (hsz : ∀ w, (sizeOf ty).run P w = .ok cs.length w)
    (hR : R (.returned (.tuple #[.agg cs.toArray, u])) w) : bodyPost P fn R .ret a w := by
  refine bodyPost_ret (v := .tuple #[.agg cs.toArray, u]) ?_ hd hR
  have hp' : a.tmps[p]?.getD undef = .pointer (some ⟨b, 0, none⟩) := by simpa using hp
  have hq' : a.tmps[q]?.getD undef = u := by simpa using hq
  simp [results, hf, hp', hq', asAddr, loadVar_EB S k b t ty cs hk hag hsz]
theorem W_ret_ctt {fn : Func} {R : Ending → World → Prop} {p q r : Tmp} {ty : TypeId} (hf : fn.results = #[.cell p ty, .tmp q, .tmp r]) (S : St w0 w L) (b : Nat) (hp : a.tmps.getD p undef = .pointer (some ⟨b, 0, none⟩)) (u x : Value) (hq : a.tmps.getD q undef = u) (hr : a.tmps.getD r undef = x) (hd : a.defers = [])
    (k : Nat) (t : TypeId) (cs : List Value) (hk : L[k]? = some (EB b t cs)) (hag : ∀ w, (isAgg ty).run P w = .ok true w) (hsz : ∀ w, (sizeOf ty).run P w = .ok cs.length w)
    (hR : R (.returned (.tuple #[.agg cs.toArray, u, x])) w) : bodyPost P fn R .ret a w := by
  refine bodyPost_ret (v := .tuple #[.agg cs.toArray, u, x]) ?_ hd hR
  have hp' : a.tmps[p]?.getD undef = .pointer (some ⟨b, 0, none⟩) := by simpa using hp
  have hq' : a.tmps[q]?.getD undef = u := by simpa using hq
  have hr' : a.tmps[r]?.getD undef = x := by simpa using hr
  simp [results, hf, hp', hq', hr', asAddr, loadVar_EB S k b t ty cs hk hag hsz]

/-! ### regions that draw: what is read there -/
abbrev mixC (w : World) : World → Prop := fun w' => ∃ p : MixBy, w' = grow (sd w p.n) p.os
theorem Q_val {C : World → Prop} {K : Act → Prop} {v : Value} (hrun : ∀ w', C w' → (execOp a.eval o).run P w' = .ok (.value v) w') (h : K (a.put o.dst v)) : o.quiet P a C K :=
  ⟨v, fun w hw => by unfold Oper.quietAt; rw [hrun w hw]; exact ⟨rfl, rfl⟩, h⟩
theorem Q_load1 {K : Act → Prop} (S : St w0 w L) (ty : TypeId) (x : Operand) (ho : o.op = .load ty x) (b off : Nat) (hx : a.eval x = .pointer (some ⟨b, off, none⟩))
    (k : Nat) (t : TypeId) (cs : List Value) (hk : L[k]? = some (EB b t cs)) (v : Value) (hag : ∀ w, (isAgg ty).run P w = .ok false w) (hv : cs[off]? = some v)
    (h : K (a.put o.dst v)) : o.quiet P a (mixC w) K :=
  Q_val (fun w' ⟨p, hp⟩ => by subst hp; exact exec_load1 ty x ho _ hx (hag _) v (EB.cell ((S.callB (mix_below _ _ _)).get hk) hv)) h
theorem Q_loadN {K : Act → Prop} (S : St w0 w L) (ty : TypeId) (x : Operand) (ho : o.op = .load ty x) (b off : Nat) (hx : a.eval x = .pointer (some ⟨b, off, none⟩))
    (k : Nat) (t : TypeId) (cs : List Value) (hk : L[k]? = some (EB b t cs)) (vs : List Value) (hag : ∀ w, (isAgg ty).run P w = .ok true w) (hsz : ∀ w, (sizeOf ty).run P w = .ok vs.length w)
    (hv : ∀ j u, vs[j]? = some u → cs[off + j]? = some u) (h : K (a.put o.dst (.agg vs.toArray))) : o.quiet P a (mixC w) K :=
  Q_val (fun w' ⟨p, hp⟩ => by subst hp; exact exec_loadN ty x ho b off hx vs (hag _) (hsz _) (fun j u hu => EB.cell ((S.callB (mix_below _ _ _)).get hk) (hv j u hu))) h
/-- The cells of the world itself (they lay there before). -/
theorem Q_loadC {K : Act → Prop} (ty : TypeId) (x : Operand) (ho : o.op = .load ty x) (b off : Nat) (hx : a.eval x = .pointer (some ⟨b, off, none⟩))
    (vs : List Value) (hag : ∀ w, (isAgg ty).run P w = .ok true w) (hsz : ∀ w, (sizeOf ty).run P w = .ok vs.length w)
    (hv : ∀ j u, vs[j]? = some u → w.cell? ⟨b, off + j, none⟩ = some u) (h : K (a.put o.dst (.agg vs.toArray))) : o.quiet P a (mixC w) K :=
  Q_val (fun w' ⟨p, hp⟩ => by subst hp; exact exec_loadN ty x ho b off hx vs (hag _) (hsz _) (fun j u hu => by
    rw [cell_mix (block_lt_of_cell (hv j u hu))]; exact hv j u hu)) h
theorem Q_index {K : Act → Prop} {C : World → Prop} (ty : TypeId) (x i : Operand) (ho : o.op = .indexAddr ty x i) (b off n c : Nat) (hx : a.eval x = .slice (some ⟨b, off, none⟩) n c) (j : Int) (hi : a.eval i = .int .i64 j)
    (e : TypeId) (hu : P.underlying ty = some (.slice e)) (sz : Nat) (hsz : ∀ w, (sizeOf e).run P w = .ok sz w) (h0 : 0 ≤ j) (h1 : j < n)
    (h : K (a.put o.dst (.pointer (some ⟨b, off + j.toNat * sz, none⟩)))) : o.quiet P a C K :=
  Q_val (fun w' _ => by
    unfold execOp; simp only [ho, hx, hi]
    simp [Instr.indexAt, asIntOf, run_underlying hu, hsz, h0, h1, add_at, Sem.run_bind]) h
theorem Q_elem {α : Type} (enc : α → List Value) {K : Act → Prop} (ty : TypeId) (x : Operand) (ho : o.op = .load ty x) (b off i : Nat) (sz : Nat) (hx : a.eval x = .pointer (some ⟨b, off + i * sz, none⟩))
    (xs : List α) (hr : Rd w (some ⟨b, off, none⟩) (xs.flatMap enc)) (he : ∀ x, (enc x).length = sz) (y : α) (hy : xs[i]? = some y) (hag : ∀ w, (isAgg ty).run P w = .ok true w) (hsz : ∀ w, (sizeOf ty).run P w = .ok sz w)
    (h : K (a.put o.dst (.agg (enc y).toArray))) : o.quiet P a (mixC w) K :=
  Q_loadC ty x ho b _ hx (enc y) hag (by rw [he]; exact hsz) (fun j u hu => by
    have := hr.2 b off rfl (i * sz + j) u (cells_mid enc sz he xs i y hy j u hu)
    rwa [← Nat.add_assoc] at this) h
end
end Go.Proofs.Ytpfmmbdddecphaa
